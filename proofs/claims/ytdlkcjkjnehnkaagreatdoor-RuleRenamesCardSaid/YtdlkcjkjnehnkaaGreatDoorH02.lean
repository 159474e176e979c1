import Derived.Lib.IndexAny
import Derived.Test.YtdlkcjkjnehnkaaGreatDoorH01
namespace Go.Proofs.YtdlkcjkjnehnkaaGreatDoor
open Go.ChangeShapes Go.WideShapes Go.ChangeAt Go.RowKit Go.Lib
open _root_.Go.Proofs.Tryz
set_option linter.all false
set_option maxRecDepth 100000
set_option maxHeartbeats 32000000
theorem KY(l:List UInt8)(a b:Nat):(bs l).extract a b=bs ((l.drop a).take (b-a)):=by
 apply ByteArray.ext;simp[bs,ByteArray.data_extract]
theorem Jjz(l:List UInt8){k:Nat}(h:k<l.length):∀ h',((bs l)[k]'h').toNat=(l[k]'h).toNat:=by
 intro h';simp only[bs];rfl
def QdD(w:World)(p:Nat):Prop:=∀ i,i<256->w.cell? ⟨p,i,none⟩=some (.int .u8 (QbO i:Nat))
theorem JiV{c:UInt8}:Qcp c=true↔QbO c.toNat=1:=by
 have:=c.toNat_lt;simp only[Qcp,QbO,g3,g2,g1,Bool.or_eq_true,beq_iff_eq,<- UInt8.toNat_inj]
 repeat' split
 all_goals simp
 all_goals omega
theorem JeW{c:UInt8}:Qci c=true↔QbO c.toNat=2:=by
 have:=c.toNat_lt;simp only[Qci,QbO,g3,g2,g1,Bool.and_eq_true,decide_eq_true_eq]
 repeat' split
 all_goals first|omega|(simp;omega)
theorem JeX{c:UInt8}:Qdy c=true↔QbO c.toNat=3:=by
 have:=c.toNat_lt;simp only[Qdy,QbO,g3,g2,g1,Bool.and_eq_true,decide_eq_true_eq]
 repeat' split
 all_goals first|omega|(simp;omega)
theorem JkZ{c:UInt8}:c=95↔QbO c.toNat=4:=by
 have:=c.toNat_lt;rw[<- UInt8.toNat_inj];simp only[QbO,g3,g2,g1]
 show c.toNat=95↔_
 repeat' split
 all_goals omega
theorem JiW{c:UInt8}:c=34↔QbO c.toNat=5:=by
 have:=c.toNat_lt;rw[<- UInt8.toNat_inj];simp only[QbO,g3,g2,g1]
 show c.toNat=34↔_
 repeat' split
 all_goals omega
theorem Jla{c:UInt8}:QbB c=true↔QbO c.toNat=2\/QbO c.toNat=3\/QbO c.toNat=4:=by
 rw[<- JeW,<- JeX,<- JkZ];simp[QbB,or_assoc]
theorem JeY{l:List UInt8}{k:Nat}(h:∀ c∈l.take k,QbB c=true)(hn:(l.drop k).head?.map QbB≠some true):Qao l=l.take k:=by
 have:=Vz h hn
 rwa [List.take_append_drop]at this
theorem Qlz{P:Prop}(h:P:=by
  go_wp2;go_quiet (fail);go_wp2;go_roundw
  case rel=>exact⟨k+1,_,by omega,by go_num,H,by first|rfl|(simp;rfl)⟩
  case measure=>simp[intOf];omega):P:=h
theorem YO(l:List UInt8)(p:Nat)(w:World)(hC:QdD w p)(hl:l.length<=281474976710656):Calls prog 61 #[.pointer (some ⟨p,0,none⟩),.string (bs l)] w (Qdq w (Qao l)):=by
 have hs:=JF l;go_enter func61,ntmps61;go_wp2;go_loopw [5] (fun v wr=>∃ k n:Nat,k<=l.length/\v=.int .i64 k/\Hid (∀ c∈l.take k,QbB c=true)/\wr=w.drewN n) (fun v _=>l.length-(intOf v).toNat)
 case atStart=>exact⟨0,0,by omega,rfl,by unfold Hid;simp,rfl⟩
 case round=>
  obtain⟨k,n,hk,rfl,HA,rfl⟩:=hrel;have fin:Hid ((l.drop k).head?.map QbB≠some true)->Hid (Qao l=l.take k):=fun h=>JeY HA.out h.out
  have hex:(bs l).extract 0 k=bs (l.take k):=by rw[KY];simp
  by_cases hlt:k<l.length
  ·have d1:decide ((k:Int)<(l.length:Int))=true:=decide_eq_true (by omega);have hg:=Jjz l hlt;have hx:l[k].toNat<256:=l[k].toNat_lt;have hcell:=hC _ hx;have HW:=Zh (Jla (c:=l[k]))
   have HN:QbB l[k]=true->Hid (∀ c∈l.take (k+1),QbB c=true):=by
    intro h c hc;rw[List.take_succ_eq_append_getElem hlt,List.mem_append]at hc
    rcases hc with hc|hc
    ·exact HA.out c hc
    ·rw[List.mem_singleton]at hc;rw[hc];exact h
   have HF:QbB l[k]=false->Hid ((l.drop k).head?.map QbB≠some true):=by
    intro h;unfold Hid;rw[List.drop_eq_getElem_cons hlt,List.head?_cons,Option.map_some,h];simp
   obtain⟨x,hxe⟩:∃ x,l[k].toNat=x:=⟨_,rfl⟩
   rw[hxe]at hg hcell HW hx;clear hxe
   by_cases h2:QbO x=2
   ·have H:=HN (HW.out.2 (.inl h2));rw[h2]at hcell;clear HN HF fin h2 HW hC;exact Qlz
   ·by_cases h3:QbO x=3
    ·have H:=HN (HW.out.2 (.inr (.inl h3)));rw[h3]at hcell;clear HN HF fin h2 h3 HW hC;exact Qlz
    ·by_cases h4:QbO x=4
     ·have H:=HN (HW.out.2 (.inr (.inr h4)));rw[h4]at hcell;clear HN HF fin h2 h3 h4 HW hC;exact Qlz
     ·have hno:QbB l[k]=false:=by
       cases h:QbB l[k]with
       |false=>rfl
       |true=>rcases HW.out.1 h with h|h|h<;>contradiction
      have H:=fin (HF hno);generalize QbO x=cn at *;have e2:((cn:Int)==2)=false:=zzq (by omega);have e3:((cn:Int)==3)=false:=zzq (by omega);have e4:((cn:Int)==4)=false:=zzq (by omega);clear HN HF fin h2 h3 h4 HW hC hno;go_wp2;go_quiet (fail);go_wp2;go_ret;exact⟨by rw[H.out];rfl,Kw zzb _⟩
  ·have d1:decide ((k:Int)<(l.length:Int))=false:=decide_eq_false (by omega);have H:=fin (by unfold Hid;rw[List.drop_eq_nil_of_le (by omega)];simp);clear fin hC;go_wp2;go_quiet (fail);go_wp2;go_ret;exact⟨by rw[H.out];rfl,Kw zzb _⟩
theorem Jhs:∀ (k f:Nat) (l:List UInt8),(∀ c∈l.take k,c≠34/\¬ (c.toNat<32\/126<c.toNat\/c=92))->k<=l.length->k<=f->Qax f l=(Qax (f-k) (l.drop k)).map (l.take k++·):=by
 intro k
 induction k with
 |zero=>
  intro f l _ _ _;simp only[Nat.sub_zero,List.drop_zero,List.take_zero]
  cases Qax f l<;>simp
 |succ k ih=>
  intro f l h hl hf
  cases l with
  |nil=>simp at hl
  |cons c r=>
   obtain⟨g,rfl⟩:∃ g,f=g+1:=⟨f-1,by omega⟩
   have hc:=h c (by simp);simp only[Qax];rw[if_neg hc.1,if_neg hc.2,ih g r (fun d hd=>h d (by simp[hd])) (by simpa using hl) (by omega)];rw[show g+1-(k+1)=g-k by omega];simp only[List.drop_succ_cons,List.take_succ_cons]
   cases Qax (g-k) (r.drop k)<;>simp
def QfO(o:Option (List UInt8))(w:World)(e:Ending)(w':World):Prop:=e=.returned (.tuple #[.string (bs (o.getD [])),.bool o.isSome])/\w=w'
theorem JbZ(l:List UInt8)(w:World)(hl:l.length<=281474976710656):Calls prog 63 #[.string (bs l)] w (QfO (Qax 25 l) w):=by
 have hs:=JF l;have hnil:bs []=(⟨#[]⟩:ByteArray):=rfl;go_enter func63,ntmps63;go_wp2;go_loop [4] (fun v=>∃ k:Nat,k<=l.length/\k<=25/\v=.int .i64 k/\Hid (∀ c∈l.take k,c≠34/\¬ (c.toNat<32\/126<c.toNat\/c=92))) (fun v=>l.length-(intOf v).toNat)
 case atStart=>exact⟨0,by omega,by omega,rfl,by unfold Hid;simp⟩
 case round=>
  obtain⟨k,hk,h25,rfl,HA⟩:=hrel;have hex:(bs l).extract 0 k=bs (l.take k):=by rw[KY];simp
  have HT:=Zh (Jhs k 25 l HA.out hk h25);have none':Hid (Qax 25 l=none)->Hid (QfO (Qax 25 l) w (.returned (.tuple #[.string ⟨#[]⟩,.bool false])) w):=fun h=>⟨by rw[h.out];rfl,rfl⟩
  by_cases hlt:k<l.length
  ·have d1:decide ((k:Int)<(l.length:Int))=true:=decide_eq_true (by omega)
   by_cases hlt2:k<25
   ·have d2:decide ((k:Int)<=24)=true:=decide_eq_true (by omega);have hg:=Jjz l hlt;have hx:l[k].toNat<256:=l[k].toNat_lt
    have HD:Hid (Qax 25 l=if l[k]=34 then some (l.take k) else if l[k].toNat<32\/126<l[k].toNat\/l[k]=92 then none else Qax 25 l):=by
     unfold Hid;have h1:=HT.out;rw[List.drop_eq_getElem_cons hlt,show 25-k=(24-k)+1 by omega]at h1;simp only[Qax]at h1;split
     ·rename_i hq;rw[if_pos hq]at h1;rw[h1];simp
     ·rename_i hq;rw[if_neg hq]at h1;split
      ·rename_i hb;rw[if_pos hb]at h1;rw[h1];rfl
      ·rfl
    have HN:l[k]≠34->¬ (l[k].toNat<32\/126<l[k].toNat\/l[k]=92)->Hid (∀ c∈l.take (k+1),c≠34/\¬ (c.toNat<32\/126<c.toNat\/c=92)):=by
     intro h1 h2 c hc;rw[List.take_succ_eq_append_getElem hlt,List.mem_append]at hc
     rcases hc with hc|hc
     ·exact HA.out c hc
     ·rw[List.mem_singleton]at hc;rw[hc];exact⟨h1,h2⟩
    have e34:l[k]=34↔l[k].toNat=34:=⟨fun h=>by rw[h];rfl,fun h=>UInt8.toNat_inj.1 h⟩
    have e92:l[k]=92↔l[k].toNat=92:=⟨fun h=>by rw[h];rfl,fun h=>UInt8.toNat_inj.1 h⟩
    simp only[Ne,e34,e92]at HN HD;obtain⟨x,hxe⟩:∃ x,l[k].toNat=x:=⟨_,rfl⟩
    rw[hxe]at hg HD HN hx;clear hxe e34 e92 HT
    by_cases h34:x=34
    ·have H:Hid (Qax 25 l=some (l.take k)):=by unfold Hid;rw[HD.out,if_pos h34]
     subst h34;clear HD HN none';go_wp2;go_ret2;exact⟨by rw[H.out];rfl,rfl⟩
    ·have i34:((x:Int)==34)=false:=zzq (by omega)
     by_cases h32:x<32
     ·have H:Hid (Qax 25 l=none):=by unfold Hid;rw[HD.out,if_neg h34,if_pos (.inl h32)]
      have b1:decide ((x:Int)<32)=true:=decide_eq_true (by omega);clear HD HN none' h34 h32;go_wp2;go_ret2;exact⟨by rw[H.out];rfl,rfl⟩
     ·have b1:decide ((x:Int)<32)=false:=decide_eq_false (by omega)
      by_cases h126:126<x
      ·have H:Hid (Qax 25 l=none):=by unfold Hid;rw[HD.out,if_neg h34,if_pos (.inr (.inl h126))]
       have b2:decide (126<(x:Int))=true:=decide_eq_true (by omega);clear HD HN none' h34 h32 h126;go_wp2;go_ret2;exact⟨by rw[H.out];rfl,rfl⟩
      ·have b2:decide (126<(x:Int))=false:=decide_eq_false (by omega)
       by_cases h92:x=92
       ·have H:Hid (Qax 25 l=none):=by unfold Hid;rw[HD.out,if_neg h34,if_pos (.inr (.inr h92))]
        subst h92;clear HD HN none';go_wp2;go_ret2;exact⟨by rw[H.out];rfl,rfl⟩
       ·have i92:((x:Int)==92)=false:=zzq (by omega);have H:=HN h34 (by omega);clear HD HN none' h34 h32 h126 h92;go_wp2;go_round
        case rel=>exact⟨k+1,by omega,by omega,by go_num,H⟩
        case measure=>simp[intOf];omega
   ·have d2:decide ((k:Int)<=24)=false:=decide_eq_false (by omega);have H:Hid (Qax 25 l=none):=by unfold Hid;rw[HT.out,show 25-k=0 by omega];rfl
    clear HT none';go_wp2;go_ret2;exact⟨by rw[H.out];rfl,rfl⟩
  ·have d1:decide ((k:Int)<(l.length:Int))=false:=decide_eq_false (by omega)
   have H:Hid (Qax 25 l=none):=by
    unfold Hid;rw[HT.out,List.drop_eq_nil_of_le (by omega)]
    cases 25-k<;>rfl
   clear HT none';go_wp2;go_ret2;exact⟨by rw[H.out];rfl,rfl⟩
theorem QiI(l:List UInt8)(a b:UInt8):Lib.hasPrefix l [a,b]=decide (l.take 2=[a,b]):=by
 rw[<- Lib.hasPrefix_of_take]
 by_cases h:l.take 2=[a,b]
 ·have hl:2<=l.length:=by
   have:=congrArg List.length h;simp at this;omega
  simp[h,hl]
 ·have:(l.take 2==[a,b])=false:=by simpa using h
  simp only[List.length_cons,List.length_nil,this,Bool.and_false,h,decide_false]
theorem Jam(l:List UInt8)(a b:UInt8)(w:World):Calls prog 92 #[.string (bs l),.string { data:=#[a,b] }] w (Qcm (.bool (decide (l.take 2=[a,b]))) w):=by
 refine(Tryz.strings_HasPrefix (bs l) { data:=#[a,b] } w).mono ?_;rintro e w' ⟨rfl,rfl⟩;refine⟨?_,rfl⟩;rw[Vy,<- QiI]
theorem JjA(c:Nat)(hc:c<256)(w:World):Calls prog 93 #[.string { data:=#[40,41,44,58,61,60,62,43,45,42,47,37] },.int .u8 (c:Nat)] w (Qcm (.int .i64 (Lib.indexByte QaF c.toUInt8)) w):=by
 refine(Tryz.strings_IndexByte { data:=#[40,41,44,58,61,60,62,43,45,42,47,37] } (c:Nat) w).mono ?_;rintro e w' ⟨rfl,rfl⟩;exact⟨rfl,rfl⟩
theorem JjB(c:UInt8):0<=Lib.indexByte QaF c↔c∈QaF:=by
 have h:=Lib.contains_iff_indexByte QaF c;rw[Bool.eq_iff_iff,decide_eq_true_iff]at h;rw[<- h,List.contains_iff_mem]
theorem Qmd{P:Prop}(h:P:=by
  generalize Lib.indexByte QaF c=z at *;clear hno hm HS;go_wp2_with fail;refine(hc _).mono ?_;rintro e w' ⟨rfl,rfl⟩;go_wp2;go_ret
  exact⟨by rw[HR.out];rfl,rfl⟩):P:=h
theorem Jca(c:UInt8)(r:List UInt8)(w:World)(hl:(c::r).length<=281474976710656):Calls prog 64 #[.string (bs (c::r))] w (Qcm (.string (bs (Qat (c::r)))) w):=by
 obtain⟨l,hL⟩:∃ l,l=c::r:=⟨_,rfl⟩
 have hg:∀ h,((bs l)[0]'h).toNat=c.toNat:=by rw[hL];intro h;rfl
 have hlen:l.length=r.length+1:=by rw[hL];rfl
 have hpos:0<l.length:=by omega
 have hex:(bs l).extract 0 1=bs [c]:=by rw[KY,hL];simp
 have HS:Hid (Qat l=if l.take 2∈Qco then l.take 2 else if c∈QaF then [c] else []):=by
  unfold Hid;rw[hL,Qat];rw[if_neg (show ¬ (c::r).head?=none by simp)];rfl
 rw[<- hL]at hl |-;have hs:=JF l;clear hL hlen;have hc:=JjA c.toNat c.toNat_lt;have hco:c.toNat.toUInt8=c:=by simp
 rw[hco]at hc;have HI:=Zh (JjB c);have i0:∀ w,(Instr.index 110 (.agg #[.string { data:=#[61,61] },.string { data:=#[33,61] },.string { data:=#[60,61] },.string { data:=#[62,61] }]) (.int .i64 0)).run prog w=.ok (.string { data:=#[61,61] }) w:=fun _=>by kernel_rfl
 have i1:∀ w,(Instr.index 110 (.agg #[.string { data:=#[61,61] },.string { data:=#[33,61] },.string { data:=#[60,61] },.string { data:=#[62,61] }]) (.int .i64 1)).run prog w=.ok (.string { data:=#[33,61] }) w:=fun _=>by kernel_rfl
 have i2:∀ w,(Instr.index 110 (.agg #[.string { data:=#[61,61] },.string { data:=#[33,61] },.string { data:=#[60,61] },.string { data:=#[62,61] }]) (.int .i64 2)).run prog w=.ok (.string { data:=#[60,61] }) w:=fun _=>by kernel_rfl
 have i3:∀ w,(Instr.index 110 (.agg #[.string { data:=#[61,61] },.string { data:=#[33,61] },.string { data:=#[60,61] },.string { data:=#[62,61] }]) (.int .i64 3)).run prog w=.ok (.string { data:=#[62,61] }) w:=fun _=>by kernel_rfl
 have b0:Hid ((⟨#[61,61]⟩:ByteArray)=bs [61,61]):=rfl;have b1:Hid ((⟨#[33,61]⟩:ByteArray)=bs [33,61]):=rfl;have b2:Hid ((⟨#[60,61]⟩:ByteArray)=bs [60,61]):=rfl;have b3:Hid ((⟨#[62,61]⟩:ByteArray)=bs [62,61]):=rfl;have b9:Hid ((⟨#[]⟩:ByteArray)=bs []):=rfl;generalize hcc:c.toNat=x at *;have hx:x<256:=by rw[<- hcc];exact c.toNat_lt
 clear hcc hco;go_enter func64,ntmps64;go_wp2;go_loop [6,4] (fun v _=>∃ k:Nat,k<=4/\v=.int .i64 k/\Hid ((0<k->l.take 2≠[61,61])/\(1<k->l.take 2≠[33,61])/\(2<k->l.take 2≠[60,61])/\(3<k->l.take 2≠[62,61]))) (fun v _=>4-(intOf v).toNat)
 case atStart=>exact⟨0,by omega,rfl,by unfold Hid;refine⟨?_,?_,?_,?_⟩<;>(intro h;omega)⟩
 case round=>
  obtain⟨k,hk,rfl,HA⟩:=hrel
  by_cases hlt:k<4
  ·rcases (by omega:k=0\/k=1\/k=2\/k=3) with rfl|rfl|rfl|rfl
   ·go_wp2_with fail;refine(Jam l 61 61 w).mono ?_
    by_cases h:l.take 2=[61,61]
    ·have HR:Hid (Qat l=[61,61]):=by unfold Hid;rw[HS.out,if_pos (by rw[h];decide),h]
     have hd:decide (l.take 2=[61,61])=true:=decide_eq_true h;rw[hd];rintro e w' ⟨rfl,rfl⟩;clear h hd;go_wp2;go_ret;exact⟨by rw[HR.out,<- b0.out];rfl,rfl⟩
    ·have H:Hid ((0<1->l.take 2≠[61,61])/\(1<1->l.take 2≠[33,61])/\(2<1->l.take 2≠[60,61])/\(3<1->l.take 2≠[62,61])):=⟨fun _=>h,by omega,by omega,by omega⟩
     have hd:decide (l.take 2=[61,61])=false:=decide_eq_false h;rw[hd];rintro e w' ⟨rfl,rfl⟩;clear h hd;go_wp2;go_round
     case rel=>exact⟨1,by omega,rfl,H⟩
     case measure=>simp[intOf]
   ·go_wp2_with fail;refine(Jam l 33 61 w).mono ?_
    by_cases h:l.take 2=[33,61]
    ·have HR:Hid (Qat l=[33,61]):=by unfold Hid;rw[HS.out,if_pos (by rw[h];decide),h]
     have hd:decide (l.take 2=[33,61])=true:=decide_eq_true h;rw[hd];rintro e w' ⟨rfl,rfl⟩;clear h hd;go_wp2;go_ret;exact⟨by rw[HR.out,<- b1.out];rfl,rfl⟩
    ·have H:Hid ((0<2->l.take 2≠[61,61])/\(1<2->l.take 2≠[33,61])/\(2<2->l.take 2≠[60,61])/\(3<2->l.take 2≠[62,61])):=⟨fun _=>HA.out.1 (by omega),fun _=>h,by omega,by omega⟩
     have hd:decide (l.take 2=[33,61])=false:=decide_eq_false h;rw[hd];rintro e w' ⟨rfl,rfl⟩;clear h hd;go_wp2;go_round
     case rel=>exact⟨2,by omega,rfl,H⟩
     case measure=>simp[intOf]
   ·go_wp2_with fail;refine(Jam l 60 61 w).mono ?_
    by_cases h:l.take 2=[60,61]
    ·have HR:Hid (Qat l=[60,61]):=by unfold Hid;rw[HS.out,if_pos (by rw[h];decide),h]
     have hd:decide (l.take 2=[60,61])=true:=decide_eq_true h;rw[hd];rintro e w' ⟨rfl,rfl⟩;clear h hd;go_wp2;go_ret;exact⟨by rw[HR.out,<- b2.out];rfl,rfl⟩
    ·have H:Hid ((0<3->l.take 2≠[61,61])/\(1<3->l.take 2≠[33,61])/\(2<3->l.take 2≠[60,61])/\(3<3->l.take 2≠[62,61])):=⟨fun _=>HA.out.1 (by omega),fun _=>HA.out.2.1 (by omega),fun _=>h,by omega⟩
     have hd:decide (l.take 2=[60,61])=false:=decide_eq_false h;rw[hd];rintro e w' ⟨rfl,rfl⟩;clear h hd;go_wp2;go_round
     case rel=>exact⟨3,by omega,rfl,H⟩
     case measure=>simp[intOf]
   ·go_wp2_with fail;refine(Jam l 62 61 w).mono ?_
    by_cases h:l.take 2=[62,61]
    ·have HR:Hid (Qat l=[62,61]):=by unfold Hid;rw[HS.out,if_pos (by rw[h];decide),h]
     have hd:decide (l.take 2=[62,61])=true:=decide_eq_true h;rw[hd];rintro e w' ⟨rfl,rfl⟩;clear h hd;go_wp2;go_ret;exact⟨by rw[HR.out,<- b3.out];rfl,rfl⟩
    ·have H:Hid ((0<4->l.take 2≠[61,61])/\(1<4->l.take 2≠[33,61])/\(2<4->l.take 2≠[60,61])/\(3<4->l.take 2≠[62,61])):=⟨fun _=>HA.out.1 (by omega),fun _=>HA.out.2.1 (by omega),fun _=>HA.out.2.2.1 (by omega),fun _=>h⟩
     have hd:decide (l.take 2=[62,61])=false:=decide_eq_false h;rw[hd];rintro e w' ⟨rfl,rfl⟩;clear h hd;go_wp2;go_round
     case rel=>exact⟨4,by omega,rfl,H⟩
     case measure=>simp[intOf]
  ·obtain rfl:k=4:=by omega
   have hno:l.take 2∉Qco:=by
    obtain⟨h1,h2,h3,h4⟩:=HA.out;simp[Qco];exact⟨h1 (by omega),h2 (by omega),h3 (by omega),h4 (by omega)⟩
   by_cases hm:c∈QaF
   ·have HR:Hid (Qat l=[c]):=by unfold Hid;rw[HS.out,if_neg hno,if_pos hm]
    have hd:decide (0<=Lib.indexByte QaF c)=true:=decide_eq_true (HI.out.2 hm);exact Qmd
   ·have HR:Hid (Qat l=[]):=by unfold Hid;rw[HS.out,if_neg hno,if_neg hm]
    have hd:decide (0<=Lib.indexByte QaF c)=false:=decide_eq_false (fun h=>hm (HI.out.1 h));exact Qmd
def Qld(t:Tok):Array Value:=#[.int .i64 t.kind,.string (bs t.text),.int .i64 t.n,.int .i64 t.off]
def Qdp(o:Option (Tok × Nat))(w:World)(e:Ending)(w':World):Prop:=
 (∃ (t:Tok) (n:Int),e=.returned (.tuple #[.agg (Qld t),.int .i64 n,.bool o.isSome])/\∀ u k,o=some (u,k)->t=u/\n=(k:Nat))/\Below w.heap.size w w'
theorem QdD.below{w w':World}{p:Nat}(h:QdD w p)(hb:Below w.heap.size w w')(hp:p<w.heap.size):QdD w' p:=fun i hi=>by
 rw[hb.cell (p:=⟨p,i,none⟩) hp];exact h i hi
theorem KS{o:Option (Tok × Nat)}{w w':World}{t:Tok}{n:Int}{b:Bool}(hb:b=o.isSome)(h:∀ u k,o=some (u,k)->t=u/\n=(k:Nat))(hB:Below w.heap.size w w') :
  Qdp o w (.returned (.tuple #[.agg #[.int .i64 t.kind,.string (bs t.text),.int .i64 t.n,.int .i64 t.off],.int .i64 n,.bool b])) w':=⟨⟨t,n,by rw[hb];rfl,h⟩,hB⟩
theorem JX{P:Program}{fn:Func}{p a b:Tmp}{ty:TypeId}(h:fn.results=#[.cell p ty,.tmp a,.tmp b])(tmps:Array Value)(w:World)(g:Nat)(t:TypeId)(cs:Array Value)(fr:Nat × Nat)(d:TypeDesc)
  (hp:tmps.getD p undef=.pointer (some ⟨g,0,none⟩)) (hg:w.heap[g]?=some (.cells cs t fr))
  (hu:P.underlying ty=some d) (hd:(match d with|.struct _|.array _ _=>true|_=>false)=true) (hi:(P.info? ty).map (·.size)=some cs.size) :
  (results fn tmps).run P w=.ok (.tuple #[.agg cs,tmps.getD a undef,tmps.getD b undef]) w:=by
 have hp':tmps[p]?.getD undef=.pointer (some ⟨g,0,none⟩):=by simpa using hp
 simp[results,h,hp',asAddr,run_loadVar_row w g t ty cs fr d hg hu hd hi]
theorem Qmb{P:Prop}(h:P:=by
  have h0:=heap_setCell_same _ _ 0 _ _ v0 h;have h1:=heap_setCell_same _ _ 1 _ _ v1 h0;have h2:=heap_setCell_same _ _ 2 _ _ v2 h1
  exact heap_setCell_same _ _ 3 _ _ v3 h2):P:=h
theorem QhW{w:World}{T t:Nat}{a0 a1 a2 a3:Value}(v0 v1 v2 v3:Value)(h:w.heap[T]?=some (.cells #[a0,a1,a2,a3] t (0,0))) :
  ((((w.setCell ⟨T,0,none⟩ v0).setCell ⟨T,1,none⟩ v1).setCell ⟨T,2,none⟩ v2).setCell ⟨T,3,none⟩ v3).heap[T]?=some (.cells #[v0,v1,v2,v3] t (0,0)):=by
 exact Qmb
theorem Kq{B:Nat}{w w1:World}{T:Nat}(v0 v1 v2 v3:Value)(h:Below B w w1)(hT:B<=T):Below B w ((((w1.setCell ⟨T,0,none⟩ v0).setCell ⟨T,1,none⟩ v1).setCell ⟨T,2,none⟩ v2).setCell ⟨T,3,none⟩ v3):=
 (((h.setCell hT v0).setCell hT v1).setCell hT v2).setCell hT v3
theorem QbN:(prog.info? 46).map (·.size)=some 4:=by kernel_rfl
theorem JaR(c:UInt8)(r:List UInt8)(p:Nat)(w:World)(hC:QdD w p)(hp:p<w.heap.size)(hl:(c::r).length<=281474976710655)(hc:Qci c=true)(hL:Laid w) :
  Calls prog 35 #[.pointer (some ⟨p,0,none⟩),.string (bs (c::r))] w (Qdp (QaU (c::r)) w):=by
 have HF:Hid (QaU (c::r)=if (Qao (c::r)).length<=24 then some (⟨0,Qao (c::r),0,0⟩,(Qao (c::r)).length) else none):=by
  unfold Hid;simp only[QaU];rw[if_pos hc]
 obtain⟨l,hLl⟩:∃ l,l=c::r:=⟨_,rfl⟩
 have hg:∀ h,((bs l)[0]'h).toNat=c.toNat:=by rw[hLl];intro h;rfl
 have hlen:l.length=r.length+1:=by rw[hLl];rfl
 have hpos:0<l.length:=by omega
 have hcell:=hC c.toNat c.toNat_lt;rw[JeW.1 hc]at hcell;have hx:c.toNat<256:=c.toNat_lt;rw[<- hLl]at hl HF |-;have hs:=JF l;have hwle:=YM l;clear hLl hlen;generalize c.toNat=x at *;have HC:=Zh hC;clear hC;go_enter func35,ntmps35;go_wp2;go_quiet (fail);go_wp2_with fail;obtain⟨W,hW⟩:∃ W,W=(w.alloc (.cells #[.int .i64 0,.string ⟨#[]⟩,.int .i64 0,.int .i64 0] 46)).drewN nq:=⟨_,rfl⟩
 have hb0:Below w.heap.size w W:=by rw[hW];exact Kw (zzb.alloc zzl _) _
 have g0:W.heap[w.heap.size]?=some (.cells #[.int .i64 0,.string ⟨#[]⟩,.int .i64 0,.int .i64 0] 46 (0,0)):=by rw[hW];exact zzw w _
 have z0:w.heap.size<W.heap.size:=by rw[hW];show _<(w.alloc _).heap.size;simp
 rw[<- hW];clear hW;have hCW:=HC.out.below hb0 hp;refine(YO l p W hCW (by omega)).mono ?_;rintro e w1 ⟨rfl,hb1⟩;have g1:=(hb1.block _ z0).trans g0;have hB:=hb0.trans (hb1.mono hb0.size);have z1:w.heap.size<w1.heap.size:=Nat.lt_of_lt_of_le z0 hb1.size;have hwl:=JF (Qao l);have G:=Zh g1;clear hb1 hb0 g0 z0 hCW HC g1
 by_cases h24:(Qao l).length<=24
 ·have HT:Hid (QaU l=some (⟨0,Qao l,0,0⟩,(Qao l).length)):=by unfold Hid;rw[HF.out,if_pos h24]
  clear HF hcell;generalize hwd:Qao l=wd at *;clear hwd;have d24:decide ((wd.length:Int)<=24)=true:=decide_eq_true (by omega);have q0:w1.cell? ⟨w.heap.size,0,none⟩=some (.int .i64 0):=by rw[cell_of_row _ _ _ _ _ _ G.out];rfl
  have q1:w1.cell? ⟨w.heap.size,1,none⟩=some (.string ⟨#[]⟩):=by rw[cell_of_row _ _ _ _ _ _ G.out];rfl
  have q2:w1.cell? ⟨w.heap.size,2,none⟩=some (.int .i64 0):=by rw[cell_of_row _ _ _ _ _ _ G.out];rfl
  have q3:w1.cell? ⟨w.heap.size,3,none⟩=some (.int .i64 0):=by rw[cell_of_row _ _ _ _ _ _ G.out];rfl
  have f0:=frozen_of_row _ _ 0 _ _ G.out;have f1:=frozen_of_row _ _ 1 _ _ G.out;have f2:=frozen_of_row _ _ 2 _ _ G.out;have f3:=frozen_of_row _ _ 3 _ _ G.out;go_wp2_with fail;refine bodyPost_ret (JX rfl _ _ w.heap.size 46 #[.int .i64 0,.string (bs wd),.int .i64 0,.int .i64 0] (0,0) _ rfl (QhW _ _ _ _ G.out) underlying46 rfl QbN) rfl ?_;rw[HT.out];exact KS (t:=⟨0,wd,0,0⟩) rfl (by intro u k h;injection h with h;injection h with h1 h2;subst h1;subst h2;exact⟨rfl,rfl⟩) (Kq _ _ _ _ hB zzl)
 ·have HT:Hid (QaU l=none):=by unfold Hid;rw[HF.out,if_neg h24]
  clear HF hcell;generalize hwd:Qao l=wd at *;clear hwd;have d24:decide ((wd.length:Int)<=24)=false:=decide_eq_false (by omega);have q0:w1.cell? ⟨w.heap.size,0,none⟩=some (.int .i64 0):=by rw[cell_of_row _ _ _ _ _ _ G.out];rfl
  have q1:w1.cell? ⟨w.heap.size,1,none⟩=some (.string ⟨#[]⟩):=by rw[cell_of_row _ _ _ _ _ _ G.out];rfl
  have q2:w1.cell? ⟨w.heap.size,2,none⟩=some (.int .i64 0):=by rw[cell_of_row _ _ _ _ _ _ G.out];rfl
  have q3:w1.cell? ⟨w.heap.size,3,none⟩=some (.int .i64 0):=by rw[cell_of_row _ _ _ _ _ _ G.out];rfl
  have f0:=frozen_of_row _ _ 0 _ _ G.out;have f1:=frozen_of_row _ _ 1 _ _ G.out;have f2:=frozen_of_row _ _ 2 _ _ G.out;have f3:=frozen_of_row _ _ 3 _ _ G.out;go_wp2_with fail;refine bodyPost_ret (JX rfl _ _ w.heap.size 46 #[.int .i64 0,.string (bs wd),.int .i64 0,.int .i64 0] (0,0) _ rfl (QhW _ _ _ _ G.out) underlying46 rfl QbN) rfl ?_;rw[HT.out];exact KS (t:=⟨0,wd,0,0⟩) rfl (by intro u k h;cases h) (Kq _ _ _ _ hB zzl)
theorem Jcb(c:UInt8)(r:List UInt8)(p:Nat)(w:World)(hC:QdD w p)(hp:p<w.heap.size)(hl:(c::r).length<=281474976710655)(hc:Qdy c=true)(hc0:Qci c=false)(hL:Laid w) :
  Calls prog 35 #[.pointer (some ⟨p,0,none⟩),.string (bs (c::r))] w (Qdp (QaU (c::r)) w):=by
 have HF:Hid (QaU (c::r)=(QaE (Qao (c::r)) 0 1125899906842624).map fun n=>(⟨1,[],n,0⟩,(Qao (c::r)).length)):=by
  unfold Hid;simp only[QaU];rw[if_neg (by simp[hc0]),if_pos hc]
 obtain⟨l,hLl⟩:∃ l,l=c::r:=⟨_,rfl⟩
 have hg:∀ h,((bs l)[0]'h).toNat=c.toNat:=by rw[hLl];intro h;rfl
 have hlen:l.length=r.length+1:=by rw[hLl];rfl
 have hpos:0<l.length:=by omega
 have hcell:=hC c.toNat c.toNat_lt;rw[JeX.1 hc]at hcell;have hx:c.toNat<256:=c.toNat_lt;rw[<- hLl]at hl HF |-;have hs:=JF l;have hwle:=YM l;clear hLl hlen;generalize c.toNat=x at *;have HC:=Zh hC;clear hC;go_enter func35,ntmps35;go_wp2;go_quiet (fail);go_wp2_with fail;obtain⟨W,hW⟩:∃ W,W=(w.alloc (.cells #[.int .i64 0,.string ⟨#[]⟩,.int .i64 0,.int .i64 0] 46)).drewN nq:=⟨_,rfl⟩
 have hb0:Below w.heap.size w W:=by rw[hW];exact Kw (zzb.alloc zzl _) _
 have g0:W.heap[w.heap.size]?=some (.cells #[.int .i64 0,.string ⟨#[]⟩,.int .i64 0,.int .i64 0] 46 (0,0)):=by rw[hW];exact zzw w _
 have z0:w.heap.size<W.heap.size:=by rw[hW];show _<(w.alloc _).heap.size;simp
 rw[<- hW];clear hW;have hCW:=HC.out.below hb0 hp;refine(YO l p W hCW (by omega)).mono ?_;rintro e w1 ⟨rfl,hb1⟩;have g1:=(hb1.block _ z0).trans g0;have hB:=hb0.trans (hb1.mono hb0.size);have z1:w.heap.size<w1.heap.size:=Nat.lt_of_lt_of_le z0 hb1.size;have hwl:=JF (Qao l);have G:=Zh g1;clear hb1 hb0 g0 z0 hCW HC g1;have hwn:(Qao l).length<=281474976710656:=by omega
 have cP:=JeQ (Qao l) 0 1125899906842624 w1 hwn (hL.below hB);have HP:∀ o,QaE (Qao l) 0 1125899906842624=o->Hid (QaU l=o.map fun n=>(⟨1,[],n,0⟩,(Qao l).length)):=fun o h=>by unfold Hid;rw[HF.out,h]
 clear HF hcell;generalize hpo:QaE (Qao l) 0 1125899906842624=o at *;have HT:=HP o rfl;clear HP hpo;generalize hwd:Qao l=wd at *;clear hwd
 cases o with
 |some m=>
  go_wp2_with fail;refine(Calls.mono cP ?_);rintro e w2 ⟨rfl,hb2⟩;have G:=Zh ((hb2.block _ z1).trans G.out);have hB:=hB.trans (hb2.mono hB.size);clear hb2 cP;have q0:w2.cell? ⟨w.heap.size,0,none⟩=some (.int .i64 0):=by rw[cell_of_row _ _ _ _ _ _ G.out];rfl
  have q1:w2.cell? ⟨w.heap.size,1,none⟩=some (.string ⟨#[]⟩):=by rw[cell_of_row _ _ _ _ _ _ G.out];rfl
  have q2:w2.cell? ⟨w.heap.size,2,none⟩=some (.int .i64 0):=by rw[cell_of_row _ _ _ _ _ _ G.out];rfl
  have q3:w2.cell? ⟨w.heap.size,3,none⟩=some (.int .i64 0):=by rw[cell_of_row _ _ _ _ _ _ G.out];rfl
  have f0:=frozen_of_row _ _ 0 _ _ G.out;have f1:=frozen_of_row _ _ 1 _ _ G.out;have f2:=frozen_of_row _ _ 2 _ _ G.out;have f3:=frozen_of_row _ _ 3 _ _ G.out;go_wp2_with fail;refine bodyPost_ret (JX rfl _ _ w.heap.size 46 #[.int .i64 1,.string (⟨#[]⟩),.int .i64 m,.int .i64 0] (0,0) _ rfl (QhW _ _ _ _ G.out) underlying46 rfl QbN) rfl ?_;rw[HT.out];exact KS (t:=⟨1,[],m,0⟩) rfl (by intro u k h;injection h with h;injection h with h1 h2;subst h1;subst h2;exact⟨rfl,rfl⟩) (Kq _ _ _ _ hB zzl)
 |none=>
  go_wp2_with fail;refine(Calls.mono cP ?_);rintro e w2 ⟨rfl,hb2⟩;have G:=Zh ((hb2.block _ z1).trans G.out);have hB:=hB.trans (hb2.mono hB.size);clear hb2 cP;have q0:w2.cell? ⟨w.heap.size,0,none⟩=some (.int .i64 0):=by rw[cell_of_row _ _ _ _ _ _ G.out];rfl
  have q1:w2.cell? ⟨w.heap.size,1,none⟩=some (.string ⟨#[]⟩):=by rw[cell_of_row _ _ _ _ _ _ G.out];rfl
  have q2:w2.cell? ⟨w.heap.size,2,none⟩=some (.int .i64 0):=by rw[cell_of_row _ _ _ _ _ _ G.out];rfl
  have q3:w2.cell? ⟨w.heap.size,3,none⟩=some (.int .i64 0):=by rw[cell_of_row _ _ _ _ _ _ G.out];rfl
  have f0:=frozen_of_row _ _ 0 _ _ G.out;have f1:=frozen_of_row _ _ 1 _ _ G.out;have f2:=frozen_of_row _ _ 2 _ _ G.out;have f3:=frozen_of_row _ _ 3 _ _ G.out;go_wp2_with fail;refine bodyPost_ret (JX rfl _ _ w.heap.size 46 #[.int .i64 1,.string (⟨#[]⟩),.int .i64 0,.int .i64 0] (0,0) _ rfl (QhW _ _ _ _ G.out) underlying46 rfl QbN) rfl ?_;rw[HT.out];exact KS (t:=⟨1,[],0,0⟩) rfl (by intro u k h;cases h) (Kq _ _ _ _ hB zzl)
theorem Jcc(c:UInt8)(r:List UInt8)(p:Nat)(w:World)(hC:QdD w p)(hp:p<w.heap.size)(hl:(c::r).length<=281474976710655)(hc:c=34)(hL:Laid w) :
  Calls prog 35 #[.pointer (some ⟨p,0,none⟩),.string (bs (c::r))] w (Qdp (QaU (c::r)) w):=by
 have HF:Hid (QaU (c::r)=(Qax 25 r).map fun w=>(⟨2,w,0,0⟩,w.length+2)):=by
  unfold Hid;subst hc;simp only[QaU];rw[if_neg (by decide),if_neg (by decide),if_pos trivial]
 obtain⟨l,hLl⟩:∃ l,l=c::r:=⟨_,rfl⟩
 have hg:∀ h,((bs l)[0]'h).toNat=c.toNat:=by rw[hLl];intro h;rfl
 have hlen:l.length=r.length+1:=by rw[hLl];rfl
 have hpos:0<l.length:=by omega
 have hcell:=hC c.toNat c.toNat_lt;rw[JiW.1 hc]at hcell;have hx:c.toNat<256:=c.toNat_lt;rw[<- hLl]at hl HF |-;have hs:=JF l;have hwle:=YM l;have hex:(bs l).extract 1 l.length=bs r:=by rw[KY,hLl];simp
 have hrl:r.length<=281474976710655:=by omega
 have hpos1:1<=l.length:=by omega
 clear hLl hlen;generalize c.toNat=x at *;have HC:=Zh hC;clear hC;go_enter func35,ntmps35;go_wp2;go_quiet (fail);go_wp2_with fail;obtain⟨W,hW⟩:∃ W,W=(w.alloc (.cells #[.int .i64 0,.string ⟨#[]⟩,.int .i64 0,.int .i64 0] 46)).drewN nq:=⟨_,rfl⟩
 have hb0:Below w.heap.size w W:=by rw[hW];exact Kw (zzb.alloc zzl _) _
 have g0:W.heap[w.heap.size]?=some (.cells #[.int .i64 0,.string ⟨#[]⟩,.int .i64 0,.int .i64 0] 46 (0,0)):=by rw[hW];exact zzw w _
 have z0:w.heap.size<W.heap.size:=by rw[hW];show _<(w.alloc _).heap.size;simp
 rw[<- hW];clear hW;have hCW:=HC.out.below hb0 hp;have cT:=JbZ r W (by omega)
 cases ho:Qax 25 r with
 |some v=>
  have HT:Hid (QaU l=some (⟨2,v,0,0⟩,v.length+2)):=by unfold Hid;rw[HF.out,ho];rfl
  rw[ho]at cT;have hv:v.length<=24:=by have:=V7 _ _ _ ho;omega
  clear HF hcell ho;refine(Calls.mono cT ?_);rintro e w1 ⟨rfl,rfl⟩;have hvs:=JF v;have G:=Zh g0;have hB:=hb0;clear hb0 g0 z0 hCW HC cT;have q0:W.cell? ⟨w.heap.size,0,none⟩=some (.int .i64 0):=by rw[cell_of_row _ _ _ _ _ _ G.out];rfl
  have q1:W.cell? ⟨w.heap.size,1,none⟩=some (.string ⟨#[]⟩):=by rw[cell_of_row _ _ _ _ _ _ G.out];rfl
  have q2:W.cell? ⟨w.heap.size,2,none⟩=some (.int .i64 0):=by rw[cell_of_row _ _ _ _ _ _ G.out];rfl
  have q3:W.cell? ⟨w.heap.size,3,none⟩=some (.int .i64 0):=by rw[cell_of_row _ _ _ _ _ _ G.out];rfl
  have f0:=frozen_of_row _ _ 0 _ _ G.out;have f1:=frozen_of_row _ _ 1 _ _ G.out;have f2:=frozen_of_row _ _ 2 _ _ G.out;have f3:=frozen_of_row _ _ 3 _ _ G.out;go_wp2_with fail;refine bodyPost_ret (JX rfl _ _ w.heap.size 46 #[.int .i64 2,.string (bs v),.int .i64 0,.int .i64 0] (0,0) _ rfl (QhW _ _ _ _ G.out) underlying46 rfl QbN) rfl ?_;rw[HT.out];exact KS (t:=⟨2,v,0,0⟩) rfl (by intro u k h;injection h with h;injection h with h1 h2;subst h1;subst h2;exact⟨rfl,(by simp)⟩) (Kq _ _ _ _ hB zzl)
 |none=>
  have HT:Hid (QaU l=none):=by unfold Hid;rw[HF.out,ho];rfl
  rw[ho]at cT;clear HF hcell ho;refine(Calls.mono cT ?_);rintro e w1 ⟨rfl,rfl⟩;have hvs:=JF [];have G:=Zh g0;have hB:=hb0;clear hb0 g0 z0 hCW HC cT;have q0:W.cell? ⟨w.heap.size,0,none⟩=some (.int .i64 0):=by rw[cell_of_row _ _ _ _ _ _ G.out];rfl
  have q1:W.cell? ⟨w.heap.size,1,none⟩=some (.string ⟨#[]⟩):=by rw[cell_of_row _ _ _ _ _ _ G.out];rfl
  have q2:W.cell? ⟨w.heap.size,2,none⟩=some (.int .i64 0):=by rw[cell_of_row _ _ _ _ _ _ G.out];rfl
  have q3:W.cell? ⟨w.heap.size,3,none⟩=some (.int .i64 0):=by rw[cell_of_row _ _ _ _ _ _ G.out];rfl
  have f0:=frozen_of_row _ _ 0 _ _ G.out;have f1:=frozen_of_row _ _ 1 _ _ G.out;have f2:=frozen_of_row _ _ 2 _ _ G.out;have f3:=frozen_of_row _ _ 3 _ _ G.out;go_wp2_with fail;refine bodyPost_ret (JX rfl _ _ w.heap.size 46 #[.int .i64 2,.string (bs []),.int .i64 0,.int .i64 0] (0,0) _ rfl (QhW _ _ _ _ G.out) underlying46 rfl QbN) rfl ?_;rw[HT.out];exact KS (t:=⟨2,[],0,0⟩) rfl (by intro u k h;cases h) (Kq _ _ _ _ hB zzl)
theorem Jee(c:UInt8)(r:List UInt8)(p:Nat)(w:World)(hC:QdD w p)(hp:p<w.heap.size)(hl:(c::r).length<=281474976710655)(hc0:Qci c=false)(hc1:Qdy c=false)(hc2:c≠34)(hL:Laid w) :
  Calls prog 35 #[.pointer (some ⟨p,0,none⟩),.string (bs (c::r))] w (Qdp (QaU (c::r)) w):=by
 have HF:Hid (QaU (c::r)=if Qat (c::r)=[] then none else some (⟨3,Qat (c::r),0,0⟩,(Qat (c::r)).length)):=by
  unfold Hid;simp only[QaU];rw[if_neg (by simp[hc0]),if_neg (by simp[hc1]),if_neg hc2]
 have k2:((QbO c.toNat:Nat):Int)≠2:=fun h=>by
  have h':QbO c.toNat=2:=by omega
  rw[JeW.2 h']at hc0;cases hc0
 have k3:((QbO c.toNat:Nat):Int)≠3:=fun h=>by
  have h':QbO c.toNat=3:=by omega
  rw[JeX.2 h']at hc1;cases hc1
 have k5:((QbO c.toNat:Nat):Int)≠5:=fun h=>by
  have h':QbO c.toNat=5:=by omega
  exact hc2 (JiW.2 h')
 have e2:(((QbO c.toNat:Nat):Int)==2)=false:=zzq k2;have e3:(((QbO c.toNat:Nat):Int)==3)=false:=zzq k3;have e5:(((QbO c.toNat:Nat):Int)==5)=false:=zzq k5;clear k2 k3 k5;have cS:=fun W=>Jca c r W (by omega)
 obtain⟨l,hLl⟩:∃ l,l=c::r:=⟨_,rfl⟩
 have hg:∀ h,((bs l)[0]'h).toNat=c.toNat:=by rw[hLl];intro h;rfl
 have hlen:l.length=r.length+1:=by rw[hLl];rfl
 have hpos:0<l.length:=by omega
 have hcell:=hC c.toNat c.toNat_lt;have hx:c.toNat<256:=c.toNat_lt;rw[<- hLl]at hl HF cS |-;have hs:=JF l;have hwle:=YM l;clear hLl hlen;generalize c.toNat=x at *;generalize QbO x=cn at *;have HC:=Zh hC;clear hC;go_enter func35,ntmps35;go_wp2;go_quiet (fail);go_wp2_with fail;obtain⟨W,hW⟩:∃ W,W=(w.alloc (.cells #[.int .i64 0,.string ⟨#[]⟩,.int .i64 0,.int .i64 0] 46)).drewN nq:=⟨_,rfl⟩
 have hb0:Below w.heap.size w W:=by rw[hW];exact Kw (zzb.alloc zzl _) _
 have g0:W.heap[w.heap.size]?=some (.cells #[.int .i64 0,.string ⟨#[]⟩,.int .i64 0,.int .i64 0] 46 (0,0)):=by rw[hW];exact zzw w _
 have z0:w.heap.size<W.heap.size:=by rw[hW];show _<(w.alloc _).heap.size;simp
 rw[<- hW];clear hW;have hCW:=HC.out.below hb0 hp;have hsl:=Jaj l
 by_cases h0:Qat l=[]
 ·have HT:Hid (QaU l=none):=by unfold Hid;rw[HF.out,if_pos h0]
  rw[h0]at cS;clear HF hcell h0;refine(cS _).mono ?_;rintro e w1 ⟨rfl,rfl⟩;have hvs:=JF [];have tl:=Jl [];have G:=Zh g0;have hB:=hb0;clear hb0 g0 z0 hCW HC cS hsl;have q0:W.cell? ⟨w.heap.size,0,none⟩=some (.int .i64 0):=by rw[cell_of_row _ _ _ _ _ _ G.out];rfl
  have q1:W.cell? ⟨w.heap.size,1,none⟩=some (.string ⟨#[]⟩):=by rw[cell_of_row _ _ _ _ _ _ G.out];rfl
  have q2:W.cell? ⟨w.heap.size,2,none⟩=some (.int .i64 0):=by rw[cell_of_row _ _ _ _ _ _ G.out];rfl
  have q3:W.cell? ⟨w.heap.size,3,none⟩=some (.int .i64 0):=by rw[cell_of_row _ _ _ _ _ _ G.out];rfl
  have f0:=frozen_of_row _ _ 0 _ _ G.out;have f1:=frozen_of_row _ _ 1 _ _ G.out;have f2:=frozen_of_row _ _ 2 _ _ G.out;have f3:=frozen_of_row _ _ 3 _ _ G.out;go_wp2_with fail;refine bodyPost_ret (JX rfl _ _ w.heap.size 46 #[.int .i64 3,.string (bs []),.int .i64 0,.int .i64 0] (0,0) _ rfl (QhW _ _ _ _ G.out) underlying46 rfl QbN) rfl ?_;rw[HT.out];exact KS (t:=⟨3,[],0,0⟩) rfl (by intro u k h;cases h) (Kq _ _ _ _ hB zzl)
 ·have HT:Hid (QaU l=some (⟨3,Qat l,0,0⟩,(Qat l).length)):=by unfold Hid;rw[HF.out,if_neg h0]
  clear HF hcell;generalize hsg:Qat l=sg at *;clear hsg;refine(cS _).mono ?_;rintro e w1 ⟨rfl,rfl⟩;have hvs:=JF sg;have tl:=Jl sg;have i0:sg.isEmpty=false:=by simpa using h0
  have hsgl:sg.length<=2:=hsl.2.1;have G:=Zh g0;have hB:=hb0;clear hb0 g0 z0 hCW HC cS hsl h0;have q0:W.cell? ⟨w.heap.size,0,none⟩=some (.int .i64 0):=by rw[cell_of_row _ _ _ _ _ _ G.out];rfl
  have q1:W.cell? ⟨w.heap.size,1,none⟩=some (.string ⟨#[]⟩):=by rw[cell_of_row _ _ _ _ _ _ G.out];rfl
  have q2:W.cell? ⟨w.heap.size,2,none⟩=some (.int .i64 0):=by rw[cell_of_row _ _ _ _ _ _ G.out];rfl
  have q3:W.cell? ⟨w.heap.size,3,none⟩=some (.int .i64 0):=by rw[cell_of_row _ _ _ _ _ _ G.out];rfl
  have f0:=frozen_of_row _ _ 0 _ _ G.out;have f1:=frozen_of_row _ _ 1 _ _ G.out;have f2:=frozen_of_row _ _ 2 _ _ G.out;have f3:=frozen_of_row _ _ 3 _ _ G.out;go_wp2_with fail;refine bodyPost_ret (JX rfl _ _ w.heap.size 46 #[.int .i64 3,.string (bs sg),.int .i64 0,.int .i64 0] (0,0) _ rfl (QhW _ _ _ _ G.out) underlying46 rfl QbN) rfl ?_;rw[HT.out];exact KS (t:=⟨3,sg,0,0⟩) rfl (by intro u k h;injection h with h;injection h with h1 h2;subst h1;subst h2;exact⟨rfl,rfl⟩) (Kq _ _ _ _ hB zzl)
theorem JaS(c:UInt8)(r:List UInt8)(p:Nat)(w:World)(hC:QdD w p)(hp:p<w.heap.size)(hl:(c::r).length<=281474976710655)(hL:Laid w) :
  Calls prog 35 #[.pointer (some ⟨p,0,none⟩),.string (bs (c::r))] w (Qdp (QaU (c::r)) w):=by
 cases h1:Qci c with
 |true=>exact JaR c r p w hC hp hl h1 hL
 |false=>
  cases h2:Qdy c with
  |true=>exact Jcb c r p w hC hp hl h2 h1 hL
  |false=>
   by_cases h3:c=34
   ·exact Jcc c r p w hC hp hl h3 hL
   ·exact Jee c r p w hC hp hl h1 h2 h3 hL
end Go.Proofs.YtdlkcjkjnehnkaaGreatDoor
