import Derived.Test.YtdlkcjkjnehnkaaGreatDoorH31
open List(drop_drop drop_eq_getElem_cons drop_length getElem?_eq_getElem length_cons length_drop mem_cons)
open Nat(le_refl)
namespace Go.Proofs.YtdlkcjkjnehnkaaGreatDoor
open Go Go.Lib
open Go.ChangeShapes Go.WideShapes Go.ChangeAt Go.RowKit
open Go.ChangeShapes Go.WideShapes Go.ChangeAt Go.RowKit Go.Lib
open Go.RowKit
open Go Go.ChangeShapes Go.WideShapes Go.ChangeAt Go.RowKit Go.Lib
open Go
open _root_.Go.Proofs.Tryz
set_option linter.all false
set_option maxRecDepth 100000
set_option maxHeartbeats 32000000
theorem QjD(l:List UInt8){c:UInt8}{r:List UInt8}{t:Tok}(hl:l=c::r)(hs:Qcp c=false)(ht:QaU l=some (t,l.length)):sc 0 l=.ok [t,⟨4,[],0,(l.length:Nat)⟩]:=by
 have hf:=JaQ ht;subst hl;rw[Jak 0 r hs ht,drop_length,Nat.zero_add,Jdf];obtain⟨a,b,d,o⟩:=t;have:o=0:=hf.2.2.2.2.2;subst this;rfl
theorem QfU{B:Nat}{w w1:World}{T:Nat}(v0 v1 v2 v3:Value)(h:Below B w w1)(hT:B<=T):Below B w ((((w1.setCell ⟨T,0,none⟩ v0).setCell ⟨T,1,none⟩ v1).setCell ⟨T,2,none⟩ v2).setCell ⟨T,3,none⟩ v3):=
 (((h.setCell hT v0).setCell hT v1).setCell hT v2).setCell hT v3
def Qgp(k:Nat):List UInt8:=[UInt8.ofNat (48+k)]
theorem Qgw(k:Nat)(hk:k<10):∀ w:World,(Instr.slice 9 (.string { data:=#[48,49,50,51,52,53,54,55,56,57] }) (some (.int .i64 (k:Int))) (some (.int .i64 ((k:Int)+1))) none).run Tryz.prog w=.ok (.string (bs (Qgp k))) w:=by
 intro w
 rcases (by omega:k=0\/k=1\/k=2\/k=3\/k=4\/k=5\/k=6\/k=7\/k=8\/k=9) with rfl|rfl|rfl|rfl|rfl|rfl|rfl|rfl|rfl|rfl
 all_goals kernel_rfl
theorem QeT(n:Int)(k:Nat)(w:World)(hk:k<10)(d0:decide (n<=-10)=false)(t:n.tmod 10 = -(k:Int)):Calls Tryz.prog 131 #[.int .i64 n] w (Qcm (.string (bs (Qgp k))) w):=by
 have hx:=Qgw k hk;have ha:=QbP [] (Qgp k);have he:bs []=(⟨#[]⟩:ByteArray):=rfl;rw[he,List.nil_append]at ha;have hs:=JF (Qgp k);have hl:(Qgp k).length<=1:=le_refl _;go_enter Tryz.func131,Tryz.ntmps131;go_wp2_with fail;go_ret;exact⟨rfl,rfl⟩
theorem Qgm(n m:Int)(k:Nat)(l:List UInt8)(w:World)(hk:k<10)(d0:decide (n<=-10)=true)(t:n.tmod 10 = -(k:Int))(q:n.tdiv 10=m)(m0:-9223372036854775808<=m)(m1:m<=0)
  (hl:l.length<=100) (c:∀ W,Calls Tryz.prog 131 #[.int .i64 m] W (Qcm (.string (bs l)) W)):Calls Tryz.prog 131 #[.int .i64 n] w (Qcm (.string (bs (l++Qgp k))) w):=by
 have hx:=Qgw k hk;have ha:=QbP l (Qgp k);have hs:=JF l;have hs1:=JF (Qgp k);have hl1:(Qgp k).length<=1:=le_refl _;go_enter Tryz.func131,Tryz.ntmps131;go_wp2_with fail;refine(c _).mono ?_;rintro e w' ⟨rfl,rfl⟩;go_wp2_with fail;go_ret;exact⟨rfl,rfl⟩
theorem QfM{u:Nat}(h:¬ u<10):decDigits u=decDigits (u / 10)++Qgp (u % 10):=by
 rw[decDigits,dif_neg h];rfl
theorem Qel(u:Nat):∀ (w:World),u<=9223372036854775808->Calls Tryz.prog 131 #[.int .i64 (-(u:Int))] w (Qcm (.string (bs (decDigits u))) w):=by
 induction u using Nat.strongRecOn with
 |ind u ih=>
  intro w hu
  have t:(-(u:Int)).tmod 10 = -((u % 10:Nat):Int):=by
   rw[Int.neg_tmod,Int.tmod_eq_emod_of_nonneg (by omega)];omega
  have q:(-(u:Int)).tdiv 10 = -((u / 10:Nat):Int):=by
   rw[Int.neg_tdiv,Int.tdiv_eq_ediv_of_nonneg (by omega)];omega
  by_cases h:u<10
  ·have hd:decDigits u=Qgp (u % 10):=by rw[decDigits,dif_pos h,Nat.mod_eq_of_lt h];rfl
   rw[hd];exact QeT _ _ w (Nat.mod_lt _ (by decide)) (decide_eq_false (by omega)) t
  ·rw[QfM h];have hlen:=ZJ (u / 10) 20 (by have:(10:Nat) ^ 20=100000000000000000000:=(by decide);omega) (by omega);exact Qgm _ _ _ _ w (Nat.mod_lt _ (by decide)) (decide_eq_true (by omega)) t q (by omega) (by omega) (by omega) (fun W=>ih _ (by omega) W (by omega))
theorem QaV(n:Int)(w:World)(h:QcA n):Calls Tryz.prog 118 #[.int .i64 n] w (Qcm (.string (bs (itoa n))) w):=by
 unfold QcA at h
 by_cases h0:n<0
 ·have d0:decide (n<0)=true:=decide_eq_true h0;have z:Hid (itoa n=[45]++decDigits n.natAbs):=by unfold Hid itoa;rw[if_pos h0];rfl
  have c:=fun W=>Qel n.natAbs W (by omega)
  have e:-(n.natAbs:Int)=n:=by omega
  rw[e]at c;have hlen:=ZJ n.natAbs 20 (by have:(10:Nat) ^ 20=100000000000000000000:=(by decide);omega) (by omega);clear e;generalize decDigits n.natAbs=l at *;have ha:=QbP [45] l;have h45:bs [45]=(⟨#[45]⟩:ByteArray):=rfl;rw[h45]at ha;have hs:=JF l;go_enter Tryz.func118,Tryz.ntmps118;go_wp2_with fail;refine(c _).mono ?_;rintro e w' ⟨rfl,rfl⟩;go_wp2_with fail;go_ret;exact⟨by rw[z.out];rfl,rfl⟩
 ·obtain⟨u,rfl⟩:∃ u:Nat,n=(u:Int):=⟨n.toNat,by omega⟩
  have d0:decide ((u:Int)<0)=false:=decide_eq_false h0;have z:Hid (itoa (u:Int)=decDigits u):=by unfold Hid;exact itoa_nonneg u
  have c:=fun W=>Qel u W (by omega)
  have u1:(u:Int)<=9223372036854775807:=h.2;clear h0;go_enter Tryz.func118,Tryz.ntmps118;go_wp2_with fail;refine(c _).mono ?_;rintro e w' ⟨rfl,rfl⟩;go_wp2_with fail;go_ret;exact⟨by rw[z.out];rfl,rfl⟩
def QdY(a:Int)(c:Nat):Int:=wrap64 (wrap64 (10*a)-((c:Int)-48))
def QbT:Int->List UInt8->Option Int
 |a,[]=>some a
 |a,c::r=>if 48<=c.toNat/\c.toNat<=57 then QbT (QdY a c.toNat) r else none
def QcL(l:List UInt8)(lo hi n:Int):Option Int:=if itoa n=l/\lo<=n/\n<=hi then some n else none
def QhJ(l:List UInt8)(lo hi:Int):Option Int:=
 match l with
 |[]=>none
 |c::r=>
  if c.toNat=45 then
   if r.length=0\/19<r.length then none else (QbT 0 r).bind fun n=>QcL l lo hi n
  else
   if 19<r.length+1 then none else (QbT 0 l).bind fun n=>QcL l lo hi (wrap64 (-n))
def QcW:Option Int->Value
 |some n=>.tuple #[.int .i64 n,.bool true]
 |none=>.tuple #[.int .i64 0,.bool false]
theorem QdH(a:Int):QcA (wrap64 a):=by unfold QcA wrap64;omega
set_option maxHeartbeats 400000 in
theorem QeF(c:UInt8)(r:List UInt8)(lo hi:Int)(w:World)(h45:(c.toNat==45)=false)(hl:r.length<=18) :
  Calls Tryz.prog 103 #[.string (bs (c::r)),.int .i64 lo,.int .i64 hi] w (Qcm (QcW ((QbT 0 (c::r)).bind fun n=>QcL (c::r) lo hi (wrap64 (-n)))) w):=by
 have hg0:∀ h,((bs (c::r))[0]'h).toNat=c.toNat:=fun h=>rfl
 have hc8:c.toNat<256:=c.toNat_lt;have h45i:((c.toNat:Int)==45)=false:=beq_eq_false_iff_ne.2 (by have:=beq_eq_false_iff_ne.1 h45;omega);obtain⟨l,hL⟩:∃ l,l=c::r:=⟨_,rfl⟩
 have hlen:l.length=r.length+1:=by rw[hL];rfl
 rw[<- hL]at hg0 |-;have hs:=JF l;have hl1:1<=l.length:=by omega
 have hl2:l.length<=19:=by omega
 have hne:((l.length:Int)==0)=false:=by simp;intro e;rw[e]at hl1;simp at hl1
 have hpos:0<l.length:=by omega
 clear hL hlen hl;generalize c.toNat=c0 at *;go_enter Tryz.func103,Tryz.ntmps103;go_wp2;go_loop [9,10] (fun v0 v1=>∃ (a:Int) (k:Nat),v0=.int .i64 a/\v1=.int .i64 k/\k<=l.length/\QcA a/\Hid (QbT 0 l=QbT a (l.drop k))) (fun _ v1=>l.length-(intOf v1).toNat)
 case atStart=>exact⟨0,0,rfl,rfl,by omega,by unfold QcA;decide,rfl⟩
 case round=>
  obtain⟨a,k,rfl,rfl,hk,wa,HI⟩:=hrel;unfold QcA at wa
  by_cases hlt:k<l.length
  ·obtain⟨d,hd⟩:∃ d,l[k]?=some d:=⟨_,getElem?_eq_getElem hlt⟩
   have hg:∀ h,((bs l)[k]'h).toNat=d.toNat:=by
    intro h;simp only[bs];rw[getElem?_eq_getElem hlt]at hd;simp at hd;rw[<- hd];rfl
   have hd8:d.toNat<256:=d.toNat_lt
   have HD:Hid (QbT 0 l=if 48<=d.toNat/\d.toNat<=57 then QbT (QdY a d.toNat) (l.drop (k+1)) else none):=by
    unfold Hid;rw[HI.out,drop_eq_getElem_cons hlt];rw[getElem?_eq_getElem hlt]at hd;simp only[Option.some.injEq]at hd;rw[hd];rfl
   clear hd;generalize d.toNat=x at *
   by_cases h1:x<48
   ·have HN:Hid (QcW ((QbT 0 l).bind fun n=>QcL l lo hi (wrap64 (-n)))=QcW none):=by unfold Hid;rw[HD.out,if_neg (by omega)];rfl
    go_wp2;go_ret2;exact⟨by rw[HN.out];rfl,rfl⟩
   ·by_cases h2:57<x
    ·have HN:Hid (QcW ((QbT 0 l).bind fun n=>QcL l lo hi (wrap64 (-n)))=QcW none):=by unfold Hid;rw[HD.out,if_neg (by omega)];rfl
     go_wp2;go_ret2;exact⟨by rw[HN.out];rfl,rfl⟩
    ·have HN:Hid (QbT 0 l=QbT (QdY a x) (l.drop (k+1))):=by unfold Hid;rw[HD.out,if_pos (by omega)]
     go_wp2;refine⟨⟨QdY a x,k+1,rfl,by simp,by omega,QdH _,HN⟩,by simp[intOf];omega⟩
  ·have hkl:k=l.length:=by omega
   have HN:Hid (QbT 0 l=some a):=by unfold Hid;rw[HI.out,hkl,drop_length];rfl
   clear HI;obtain⟨F,hF⟩:∃ F,wrap64 (-a)=F:=⟨_,rfl⟩
   have wF:QcA F:=by rw[<- hF];exact QdH _
   have HF:Hid (QcW ((QbT 0 l).bind fun n=>QcL l lo hi (wrap64 (-n)))=QcW (QcL l lo hi F)):=by unfold Hid;rw[HN.out,<- hF];rfl
   have tl:=Jl l;have tF:=Jl (itoa F)
   by_cases e1:itoa F=l
   ·have b1:(itoa F==l)=true:=beq_iff_eq.2 e1
    by_cases e2:lo<=F
    ·by_cases e3:F<=hi
     ·have HR:Hid (QcW ((QbT 0 l).bind fun n=>QcL l lo hi (wrap64 (-n)))=.tuple #[.int .i64 F,.bool true]):=by unfold Hid;rw[HF.out,QcL,if_pos ⟨e1,e2,e3⟩];rfl
      have d2:decide (F<lo)=false:=decide_eq_false (by omega);have d3:decide (hi<F)=false:=decide_eq_false (by omega);clear HF e1;go_wp2_with fail;refine(QaV F _ wF).mono ?_;rintro e w' ⟨rfl,rfl⟩;go_wp2_with fail;go_ret2;exact⟨by rw[HR.out];rfl,rfl⟩
     ·have HR:Hid (QcW ((QbT 0 l).bind fun n=>QcL l lo hi (wrap64 (-n)))=.tuple #[.int .i64 0,.bool false]):=by unfold Hid;rw[HF.out,QcL,if_neg (fun h=>e3 h.2.2)];rfl
      have d2:decide (F<lo)=false:=decide_eq_false (by omega);have d3:decide (hi<F)=true:=decide_eq_true (by omega);clear HF e1;go_wp2_with fail;refine(QaV F _ wF).mono ?_;rintro e w' ⟨rfl,rfl⟩;go_wp2_with fail;go_ret2;exact⟨by rw[HR.out];rfl,rfl⟩
    ·have HR:Hid (QcW ((QbT 0 l).bind fun n=>QcL l lo hi (wrap64 (-n)))=.tuple #[.int .i64 0,.bool false]):=by unfold Hid;rw[HF.out,QcL,if_neg (fun h=>e2 h.2.1)];rfl
     have d2:decide (F<lo)=true:=decide_eq_true (by omega);clear HF e1;go_wp2_with fail;refine(QaV F _ wF).mono ?_;rintro e w' ⟨rfl,rfl⟩;go_wp2_with fail;go_ret2;exact⟨by rw[HR.out];rfl,rfl⟩
   ·have b1:(itoa F==l)=false:=beq_eq_false_iff_ne.2 e1;have HR:Hid (QcW ((QbT 0 l).bind fun n=>QcL l lo hi (wrap64 (-n)))=.tuple #[.int .i64 0,.bool false]):=by unfold Hid;rw[HF.out,QcL,if_neg (fun h=>e1 h.1)];rfl
    clear HF e1;go_wp2_with fail;refine(QaV F _ wF).mono ?_;rintro e w' ⟨rfl,rfl⟩;go_wp2_with fail;go_ret2;exact⟨by rw[HR.out];rfl,rfl⟩
set_option maxHeartbeats 400000 in
theorem QeG(r:List UInt8)(lo hi:Int)(w:World)(hl0:1<=r.length)(hl:r.length<=19) :
  Calls Tryz.prog 103 #[.string (bs (45::r)),.int .i64 lo,.int .i64 hi] w (Qcm (QcW ((QbT 0 r).bind fun n=>QcL (45::r) lo hi n)) w):=by
 have hg0:∀ h,((bs (45::r))[0]'h).toNat=45:=fun h=>rfl
 obtain⟨l,hL⟩:∃ l,l=45::r:=⟨_,rfl⟩
 have hlen:l.length=r.length+1:=by rw[hL];rfl
 rw[<- hL]at hg0 |-;have hs:=JF l;have hdr:l.drop 1=r:=by rw[hL];rfl
 have hl1:2<=l.length:=by omega
 have hl2:l.length<=20:=by omega
 have hne:((l.length:Int)==1)=false:=beq_eq_false_iff_ne.2 (by omega);have hpos:0<l.length:=by omega
 have HDR:=Lib.hid hdr;clear hL hlen hl hl0 hdr;go_enter Tryz.func103,Tryz.ntmps103;go_wp2;go_loop [9,10] (fun v0 v1=>∃ (a:Int) (k:Nat),v0=.int .i64 a/\v1=.int .i64 k/\1<=k/\k<=l.length/\QcA a/\Hid (QbT 0 r=QbT a (l.drop k))) (fun _ v1=>l.length-(intOf v1).toNat)
 case atStart=>exact⟨0,1,rfl,rfl,by omega,by omega,by unfold QcA;decide,by unfold Hid;rw[HDR.out]⟩
 case round=>
  obtain⟨a,k,rfl,rfl,hk1,hk,wa,HI⟩:=hrel;unfold QcA at wa
  by_cases hlt:k<l.length
  ·obtain⟨d,hd⟩:∃ d,l[k]?=some d:=⟨_,getElem?_eq_getElem hlt⟩
   have hg:∀ h,((bs l)[k]'h).toNat=d.toNat:=by
    intro h;simp only[bs];rw[getElem?_eq_getElem hlt]at hd;simp at hd;rw[<- hd];rfl
   have hd8:d.toNat<256:=d.toNat_lt
   have HD:Hid (QbT 0 r=if 48<=d.toNat/\d.toNat<=57 then QbT (QdY a d.toNat) (l.drop (k+1)) else none):=by
    unfold Hid;rw[HI.out,drop_eq_getElem_cons hlt];rw[getElem?_eq_getElem hlt]at hd;simp only[Option.some.injEq]at hd;rw[hd];rfl
   clear hd;generalize d.toNat=x at *
   by_cases h1:x<48
   ·have HN:Hid (QcW ((QbT 0 r).bind fun n=>QcL l lo hi n)=QcW none):=by unfold Hid;rw[HD.out,if_neg (by omega)];rfl
    go_wp2;go_ret2;exact⟨by rw[HN.out];rfl,rfl⟩
   ·by_cases h2:57<x
    ·have HN:Hid (QcW ((QbT 0 r).bind fun n=>QcL l lo hi n)=QcW none):=by unfold Hid;rw[HD.out,if_neg (by omega)];rfl
     go_wp2;go_ret2;exact⟨by rw[HN.out];rfl,rfl⟩
    ·have HN:Hid (QbT 0 r=QbT (QdY a x) (l.drop (k+1))):=by unfold Hid;rw[HD.out,if_pos (by omega)]
     go_wp2;refine⟨⟨QdY a x,k+1,rfl,by simp,by omega,by omega,QdH _,HN⟩,by simp[intOf];omega⟩
  ·have hkl:k=l.length:=by omega
   have HN:Hid (QbT 0 r=some a):=by unfold Hid;rw[HI.out,hkl,drop_length];rfl
   clear HI;have wF:QcA a:=wa;have HF:Hid (QcW ((QbT 0 r).bind fun n=>QcL l lo hi n)=QcW (QcL l lo hi a)):=by unfold Hid;rw[HN.out];rfl
   have tl:=Jl l;have tF:=Jl (itoa a)
   by_cases e1:itoa a=l
   ·have b1:(itoa a==l)=true:=beq_iff_eq.2 e1
    by_cases e2:lo<=a
    ·by_cases e3:a<=hi
     ·have HR:Hid (QcW ((QbT 0 r).bind fun n=>QcL l lo hi n)=.tuple #[.int .i64 a,.bool true]):=by unfold Hid;rw[HF.out,QcL,if_pos ⟨e1,e2,e3⟩];rfl
      have d2:decide (a<lo)=false:=decide_eq_false (by omega);have d3:decide (hi<a)=false:=decide_eq_false (by omega);clear HF e1;go_wp2_with fail;refine(QaV a _ wF).mono ?_;rintro e w' ⟨rfl,rfl⟩;go_wp2_with fail;go_ret2;exact⟨by rw[HR.out];rfl,rfl⟩
     ·have HR:Hid (QcW ((QbT 0 r).bind fun n=>QcL l lo hi n)=.tuple #[.int .i64 0,.bool false]):=by unfold Hid;rw[HF.out,QcL,if_neg (fun h=>e3 h.2.2)];rfl
      have d2:decide (a<lo)=false:=decide_eq_false (by omega);have d3:decide (hi<a)=true:=decide_eq_true (by omega);clear HF e1;go_wp2_with fail;refine(QaV a _ wF).mono ?_;rintro e w' ⟨rfl,rfl⟩;go_wp2_with fail;go_ret2;exact⟨by rw[HR.out];rfl,rfl⟩
    ·have HR:Hid (QcW ((QbT 0 r).bind fun n=>QcL l lo hi n)=.tuple #[.int .i64 0,.bool false]):=by unfold Hid;rw[HF.out,QcL,if_neg (fun h=>e2 h.2.1)];rfl
     have d2:decide (a<lo)=true:=decide_eq_true (by omega);clear HF e1;go_wp2_with fail;refine(QaV a _ wF).mono ?_;rintro e w' ⟨rfl,rfl⟩;go_wp2_with fail;go_ret2;exact⟨by rw[HR.out];rfl,rfl⟩
   ·have b1:(itoa a==l)=false:=beq_eq_false_iff_ne.2 e1;have HR:Hid (QcW ((QbT 0 r).bind fun n=>QcL l lo hi n)=.tuple #[.int .i64 0,.bool false]):=by unfold Hid;rw[HF.out,QcL,if_neg (fun h=>e1 h.1)];rfl
    clear HF e1;go_wp2_with fail;refine(QaV a _ wF).mono ?_;rintro e w' ⟨rfl,rfl⟩;go_wp2_with fail;go_ret2;exact⟨by rw[HR.out];rfl,rfl⟩
theorem QfZ(lo hi:Int)(w:World):Calls Tryz.prog 103 #[.string (bs []),.int .i64 lo,.int .i64 hi] w (Qcm (QcW none) w):=by
 have hs:=JF [];have z:Hid (QcW none=.tuple #[.int .i64 0,.bool false]):=rfl;go_enter Tryz.func103,Tryz.ntmps103;go_wp2;go_ret2;exact⟨by rw[z.out];rfl,rfl⟩
theorem QfY(lo hi:Int)(w:World):Calls Tryz.prog 103 #[.string (bs [45]),.int .i64 lo,.int .i64 hi] w (Qcm (QcW none) w):=by
 have hs:=JF [45];have hg0:∀ h,((bs [45])[0]'h).toNat=45:=fun h=>rfl
 have z:Hid (QcW none=.tuple #[.int .i64 0,.bool false]):=rfl;go_enter Tryz.func103,Tryz.ntmps103;go_wp2;go_ret2;exact⟨by rw[z.out];rfl,rfl⟩
theorem QdK(c:UInt8)(r:List UInt8)(lo hi:Int)(w:World)(hl:(if c.toNat=45 then 20 else 19)<=r.length)(hm:r.length<=281474976710656):Calls Tryz.prog 103 #[.string (bs (c::r)),.int .i64 lo,.int .i64 hi] w (Qcm (QcW none) w):=by
 have hg0:∀ h,((bs (c::r))[0]'h).toNat=c.toNat:=fun h=>rfl
 have hc8:c.toNat<256:=c.toNat_lt;obtain⟨l,hL⟩:∃ l,l=c::r:=⟨_,rfl⟩
 have hlen:l.length=r.length+1:=by rw[hL];rfl
 rw[<- hL]at hg0 |-;have hs:=JF l;have hl2:l.length<=281474976710657:=by omega
 have hpos:0<l.length:=by omega
 have z:Hid (QcW none=.tuple #[.int .i64 0,.bool false]):=rfl;generalize c.toNat=c0 at *
 by_cases h45:c0=45
 ·subst h45;rw[if_pos rfl]at hl;have h20:21<=l.length:=by omega
  have d:((l.length:Int)==1)=false:=beq_eq_false_iff_ne.2 (by omega);have d2:decide ((19:Int)<(l.length:Int)-1)=true:=decide_eq_true (by omega);clear hL hlen hl hm;go_enter Tryz.func103,Tryz.ntmps103;go_wp2;go_ret2;exact⟨by rw[z.out];rfl,rfl⟩
 ·rw[if_neg h45]at hl;have h20:20<=l.length:=by omega
  have h45i:((c0:Int)==45)=false:=beq_eq_false_iff_ne.2 (by omega);have d:((l.length:Int)==0)=false:=beq_eq_false_iff_ne.2 (by omega);have d2:decide ((19:Int)<(l.length:Int))=true:=decide_eq_true (by omega);clear hL hlen hl hm h45;go_enter Tryz.func103,Tryz.ntmps103;go_wp2;go_ret2;exact⟨by rw[z.out];rfl,rfl⟩
theorem Qga(l:List UInt8)(lo hi:Int)(w:World)(hm:l.length<=281474976710656):Calls Tryz.prog 103 #[.string (bs l),.int .i64 lo,.int .i64 hi] w (Qcm (QcW (QhJ l lo hi)) w):=by
 cases l with
 |nil=>exact QfZ lo hi w
 |cons c r=>
  unfold QhJ;simp only[length_cons]at hm
  by_cases h45:c.toNat=45
  ·simp only[if_pos h45];obtain rfl:c=45:=UInt8.toNat_inj.1 h45
   by_cases h1:r.length=0
   ·rw[if_pos (.inl h1)];obtain rfl:r=[]:=List.eq_nil_of_length_eq_zero h1;exact QfY lo hi w
   ·by_cases h2:19<r.length
    ·rw[if_pos (.inr h2)];exact QdK _ _ _ _ _ (by rw[if_pos h45];omega) (by omega)
    ·rw[if_neg (by omega)];exact QeG r lo hi w (by omega) (by omega)
  ·simp only[if_neg h45]
   by_cases h2:19<r.length+1
   ·rw[if_pos h2];exact QdK _ _ _ _ _ (by rw[if_neg h45];omega) (by omega)
   ·rw[if_neg h2];exact QeF c r lo hi w (beq_eq_false_iff_ne.2 h45) (by omega)
theorem QgB(l:List UInt8)(c:UInt8)(h:Qdl c):∀ a,QbT a (l++[c])=(QbT a l).map fun b=>QdY b c.toNat:=by
 unfold Qdl at h
 induction l with
 |nil=>intro a;simp only[List.nil_append,QbT];rw[if_pos h];rfl
 |cons x l ih=>
  intro a;simp only[List.cons_append,QbT];split
  ·exact ih _
  ·rfl
theorem QfA(u:Nat):u<=9223372036854775808->QbT 0 (decDigits u)=some (-(u:Int)):=by
 induction u using Nat.strongRecOn with
 |ind u ih=>
  intro hu
  by_cases h:u<10
  ·rw[decDigits,dif_pos h];have hd:=Jdd h;simp only[QbT];rw[hd,if_pos (by omega)]
   congr 1
   simp only[QdY,wrap64];omega
  ·rw[QfM h];have hd:=Jdd (d:=u % 10) (by omega);unfold Qgp;rw[QgB _ _ (by unfold Qdl;omega),ih _ (by omega) (by omega),hd];simp only[Option.map_some,QdY,wrap64]
   congr 1
   omega
theorem Qiv{a:Int}(h:QcA a):wrap64 a=a:=by unfold QcA at h;unfold wrap64;omega
theorem QjK{lo hi m:Int}(h2:QcA m)(h3:lo<=m)(h4:m<=hi):QhJ (itoa m) lo hi=some m:=by
 have hp:(10:Nat) ^ 19=10000000000000000000:=by decide
 have hw:=h2;unfold QcA at hw;have hf:QcL (itoa m) lo hi m=some m:=by unfold QcL;rw[if_pos ⟨rfl,h3,h4⟩]
 rcases V6 m with⟨h0,h⟩|⟨h0,h⟩
 ·have hr:=QfA m.toNat (by omega);have hl:=ZJ m.toNat 19 (by omega) (by omega);have ha:=JbT m.toNat;rw[h]at hf |-
  cases hd:decDigits m.toNat with
  |nil=>exact absurd hd (V5 _)
  |cons c r=>
   rw[hd]at hr hl ha hf;have hc:=ha c (by simp);unfold Qdl at hc;simp only[length_cons]at hl;unfold QhJ;simp only;rw[if_neg (by omega),if_neg (by omega),hr]
   show QcL _ _ _ (wrap64 (- -(m.toNat:Int)))=_
   rw[show (- -(m.toNat:Int))=m by omega,Qiv h2,hf]
 ·have hr:=QfA m.natAbs (by omega);have hl:=ZJ m.natAbs 19 (by omega) (by omega);have hn:=V5 m.natAbs;have hn0:(decDigits m.natAbs).length≠0:=fun e=>hn (List.eq_nil_of_length_eq_zero e)
  rw[h]at hf |-;unfold QhJ;simp only;rw[if_pos (by rfl),if_neg (by omega),hr]
  show QcL _ _ _ (-(m.natAbs:Int))=_
  rw[show (-(m.natAbs:Int))=m by omega,hf]
theorem QfL{l:List UInt8}{lo hi n m:Int}(h:QcL l lo hi n=some m):n=m/\itoa m=l/\lo<=m/\m<=hi:=by
 unfold QcL at h;split at h
 ·injection h with h;subst h;rename_i hc;exact⟨rfl,hc⟩
 ·cases h
theorem QiF(l:List UInt8):∀ a n,QcA a->QbT a l=some n->QcA n:=by
 induction l with
 |nil=>intro a n ha h;simp only[QbT]at h;injection h with h;subst h;exact ha
 |cons c r ih=>
  intro a n ha h;simp only[QbT]at h;split at h
  ·exact ih _ _ (QdH _) h
  ·cases h
theorem QjO{l:List UInt8}{lo hi m:Int}(h:QhJ l lo hi=some m):itoa m=l/\QcA m/\lo<=m/\m<=hi:=by
 unfold QhJ at h;split at h
 ·cases h
 ·split at h
  ·split at h
   ·cases h
   ·rename_i c r _ _
    cases hv:QbT 0 r with
    |none=>rw[hv]at h;cases h
    |some n=>
     rw[hv]at h;obtain⟨rfl,h1,h2⟩:=QfL h;exact⟨h1,QiF _ _ _ (by unfold QcA;decide) hv,h2⟩
  ·split at h
   ·cases h
   ·rename_i c r _ _
    cases hv:QbT 0 (c::r) with
    |none=>rw[hv]at h;cases h
    |some n=>
     rw[hv]at h;obtain⟨rfl,h1,h2⟩:=QfL h;exact⟨h1,QdH _,h2⟩
theorem QjL(l:List UInt8)(lo hi:Int):QhJ l lo hi=QaE l lo hi:=by
 cases h:QaE l lo hi with
 |some m=>
  obtain⟨rfl,h2,h3,h4⟩:=Jde h;exact QjK h2 h3 h4
 |none=>
  cases hr:QhJ l lo hi with
  |none=>rfl
  |some m=>
   obtain⟨h1,h2,h3,h4⟩:=QjO hr;rw[Jhp h1 h2 h3 h4]at h
   cases h
theorem QfT(c d:UInt8):c=d↔c.toNat=d.toNat:=⟨fun h=>by rw[h],fun h=>UInt8.toNat_inj.1 h⟩
theorem Qgc(c:UInt8)(w:World):Calls Tryz.prog 81 #[.int .u8 (c.toNat:Nat)] w (Qcm (.bool (Qcp c)) w):=by
 have hi:Qcp c=true↔c.toNat=9\/c.toNat=10\/c.toNat=13\/c.toNat=32:=by
  simp only[Qcp,Bool.or_eq_true,beq_iff_eq,QfT,or_assoc];exact Iff.rfl
 have hx:=c.toNat_lt;generalize c.toNat=x at *
 by_cases h:x=9\/x=10\/x=13\/x=32
 ·have H:=Lib.hid (hi.2 h);clear hi
  rcases h with rfl|rfl|rfl|rfl
  all_goals
   go_enter Tryz.func81,Tryz.ntmps81;go_wp2;go_ret;exact⟨by rw[H.out];rfl,rfl⟩
 ·have H:Hid (Qcp c=false):=by
   unfold Hid
   cases hq:Qcp c with
   |false=>rfl
   |true=>exact absurd (hi.1 hq) h
  have n9:((x:Int)==9)=false:=beq_eq_false_iff_ne.2 (by omega);have n10:((x:Int)==10)=false:=beq_eq_false_iff_ne.2 (by omega);have n13:((x:Int)==13)=false:=beq_eq_false_iff_ne.2 (by omega);have n32:((x:Int)==32)=false:=beq_eq_false_iff_ne.2 (by omega);clear hi h;go_enter Tryz.func81,Tryz.ntmps81;go_wp2;go_ret;exact⟨by rw[H.out];rfl,rfl⟩
theorem QbL(c:UInt8)(w:World):Calls Tryz.prog 100 #[.int .u8 (c.toNat:Nat)] w (Qcm (.bool (Qci c)) w):=by
 have hx:=c.toNat_lt
 by_cases h1:97<=c.toNat
 ·have b1:decide (97<=(c.toNat:Int))=true:=decide_eq_true (by omega)
  by_cases h2:c.toNat<=122
  ·have H:Hid (Qci c=true):=by unfold Hid;simp[Qci,h1,h2]
   have b2:decide ((c.toNat:Int)<=122)=true:=decide_eq_true (by omega);generalize c.toNat=x at *;go_enter Tryz.func100,Tryz.ntmps100;go_wp2;go_ret;exact⟨by rw[H.out];rfl,rfl⟩
  ·have H:Hid (Qci c=false):=by unfold Hid;simp[Qci,h2]
   have b2:decide ((c.toNat:Int)<=122)=false:=decide_eq_false (by omega);generalize c.toNat=x at *;go_enter Tryz.func100,Tryz.ntmps100;go_wp2;go_ret;exact⟨by rw[H.out];rfl,rfl⟩
 ·have H:Hid (Qci c=false):=by unfold Hid;simp[Qci,h1]
  have b1:decide (97<=(c.toNat:Int))=false:=decide_eq_false (by omega);generalize c.toNat=x at *;go_enter Tryz.func100,Tryz.ntmps100;go_wp2;go_ret;exact⟨by rw[H.out];rfl,rfl⟩
theorem Qcc(c:UInt8)(w:World):Calls Tryz.prog 102 #[.int .u8 (c.toNat:Nat)] w (Qcm (.bool (Qdy c)) w):=by
 have hx:=c.toNat_lt
 by_cases h1:48<=c.toNat
 ·have b1:decide (48<=(c.toNat:Int))=true:=decide_eq_true (by omega)
  by_cases h2:c.toNat<=57
  ·have H:Hid (Qdy c=true):=by unfold Hid;simp[Qdy,h1,h2]
   have b2:decide ((c.toNat:Int)<=57)=true:=decide_eq_true (by omega);generalize c.toNat=x at *;go_enter Tryz.func102,Tryz.ntmps102;go_wp2;go_ret;exact⟨by rw[H.out];rfl,rfl⟩
  ·have H:Hid (Qdy c=false):=by unfold Hid;simp[Qdy,h2]
   have b2:decide ((c.toNat:Int)<=57)=false:=decide_eq_false (by omega);generalize c.toNat=x at *;go_enter Tryz.func102,Tryz.ntmps102;go_wp2;go_ret;exact⟨by rw[H.out];rfl,rfl⟩
 ·have H:Hid (Qdy c=false):=by unfold Hid;simp[Qdy,h1]
  have b1:decide (48<=(c.toNat:Int))=false:=decide_eq_false (by omega);generalize c.toNat=x at *;go_enter Tryz.func102,Tryz.ntmps102;go_wp2;go_ret;exact⟨by rw[H.out];rfl,rfl⟩
set_option maxHeartbeats 1000000 in
theorem QeD(l:List UInt8)(a:Nat)(w:World)(ha:a<=l.length)(hl:l.length<=281474976710656):Calls Tryz.prog 101 #[.string (bs l),.int .i64 (a:Nat)] w (Qcm (.int .i64 ((Qao (l.drop a)).length:Nat)) w):=by
 have hs:=JF l;go_enter Tryz.func101,Tryz.ntmps101;go_wp2;go_loop [5] (fun v=>∃ k:Nat,a+k<=l.length/\v=.int .i64 k/\Hid (∀ c∈(l.drop a).take k,QbB c=true)) (fun v=>l.length-(intOf v).toNat)
 case atStart=>exact⟨0,by omega,rfl,by unfold Hid;simp⟩
 case round=>
  obtain⟨k,hk,rfl,HA⟩:=hrel;have fin:Hid (((l.drop a).drop k).head?.map QbB≠some true)->Hid ((Qao (l.drop a)).length=k):=fun h=>by unfold Hid;rw[JeY HA.out h.out];simp;omega
  by_cases hlt:a+k<l.length
  ·have hg:=Jjz l hlt;have hdk:(l.drop a).drop k=l[a+k]::l.drop (a+k+1):=by rw[drop_drop,drop_eq_getElem_cons hlt]
   have htk:(l.drop a).take (k+1)=(l.drop a).take k++[l[a+k]]:=by
    rw[List.take_succ_eq_append_getElem (by simp;omega),List.getElem_drop]
   have HN:QbB l[a+k]=true->Hid (∀ c∈(l.drop a).take (k+1),QbB c=true):=by
    intro h c hc;rw[htk,List.mem_append]at hc
    rcases hc with hc|hc
    ·exact HA.out c hc
    ·rw[List.mem_singleton]at hc;rw[hc];exact h
   have HF:QbB l[a+k]=false->Hid (((l.drop a).drop k).head?.map QbB≠some true):=by
    intro h;unfold Hid;rw[hdk,List.head?_cons,Option.map_some,h];simp
   have hx:l[a+k].toNat<256:=l[a+k].toNat_lt;obtain⟨c,hce⟩:∃ c,l[a+k]=c:=⟨_,rfl⟩
   rw[hce]at hg HN HF hx;have cL:=fun W=>QbL c W
   have cD:=fun W=>Qcc c W
   have e95:c=95↔c.toNat=95:=QfT c 95;have HE:=Lib.hid e95;clear hce hdk htk e95;have hz:((a:Int)+(k:Int)).toNat=a+k:=by omega
   cases h1:Qci c with
   |true=>
    have H:=HN (by simp[QbB,h1]);rw[h1]at cL;clear HN HF fin HE h1;generalize c.toNat=x at *;go_wp2_with fail;refine(Calls.mono (cL _) ?_);rintro e w' ⟨rfl,rfl⟩;go_wp2_with fail;go_round
    case rel=>exact⟨k+1,by omega,by go_num,H⟩
    case measure=>simp[intOf];omega
   |false=>
    rw[h1]at cL
    cases h2:Qdy c with
    |true=>
     have H:=HN (by simp[QbB,h2]);rw[h2]at cD;clear HN HF fin HE h1 h2;generalize c.toNat=x at *;go_wp2_with fail;refine(Calls.mono (cL _) ?_);rintro e w' ⟨rfl,rfl⟩;go_wp2_with fail;refine(Calls.mono (cD _) ?_);rintro e w' ⟨rfl,rfl⟩;go_wp2_with fail;go_round
     case rel=>exact⟨k+1,by omega,by go_num,H⟩
     case measure=>simp[intOf];omega
    |false=>
     rw[h2]at cD
     by_cases h3:c.toNat=95
     ·have H:=HN (by rw[HE.out.2 h3];decide);clear HN HF fin HE h1 h2;rw[h3]at hg hx cL cD;clear h3;go_wp2_with fail;refine(Calls.mono (cL _) ?_);rintro e w' ⟨rfl,rfl⟩;go_wp2_with fail;refine(Calls.mono (cD _) ?_);rintro e w' ⟨rfl,rfl⟩;go_wp2_with fail;go_round
      case rel=>exact⟨k+1,by omega,by go_num,H⟩
      case measure=>simp[intOf];omega
     ·have b3:((c.toNat:Int)==95)=false:=beq_eq_false_iff_ne.2 (by omega);have hne:(c==95)=false:=beq_eq_false_iff_ne.2 (fun h=>h3 (HE.out.1 h));have H:=fin (HF (by simp[QbB,h1,h2,hne]));clear HN HF fin HE h1 h2 h3 hne;generalize c.toNat=x at *;go_wp2_with fail;refine(Calls.mono (cL _) ?_);rintro e w' ⟨rfl,rfl⟩;go_wp2_with fail;refine(Calls.mono (cD _) ?_);rintro e w' ⟨rfl,rfl⟩;go_wp2_with fail;go_ret;exact⟨by rw[H.out];rfl,rfl⟩
  ·have H:=fin (by unfold Hid;rw[drop_drop,List.drop_eq_nil_of_le (by omega)];simp);have d1:decide ((a:Int)+(k:Int)<(l.length:Int))=false:=decide_eq_false (by omega);have d2:decide (a+k<l.length)=false:=decide_eq_false (by omega);clear fin;go_wp2_with fail;go_ret;exact⟨by rw[H.out];rfl,rfl⟩
def Qik(o:Option (List UInt8)):Nat:=match o with
 |some v=>v.length+2
 |none=>0
set_option maxHeartbeats 1000000 in
theorem Qfg(l:List UInt8)(a:Nat)(w:World)(ha:a<l.length)(hl:l.length<=281474976710655):Calls Tryz.prog 104 #[.string (bs l),.int .i64 (a:Nat)] w (Qcm (.int .i64 (Qik (Qax 25 (l.drop (a+1))):Nat)) w):=by
 have hs:=JF l;go_enter Tryz.func104,Tryz.ntmps104;go_wp2;go_loop [5] (fun v=>∃ k:Nat,a+1+k<=l.length/\k<=25/\v=.int .i64 ((k:Nat)+1)/\Hid (∀ c∈(l.drop (a+1)).take k,c≠34/\¬ (c.toNat<32\/126<c.toNat\/c=92))) (fun v=>l.length+1-(intOf v).toNat)
 case atStart=>exact⟨0,by omega,by omega,rfl,by unfold Hid;simp⟩
 case round=>
  obtain⟨k,hk,h25,rfl,HA⟩:=hrel;have HT:=Lib.hid (Jhs k 25 (l.drop (a+1)) HA.out (by simp;omega) h25)
  by_cases hlt:a+1+k<l.length
  ·have d1:decide ((a:Int)+((k:Int)+1)<(l.length:Int))=true:=decide_eq_true (by omega)
   by_cases hlt2:k<25
   ·have d2:decide ((k:Int)+1<=25)=true:=decide_eq_true (by omega);have hlt':a+(k+1)<l.length:=by omega
    have hg:=Jjz l hlt';have hx:l[a+(k+1)].toNat<256:=l[a+(k+1)].toNat_lt
    have hdk:(l.drop (a+1)).drop k=l[a+(k+1)]::l.drop (a+(k+1)+1):=by
     rw[drop_drop,show a+1+k=a+(k+1) by omega,drop_eq_getElem_cons hlt']
    have htk:(l.drop (a+1)).take (k+1)=(l.drop (a+1)).take k++[l[a+(k+1)]]:=by
     rw[List.take_succ_eq_append_getElem (by simp;omega),List.getElem_drop]
     congr 2
     congr 1
     omega
    have HD:Hid (Qax 25 (l.drop (a+1))=if l[a+(k+1)]=34 then some ((l.drop (a+1)).take k) else if l[a+(k+1)].toNat<32\/126<l[a+(k+1)].toNat\/l[a+(k+1)]=92 then none else Qax 25 (l.drop (a+1))):=by
     unfold Hid;have h1:=HT.out;rw[hdk,show 25-k=(24-k)+1 by omega]at h1;simp only[Qax]at h1;split
     ·rename_i hq;rw[if_pos hq]at h1;rw[h1];simp
     ·rename_i hq;rw[if_neg hq]at h1;split
      ·rename_i hb;rw[if_pos hb]at h1;rw[h1];rfl
      ·rfl
    have HN:l[a+(k+1)]≠34->¬ (l[a+(k+1)].toNat<32\/126<l[a+(k+1)].toNat\/l[a+(k+1)]=92)->Hid (∀ c∈(l.drop (a+1)).take (k+1),c≠34/\¬ (c.toNat<32\/126<c.toNat\/c=92)):=by
     intro h1 h2 c hc;rw[htk,List.mem_append]at hc
     rcases hc with hc|hc
     ·exact HA.out c hc
     ·rw[List.mem_singleton]at hc;rw[hc];exact⟨h1,h2⟩
    have hlk:((l.drop (a+1)).take k).length=k:=by simp;omega
    have e34:l[a+(k+1)]=34↔l[a+(k+1)].toNat=34:=QfT _ 34;have e92:l[a+(k+1)]=92↔l[a+(k+1)].toNat=92:=QfT _ 92;simp only[Ne,e34,e92]at HN HD;obtain⟨x,hxe⟩:∃ x,l[a+(k+1)].toNat=x:=⟨_,rfl⟩
    rw[hxe]at hg HD HN hx;clear hxe e34 e92 HT hdk htk;have hz:((a:Int)+((k:Int)+1)).toNat=a+(k+1):=by omega
    have hz0:0<=(a:Int)+((k:Int)+1):=by omega
    by_cases h34:x=34
    ·have H:Hid (Qik (Qax 25 (l.drop (a+1)))=k+2):=by unfold Hid;rw[HD.out,if_pos h34,Qik,hlk]
     subst h34;clear HD HN hlk;go_wp2;go_ret;exact⟨by rw[H.out];first|rfl|(simp;omega)|go_num,rfl⟩
    ·have i34:((x:Int)==34)=false:=beq_eq_false_iff_ne.2 (by omega)
     by_cases h32:x<32
     ·have H:Hid (Qik (Qax 25 (l.drop (a+1)))=0):=by unfold Hid;rw[HD.out,if_neg h34,if_pos (.inl h32)];rfl
      have b1:decide ((x:Int)<32)=true:=decide_eq_true (by omega);clear HD HN h34 h32 hlk;go_wp2;go_ret;exact⟨by rw[H.out];rfl,rfl⟩
     ·have b1:decide ((x:Int)<32)=false:=decide_eq_false (by omega)
      by_cases h126:126<x
      ·have H:Hid (Qik (Qax 25 (l.drop (a+1)))=0):=by unfold Hid;rw[HD.out,if_neg h34,if_pos (.inr (.inl h126))];rfl
       have b2:decide (126<(x:Int))=true:=decide_eq_true (by omega);clear HD HN h34 h32 h126 hlk;go_wp2;go_ret;exact⟨by rw[H.out];rfl,rfl⟩
      ·have b2:decide (126<(x:Int))=false:=decide_eq_false (by omega)
       by_cases h92:x=92
       ·have H:Hid (Qik (Qax 25 (l.drop (a+1)))=0):=by unfold Hid;rw[HD.out,if_neg h34,if_pos (.inr (.inr h92))];rfl
        subst h92;clear HD HN hlk;go_wp2;go_ret;exact⟨by rw[H.out];rfl,rfl⟩
       ·have i92:((x:Int)==92)=false:=beq_eq_false_iff_ne.2 (by omega);have H:=HN h34 (by omega);clear HD HN h34 h32 h126 h92 hlk;go_wp2;go_round
        case rel=>exact⟨k+1,by omega,by omega,by go_num,H⟩
        case measure=>simp[intOf];omega
   ·have d2:decide ((k:Int)+1<=25)=false:=decide_eq_false (by omega);have H:Hid (Qik (Qax 25 (l.drop (a+1)))=0):=by unfold Hid;rw[HT.out,show 25-k=0 by omega];rfl
    clear HT;go_wp2;go_ret;exact⟨by rw[H.out];rfl,rfl⟩
  ·have d1:decide ((a:Int)+((k:Int)+1)<(l.length:Int))=false:=decide_eq_false (by omega)
   have H:Hid (Qik (Qax 25 (l.drop (a+1)))=0):=by
    have hnil:(l.drop (a+1)).drop k=[]:=by rw[drop_drop];exact List.drop_eq_nil_of_le (by omega)
    unfold Hid;rw[HT.out,hnil]
    cases 25-k<;>rfl
   clear HT;go_wp2;go_ret;exact⟨by rw[H.out];rfl,rfl⟩
theorem QcD(l:List UInt8)(a b:Nat)(h:a<=b)(hb:b<=l.length)(i j:Int)(hi:i=a)(hj:j=b)(w:World):(Instr.slice 9 (.string (bs l)) (some (.int .i64 i)) (some (.int .i64 j)) none).run Tryz.prog w=.ok (.string (bs ((l.drop a).take (b-a)))) w:=by
 subst hi;subst hj;rw[run_slice_string w 9 (bs l) .i64 .i64 a b Tryz.underlying9 (by omega) (by omega) (by rw[JF];omega),<- KY];rfl
theorem Qgx(c:UInt8)(r:List UInt8):Qat (c::r)=if (c::r).take 2∈Qco then (c::r).take 2 else if c∈QaF then [c] else []:=by
 unfold Qat;rw[if_neg (show ¬ (c::r).head?=none by simp)];rfl
def Qce:Nat->UInt8
 |0=>61
 |1=>33
 |2=>60
 |_=>62
set_option maxRecDepth 100000 in
set_option maxHeartbeats 3000000 in
theorem Qff(l:List UInt8)(a:Nat)(c:UInt8)(r:List UInt8)(w:World)(hd:l.drop a=c::r)(ha:a<l.length)(hl:l.length<=281474976710000):Calls Tryz.prog 105 #[.string (bs l),.int .i64 (a:Nat)] w (Qhq w ((Qat (c::r)).length:Nat)):=by
 have hs:=JF l;have HS:=Lib.hid (Qgx c r)
 have ht2:∀ x:UInt8,(c::r).take 2=[x,61]->a+2<=l.length:=by
  intro x hx;have h1:=congrArg List.length hx;have h2:=congrArg List.length hd;simp at h1 h2;omega
 have HT2:=Lib.hid ht2;have hg:=Jjz l ha
 have hc:l[a]=c:=by
  have:=drop_eq_getElem_cons ha;rw[hd]at this;injection this with h _;exact h.symm
 rw[hc]at hg;have hx:=c.toNat_lt
 have hsl:a+2<=l.length->Hid (∀ W:World,(Instr.slice 9 (.string (bs l)) (some (.int .i64 (a:Int))) (some (.int .i64 ((a:Int)+2))) none).run Tryz.prog W=.ok (.string (bs ((c::r).take 2))) W):=by
  intro h W;have:=QcD l a (a+2) (by omega) h (a:Int) ((a:Int)+2) rfl (by omega) W;rw[hd,show a+2-a=2 by omega]at this;exact this
 have HC:=Lib.hid hc;clear ht2 hd hc;generalize hq:(c::r).take 2=q at *;have tq:=Jl q;have HQ:=Lib.hid hq;clear hq;go_enter Tryz.func105,Tryz.ntmps105;go_wp2_with fail;obtain⟨W,hW⟩:∃ W,W=w.alloc (.cells #[.string ⟨#[61,61]⟩,.string ⟨#[33,61]⟩,.string ⟨#[60,61]⟩,.string ⟨#[62,61]⟩] 9):=⟨_,rfl⟩
 have g0:W.heap[w.heap.size]?=some (.cells #[.string ⟨#[61,61]⟩,.string ⟨#[33,61]⟩,.string ⟨#[60,61]⟩,.string ⟨#[62,61]⟩] 9 (0,0)):=by rw[hW];exact heap_alloc_new w _
 have hb0:Below w.heap.size w W:=by rw[hW];exact(Below.refl _ _).alloc (le_refl _) _
 rw[<- hW];clear hW;have G0:=Lib.hid g0;clear g0;go_loopw [6] (fun v wr=>∃ k n:Nat,k<=4/\v=.int .i64 k/\wr=W.drewN n/\Hid (∀ j,j<k->q≠[Qce j,61])) (fun v _=>4-(intOf v).toNat)
 case atStart=>exact⟨0,0,by omega,rfl,rfl,by unfold Hid;intro j hj;omega⟩
 case round=>
  obtain⟨k,n,hk,rfl,rfl,HA⟩:=hrel
  by_cases hlt:k<4
  ·have hcell:∃ s:ByteArray,W.cell? ⟨w.heap.size,k,none⟩=some (.string s)/\s=bs [Qce k,61]:=by
    rcases (by omega:k=0\/k=1\/k=2\/k=3) with rfl|rfl|rfl|rfl
    all_goals exact⟨_,by rw[cell_of_row _ _ _ _ _ _ G0.out];rfl,rfl⟩
   obtain⟨s,hcell,hse⟩:=hcell;rw[hse]at hcell;have tl:=Jl [Qce k,61]
   by_cases h2:a+2<=l.length
   ·have d2:decide ((a:Int)+2<=(l.length:Int))=true:=decide_eq_true (by omega);have hsl:=(hsl h2).out
    by_cases hqe:q=[Qce k,61]
    ·have H:Hid ((Qat (c::r)).length=2):=by
      unfold Hid;rw[HS.out,if_pos,hqe]
      ·rfl
      ·rw[hqe]
       rcases (by omega:k=0\/k=1\/k=2\/k=3) with rfl|rfl|rfl|rfl<;>decide
     have e1:(q==[Qce k,61])=true:=beq_iff_eq.2 hqe;clear HS HT2 HQ HA hqe hse;generalize [Qce k,61]=lk at *;go_wp2_with fail;go_quiet (fail);go_wp2_with fail;go_ret;exact⟨by rw[H.out];rfl,Kw (Kw hb0 _) _⟩
    ·have e1:(q==[Qce k,61])=false:=beq_eq_false_iff_ne.2 hqe
     have H:Hid (∀ j,j<k+1->q≠[Qce j,61]):=by
      intro j hj
      rcases (by omega:j<k\/j=k) with h|h
      ·exact HA.out j h
      ·rw[h];exact hqe
     clear HS HT2 HQ HA hqe hse;generalize [Qce k,61]=lk at *;go_wp2_with fail;go_quiet (fail);go_wp2_with fail;go_roundw
     case rel=>exact⟨k+1,_,by omega,by go_num,by first|rfl|(simp;rfl),H⟩
     case measure=>simp[intOf];omega
   ·have d2:decide ((a:Int)+2<=(l.length:Int))=false:=decide_eq_false (by omega)
    have H:Hid (∀ j,j<k+1->q≠[Qce j,61]):=by
     intro j hj hq;exact absurd (HT2.out (Qce j) hq) h2
    clear HS HT2 HQ HA hse hsl;generalize [Qce k,61]=lk at *;go_wp2_with fail;go_quiet (fail);go_wp2_with fail;go_roundw
    case rel=>exact⟨k+1,_,by omega,by go_num,by first|rfl|(simp;rfl),H⟩
    case measure=>simp[intOf];omega
  ·obtain rfl:k=4:=by omega
   have hno:q∉Qco:=by
    have h0:=HA.out 0 (by omega);have h1:=HA.out 1 (by omega);have h2:=HA.out 2 (by omega);have h3:=HA.out 3 (by omega);simp only[Qce]at h0 h1 h2 h3;simp[Qco,h0,h1,h2,h3]
   have HR:Hid (Qat (c::r)=if c∈QaF then [c] else []):=by unfold Hid;rw[HS.out,if_neg hno]
   clear HS HT2 HQ HA hsl hno tq;go_wp2_with fail;obtain⟨w2,hw2⟩:∃ w2:World,w2=W.drewN n:=⟨_,rfl⟩
   have hbw:Below w.heap.size w w2:=by rw[hw2];exact Kw hb0 _
   rw[<- hw2];clear hw2;go_loopw [8] (fun v wr=>∃ i m:Nat,i<=12/\v=.int .i64 i/\wr=w2.drewN m/\Hid (∀ j,j<i->QaF[j]?≠some c)) (fun v _=>12-(intOf v).toNat)
   case atStart=>exact⟨0,0,by omega,rfl,rfl,by unfold Hid;intro j hj;omega⟩
   case round=>
    obtain⟨i,m,hi,rfl,rfl,HA⟩:=hrel
    by_cases hlt:i<12
    ·have hlt':i<QaF.length:=hlt;have hgs:∀ h,(({ data:=#[40,41,44,58,61,60,62,43,45,42,47,37] }:ByteArray)[i]'h).toNat=(QaF[i]'hlt').toNat:=Jjz QaF hlt';have hys:=(QaF[i]'hlt').toNat_lt;have hsi:QaF[i]?=some (QaF[i]'hlt'):=getElem?_eq_getElem hlt';have hmem:(QaF[i]'hlt')∈QaF:=List.getElem_mem hlt';have HE:=Lib.hid (QfT c (QaF[i]'hlt'));obtain⟨y,hy⟩:∃ y,QaF[i]'hlt'=y:=⟨_,rfl⟩
     rw[hy]at hgs hys hsi hmem HE;clear hy
     by_cases hcy:c.toNat=y.toNat
     ·have H:Hid ((Qat (c::r)).length=1):=by
       unfold Hid;rw[HR.out,if_pos (by rw[HE.out.2 hcy];exact hmem)];rfl
      have e1:((c.toNat:Int)==(y.toNat:Int))=true:=beq_iff_eq.2 (by omega);clear HR HA HE hsi hmem;generalize c.toNat=x at *;generalize y.toNat=z at *;clear hcy;go_wp2_with fail;go_quiet (fail);go_wp2_with fail;go_ret;exact⟨by rw[H.out];rfl,Kw (Kw hbw _) _⟩
     ·have H:Hid (∀ j,j<i+1->QaF[j]?≠some c):=by
       intro j hj
       rcases (by omega:j<i\/j=i) with h|h
       ·exact HA.out j h
       ·rw[h,hsi];intro he;injection he with he;exact hcy (by rw[he])
      have e1:((c.toNat:Int)==(y.toNat:Int))=false:=beq_eq_false_iff_ne.2 (by omega);clear HR HA HE hsi hmem;generalize c.toNat=x at *;generalize y.toNat=z at *;clear hcy;go_wp2_with fail;go_quiet (fail);go_wp2_with fail;go_roundw
      case rel=>exact⟨i+1,_,by omega,by go_num,by first|rfl|(simp;rfl),H⟩
      case measure=>simp[intOf];omega
    ·obtain rfl:i=12:=by omega
     have H:Hid ((Qat (c::r)).length=0):=by
      unfold Hid;rw[HR.out,if_neg]
      ·rfl
      ·intro hm;obtain⟨j,hj,he⟩:=List.getElem_of_mem hm;exact HA.out j hj (by rw[getElem?_eq_getElem hj,he])
     clear HR HA;go_wp2_with fail;go_ret;exact⟨by rw[H.out];rfl,Kw hbw _⟩
def Qle(o:Option (Tok × Nat)):Nat:=match o with
 |some (_,n)=>n
 |none=>0
def QcM(o:Option (Tok × Nat))(a:Nat)(w:World)(e:Ending)(w':World):Prop:=
 (∃ u:Tok,e=.returned (.tuple #[.agg (Qld u),.int .i64 (Qle o:Nat)])/\∀ t n,o=some (t,n)->u={ t with off:=(a:Nat) })/\Below w.heap.size w w'
theorem QbK{o:Option (Tok × Nat)}{a:Nat}{w w':World}(u:Tok)(n:Nat)(hn:n=Qle o)(h:∀ t m,o=some (t,m)->u={ t with off:=(a:Nat) })(hB:Below w.heap.size w w') :
  QcM o a w (.returned (.tuple #[.agg #[.int .i64 u.kind,.string (bs u.text),.int .i64 u.n,.int .i64 u.off],.int .i64 (n:Nat)])) w':=⟨⟨u,by rw[hn];rfl,h⟩,hB⟩
theorem QaX{P:Program}{fn:Func}{p a:Tmp}{ty:TypeId}(h:fn.results=#[.cell p ty,.tmp a])(tmps:Array Value)(w:World)(g:Nat)(t:TypeId)(cs:Array Value)(fr:Nat × Nat)(d:TypeDesc)
  (hp:tmps.getD p undef=.pointer (some ⟨g,0,none⟩)) (hg:w.heap[g]?=some (.cells cs t fr))
  (hu:P.underlying ty=some d) (hd:(match d with|.struct _|.array _ _=>true|_=>false)=true) (hi:(P.info? ty).map (·.size)=some cs.size) :
  (results fn tmps).run P w=.ok (.tuple #[.agg cs,tmps.getD a undef]) w:=by
 have hp':tmps[p]?.getD undef=.pointer (some ⟨g,0,none⟩):=by simpa using hp
 simp[results,h,hp',asAddr,run_loadVar_row w g t ty cs fr d hg hu hd hi]
set_option maxRecDepth 100000 in
set_option maxHeartbeats 2000000 in
theorem Qfe(l:List UInt8)(a:Nat)(c:UInt8)(r:List UInt8)(w:World)(hd:l.drop a=c::r)(ha:a<l.length)(hl:l.length<=281474976710000)(hc:Qci c=true)(hg:∀ h,((bs l)[a]'h).toNat=c.toNat) :
  Calls Tryz.prog 82 #[.string (bs l),.int .i64 (a:Nat)] w (QcM (QaU (c::r)) a w):=by
 have HF:Hid (QaU (c::r)=if (Qao (c::r)).length<=24 then some (⟨0,Qao (c::r),0,0⟩,(Qao (c::r)).length) else none):=by
  unfold Hid;simp only[QaU];rw[if_pos hc]
 have hs:=JF l;have cL:=fun W=>QbL c W
 have cD:=fun W=>Qcc c W
 have cW:=fun W=>QeD l a W (by omega) (by omega)
 rw[hd]at cW
 have hwl:a+(Qao (c::r)).length<=l.length:=by
  have h1:=YM (c::r);rw[<- hd,length_drop]at h1;rw[<- hd];omega
 have hsl:=QcD l a (a+(Qao (c::r)).length) (by omega) hwl (a:Int) ((a:Int)+((Qao (c::r)).length:Int)) rfl (by omega);rw[hd,show a+(Qao (c::r)).length-a=(Qao (c::r)).length by omega,JeS]at hsl;have hx:=c.toNat_lt;rw[hc]at cL;clear hd hc cD;generalize hwd:Qao (c::r)=wd at *;generalize c.toNat=x at *
 by_cases h24:wd.length<=24
 ·have HT:Hid (QaU (c::r)=some (⟨0,wd,0,0⟩,wd.length)):=by unfold Hid;rw[HF.out,if_pos h24]
  have d24:decide (24<(wd.length:Int))=false:=decide_eq_false (by omega);clear HF hwd;go_enter Tryz.func82,Tryz.ntmps82;go_wp2_with fail;refine(Calls.mono (cL _) ?_);rintro e w1 ⟨rfl,rfl⟩;go_wp2_with fail;refine(Calls.mono (cW _) ?_);rintro e w1 ⟨rfl,rfl⟩;go_wp2_with fail;refine bodyPost_ret (QaX rfl _ _ w.heap.size 46 #[.int .i64 0,.string (bs wd),.int .i64 0,.int .i64 (a:Nat)] (0,0) _ rfl (heap_alloc2_old _ _ _) Tryz.underlying46 rfl QbN) rfl ?_;rw[HT.out];exact QbK ⟨0,wd,0,(a:Nat)⟩ wd.length rfl (by intro t m h;injection h with h;injection h with h1 h2;subst h1;rfl) (((Below.refl _ _).alloc (le_refl _) _).alloc (by simp) _)
 ·have HT:Hid (QaU (c::r)=none):=by unfold Hid;rw[HF.out,if_neg h24]
  have d24:decide (24<(wd.length:Int))=true:=decide_eq_true (by omega);clear HF hwd;go_enter Tryz.func82,Tryz.ntmps82;go_wp2_with fail;refine(Calls.mono (cL _) ?_);rintro e w1 ⟨rfl,rfl⟩;go_wp2_with fail;refine(Calls.mono (cW _) ?_);rintro e w1 ⟨rfl,rfl⟩;go_wp2_with fail;refine bodyPost_ret (QaX rfl _ _ w.heap.size 46 #[.int .i64 0,.string (⟨#[]⟩),.int .i64 0,.int .i64 (a:Nat)] (0,0) _ rfl (heap_alloc2_old _ _ _) Tryz.underlying46 rfl QbN) rfl ?_;rw[HT.out];exact QbK ⟨0,[],0,(a:Nat)⟩ 0 rfl (by intro t m h;cases h) (((Below.refl _ _).alloc (le_refl _) _).alloc (by simp) _)
set_option maxRecDepth 100000 in
set_option maxHeartbeats 2000000 in
theorem QfW(l:List UInt8)(a:Nat)(c:UInt8)(r:List UInt8)(w:World)(hd:l.drop a=c::r)(ha:a<l.length)(hl:l.length<=281474976710000)(hc0:Qci c=false)(hc:Qdy c=true)(hg:∀ h,((bs l)[a]'h).toNat=c.toNat) :
  Calls Tryz.prog 82 #[.string (bs l),.int .i64 (a:Nat)] w (QcM (QaU (c::r)) a w):=by
 have HF:Hid (QaU (c::r)=(QaE (Qao (c::r)) 0 1125899906842624).map fun n=>(⟨1,[],n,0⟩,(Qao (c::r)).length)):=by
  unfold Hid;simp only[QaU];rw[if_neg (by simp[hc0]),if_pos hc]
 have hs:=JF l;have cL:=fun W=>QbL c W
 have cD:=fun W=>Qcc c W
 have cW:=fun W=>QeD l a W (by omega) (by omega)
 rw[hd]at cW
 have hwl:a+(Qao (c::r)).length<=l.length:=by
  have h1:=YM (c::r);rw[<- hd,length_drop]at h1;rw[<- hd];omega
 have hsl:=QcD l a (a+(Qao (c::r)).length) (by omega) hwl (a:Int) ((a:Int)+((Qao (c::r)).length:Int)) rfl (by omega);rw[hd,show a+(Qao (c::r)).length-a=(Qao (c::r)).length by omega,JeS]at hsl;have hx:=c.toNat_lt;rw[hc0]at cL;rw[hc]at cD;have cP:=fun W=>Qga (Qao (c::r)) 0 1125899906842624 W (by omega)
 rw[QjL]at cP;clear hd hc hc0;generalize hwd:Qao (c::r)=wd at *;generalize c.toNat=x at *;have HP:∀ o,QaE wd 0 1125899906842624=o->Hid (QaU (c::r)=o.map fun n=>(⟨1,[],n,0⟩,wd.length)):=fun o h=>by unfold Hid;rw[HF.out,h]
 clear HF hwd;generalize hpo:QaE wd 0 1125899906842624=o at *;have HT:=HP o rfl;clear HP hpo
 cases o with
 |some m=>
  have cP2:∀ W,Calls Tryz.prog 103 #[.string (bs wd),.int .i64 0,.int .i64 1125899906842624] W (Qcm (.tuple #[.int .i64 m,.bool true]) W):=cP;clear cP;go_enter Tryz.func82,Tryz.ntmps82;go_wp2_with fail;refine(Calls.mono (cL _) ?_);rintro e w1 ⟨rfl,rfl⟩;go_wp2_with fail;refine(Calls.mono (cD _) ?_);rintro e w1 ⟨rfl,rfl⟩;go_wp2_with fail;refine(Calls.mono (cW _) ?_);rintro e w1 ⟨rfl,rfl⟩;go_wp2_with fail;refine(Calls.mono (cP2 _) ?_);rintro e w1 ⟨rfl,rfl⟩;go_wp2_with fail;refine bodyPost_ret (QaX rfl _ _ w.heap.size 46 #[.int .i64 1,.string (⟨#[]⟩),.int .i64 m,.int .i64 (a:Nat)] (0,0) _ rfl (heap_alloc2_old _ _ _) Tryz.underlying46 rfl QbN) rfl ?_;rw[HT.out];exact QbK ⟨1,[],m,(a:Nat)⟩ wd.length rfl (by intro t m h;injection h with h;injection h with h1 h2;subst h1;rfl) (((Below.refl _ _).alloc (le_refl _) _).alloc (by simp) _)
 |none=>
  have cP2:∀ W,Calls Tryz.prog 103 #[.string (bs wd),.int .i64 0,.int .i64 1125899906842624] W (Qcm (.tuple #[.int .i64 0,.bool false]) W):=cP;clear cP;go_enter Tryz.func82,Tryz.ntmps82;go_wp2_with fail;refine(Calls.mono (cL _) ?_);rintro e w1 ⟨rfl,rfl⟩;go_wp2_with fail;refine(Calls.mono (cD _) ?_);rintro e w1 ⟨rfl,rfl⟩;go_wp2_with fail;refine(Calls.mono (cW _) ?_);rintro e w1 ⟨rfl,rfl⟩;go_wp2_with fail;refine(Calls.mono (cP2 _) ?_);rintro e w1 ⟨rfl,rfl⟩;go_wp2_with fail;refine bodyPost_ret (QaX rfl _ _ w.heap.size 46 #[.int .i64 0,.string (⟨#[]⟩),.int .i64 0,.int .i64 (a:Nat)] (0,0) _ rfl (heap_alloc2_old _ _ _) Tryz.underlying46 rfl QbN) rfl ?_;rw[HT.out];exact QbK ⟨0,[],0,(a:Nat)⟩ 0 rfl (by intro t m h;cases h) (((Below.refl _ _).alloc (le_refl _) _).alloc (by simp) _)
set_option maxRecDepth 100000 in
set_option maxHeartbeats 2000000 in
theorem QfV(l:List UInt8)(a:Nat)(c:UInt8)(r:List UInt8)(w:World)(hd:l.drop a=c::r)(ha:a<l.length)(hl:l.length<=281474976710000)(hc:c=34)(hg:∀ h,((bs l)[a]'h).toNat=c.toNat) :
  Calls Tryz.prog 82 #[.string (bs l),.int .i64 (a:Nat)] w (QcM (QaU (c::r)) a w):=by
 have HF:Hid (QaU (c::r)=(Qax 25 r).map fun w=>(⟨2,w,0,0⟩,w.length+2)):=by
  unfold Hid;subst hc;simp only[QaU];rw[if_neg (by decide),if_neg (by decide),if_pos trivial]
 have hs:=JF l;have cL:=fun W=>QbL c W
 have cD:=fun W=>Qcc c W
 rw[show Qci c=false by rw[hc];rfl]at cL;rw[show Qdy c=false by rw[hc];rfl]at cD;have cQ:=fun W=>Qfg l a W ha (by omega)
 have hdr:l.drop (a+1)=r:=by rw[<- drop_drop,hd];rfl
 rw[hdr]at cQ;have hx:c.toNat=34:=by rw[hc];rfl
 rw[hx]at hg cL cD
 have hrl:r.length+a+1=l.length:=by
  have:=congrArg List.length hd;simp at this;omega
 clear hd hc hx
 cases ho:Qax 25 r with
 |some v=>
  have HT:Hid (QaU (c::r)=some (⟨2,v,0,0⟩,v.length+2)):=by unfold Hid;rw[HF.out,ho];rfl
  obtain⟨v1,v2,v3⟩:=V7 _ _ _ ho;rw[ho]at cQ;have cQ2:∀ W,Calls Tryz.prog 104 #[.string (bs l),.int .i64 (a:Nat)] W (Qcm (.int .i64 ((v.length:Nat)+2)) W):=cQ;have hsl:=QcD l (a+1) (a+1+v.length) (by omega) (by omega) ((a:Int)+1) ((a:Int)+((v.length:Int)+2)-1) (by omega) (by omega)
  have hv:(r.take (a+1+v.length-(a+1)))=v:=by
   rw[show a+1+v.length-(a+1)=v.length by omega];have:=congrArg (List.take v.length) v3;rw[List.take_take,List.take_left' rfl,Nat.min_eq_left (by omega)]at this;exact this
  rw[hdr,hv]at hsl;have vl:v.length<=24:=by omega
  clear HF ho cQ v1 v2 v3 hv hdr;go_enter Tryz.func82,Tryz.ntmps82;go_wp2_with fail;refine(Calls.mono (cL _) ?_);rintro e w1 ⟨rfl,rfl⟩;go_wp2_with fail;refine(Calls.mono (cD _) ?_);rintro e w1 ⟨rfl,rfl⟩;go_wp2_with fail;refine(Calls.mono (cQ2 _) ?_);rintro e w1 ⟨rfl,rfl⟩;go_wp2_with fail;refine bodyPost_ret (QaX rfl _ _ w.heap.size 46 #[.int .i64 2,.string (bs v),.int .i64 0,.int .i64 (a:Nat)] (0,0) _ rfl (heap_alloc2_old _ _ _) Tryz.underlying46 rfl QbN) rfl ?_;rw[HT.out];exact QbK ⟨2,v,0,(a:Nat)⟩ (v.length+2) rfl (by intro t m h;injection h with h;injection h with h1 h2;subst h1;rfl) (((Below.refl _ _).alloc (le_refl _) _).alloc (by simp) _)
 |none=>
  have HT:Hid (QaU (c::r)=none):=by unfold Hid;rw[HF.out,ho];rfl
  rw[ho]at cQ;have cQ2:∀ W,Calls Tryz.prog 104 #[.string (bs l),.int .i64 (a:Nat)] W (Qcm (.int .i64 0) W):=cQ;clear HF ho cQ hdr;go_enter Tryz.func82,Tryz.ntmps82;go_wp2_with fail;refine(Calls.mono (cL _) ?_);rintro e w1 ⟨rfl,rfl⟩;go_wp2_with fail;refine(Calls.mono (cD _) ?_);rintro e w1 ⟨rfl,rfl⟩;go_wp2_with fail;refine(Calls.mono (cQ2 _) ?_);rintro e w1 ⟨rfl,rfl⟩;go_wp2_with fail;refine bodyPost_ret (QaX rfl _ _ w.heap.size 46 #[.int .i64 0,.string (⟨#[]⟩),.int .i64 0,.int .i64 (a:Nat)] (0,0) _ rfl (heap_alloc2_old _ _ _) Tryz.underlying46 rfl QbN) rfl ?_;rw[HT.out];exact QbK ⟨0,[],0,(a:Nat)⟩ 0 rfl (by intro t m h;cases h) (((Below.refl _ _).alloc (le_refl _) _).alloc (by simp) _)
set_option maxRecDepth 100000 in
set_option maxHeartbeats 2000000 in
theorem QgC(l:List UInt8)(a:Nat)(c:UInt8)(r:List UInt8)(w:World)(hd:l.drop a=c::r)(ha:a<l.length)(hl:l.length<=281474976710000)(hc0:Qci c=false)(hc1:Qdy c=false)(hc2:c≠34)(hg:∀ h,((bs l)[a]'h).toNat=c.toNat) :
  Calls Tryz.prog 82 #[.string (bs l),.int .i64 (a:Nat)] w (QcM (QaU (c::r)) a w):=by
 have HF:Hid (QaU (c::r)=if Qat (c::r)=[] then none else some (⟨3,Qat (c::r),0,0⟩,(Qat (c::r)).length)):=by
  unfold Hid;simp only[QaU];rw[if_neg (by simp[hc0]),if_neg (by simp[hc1]),if_neg hc2]
 have hs:=JF l;have cL:=fun W=>QbL c W
 have cD:=fun W=>Qcc c W
 rw[hc0]at cL;rw[hc1]at cD;have cS:=fun W=>Qff l a c r W hd ha hl
 have hsn:=Jaj (c::r)
 have hsgl:a+(Qat (c::r)).length<=l.length:=by
  have h1:=hsn.1;rw[<- hd,length_drop]at h1;rw[<- hd];omega
 have hsl:=QcD l a (a+(Qat (c::r)).length) (by omega) hsgl (a:Int) ((a:Int)+((Qat (c::r)).length:Int)) rfl (by omega);rw[hd,show a+(Qat (c::r)).length-a=(Qat (c::r)).length by omega,hsn.2.2]at hsl;have k34:((c.toNat:Int)==34)=false:=beq_eq_false_iff_ne.2 (fun h=>hc2 ((QfT c 34).2 (by show c.toNat=34;omega)));have hx:=c.toNat_lt;have hs2:=hsn.2.1
 have HTS:Hid (∀ t m,QaU (c::r)=some (t,m)->(⟨3,Qat (c::r),0,(a:Nat)⟩:Tok)={ t with off:=(a:Nat) }):=by
  unfold Hid;intro t m h;rw[HF.out]at h;split at h
  ·cases h
  ·injection h with h;injection h with h1 h2;subst h1;rfl
 have HTN:Hid ((Qat (c::r)).length=Qle (QaU (c::r))):=by
  unfold Hid;rw[HF.out];split
  ·rename_i h;rw[h];rfl
  ·rfl
 clear hd hc0 hc1 hc2 hsn HF;generalize Qat (c::r)=sg at *;generalize c.toNat=x at *;go_enter Tryz.func82,Tryz.ntmps82;go_wp2_with fail;refine(Calls.mono (cL _) ?_);rintro e w1 ⟨rfl,rfl⟩;go_wp2_with fail;refine(Calls.mono (cD _) ?_);rintro e w1 ⟨rfl,rfl⟩;go_wp2_with fail;have cS:=cS ((w.alloc (.cells #[.int .i64 0,.string ⟨#[]⟩,.int .i64 0,.int .i64 0] 46)).alloc (.cells #[.int .i64 0,.string ⟨#[]⟩,.int .i64 0,.int .i64 (a:Nat)] 46));refine(Calls.mono cS ?_);rintro e w4 ⟨rfl,hbx⟩;have hb4:=(((Below.refl w.heap.size w).alloc (le_refl _) (.cells #[.int .i64 0,.string ⟨#[]⟩,.int .i64 0,.int .i64 0] 46)).alloc (by simp) (.cells #[.int .i64 0,.string ⟨#[]⟩,.int .i64 0,.int .i64 (a:Nat)] 46)).trans (hbx.mono (by simp;omega));have g4:w4.heap[w.heap.size]?=some (.cells #[.int .i64 0,.string ⟨#[]⟩,.int .i64 0,.int .i64 0] 46 (0,0)):=by rw[hbx.block _ (by simp;omega),heap_alloc2_old]
 have g6:w4.heap[w.heap.size+1]?=some (.cells #[.int .i64 0,.string ⟨#[]⟩,.int .i64 0,.int .i64 (a:Nat)] 46 (0,0)):=by rw[hbx.block _ (by simp),heap_alloc2_new]
 have G4:=Lib.hid g4;have G6:=Lib.hid g6;clear hbx cS g4 g6;have q0:w4.cell? ⟨w.heap.size,0,none⟩=some (.int .i64 0):=by rw[cell_of_row _ _ _ _ _ _ G4.out];rfl
 have q1:w4.cell? ⟨w.heap.size,1,none⟩=some (.string ⟨#[]⟩):=by rw[cell_of_row _ _ _ _ _ _ G4.out];rfl
 have q2:w4.cell? ⟨w.heap.size,2,none⟩=some (.int .i64 0):=by rw[cell_of_row _ _ _ _ _ _ G4.out];rfl
 have q3:w4.cell? ⟨w.heap.size,3,none⟩=some (.int .i64 0):=by rw[cell_of_row _ _ _ _ _ _ G4.out];rfl
 have p0:w4.cell? ⟨w.heap.size+1,0,none⟩=some (.int .i64 0):=by rw[cell_of_row _ _ _ _ _ _ G6.out];rfl
 have p1:w4.cell? ⟨w.heap.size+1,1,none⟩=some (.string ⟨#[]⟩):=by rw[cell_of_row _ _ _ _ _ _ G6.out];rfl
 have p2:w4.cell? ⟨w.heap.size+1,2,none⟩=some (.int .i64 0):=by rw[cell_of_row _ _ _ _ _ _ G6.out];rfl
 have p3:w4.cell? ⟨w.heap.size+1,3,none⟩=some (.int .i64 (a:Nat)):=by rw[cell_of_row _ _ _ _ _ _ G6.out];rfl
 have f0:=frozen_of_row _ _ 0 _ _ G4.out;have e0:=frozen_of_row _ _ 0 _ _ G6.out;have f1:=frozen_of_row _ _ 1 _ _ G4.out;have e1:=frozen_of_row _ _ 1 _ _ G6.out;have f2:=frozen_of_row _ _ 2 _ _ G4.out;have e2:=frozen_of_row _ _ 2 _ _ G6.out;have f3:=frozen_of_row _ _ 3 _ _ G4.out;have e3:=frozen_of_row _ _ 3 _ _ G6.out;go_wp2_with fail
 have GG:((((((w4.setCell ⟨w.heap.size+1,0,none⟩ (.int .i64 3)).setCell ⟨w.heap.size+1,1,none⟩ (.string (bs sg))).setCell ⟨w.heap.size,0,none⟩ (.int .i64 3)).setCell ⟨w.heap.size,1,none⟩ (.string (bs sg))).setCell ⟨w.heap.size,2,none⟩ (.int .i64 0)).setCell ⟨w.heap.size,3,none⟩ (.int .i64 (a:Nat))).heap[w.heap.size]?=some (.cells #[.int .i64 3,.string (bs sg),.int .i64 0,.int .i64 (a:Nat)] 46 (0,0)):=by
  refine QhW _ _ _ _ (a0:=.int .i64 0) (a1:=.string ⟨#[]⟩) (a2:=.int .i64 0) (a3:=.int .i64 0) ?_;rw[heap_setCell_other _ _ _ _ (by simp),heap_setCell_other _ _ _ _ (by simp)];exact G4.out
 refine bodyPost_ret (QaX rfl _ _ w.heap.size 46 #[.int .i64 3,.string (bs sg),.int .i64 0,.int .i64 (a:Nat)] (0,0) _ rfl GG Tryz.underlying46 rfl QbN) rfl ?_;exact QbK ⟨3,sg,0,(a:Nat)⟩ sg.length HTN.out HTS.out (QfU _ _ _ _ ((hb4.setCell (by simp) _).setCell (by simp) _) (le_refl _))
theorem QfB(l:List UInt8)(a:Nat)(c:UInt8)(r:List UInt8)(w:World)(hd:l.drop a=c::r)(hl:l.length<=281474976710000) :
  Calls Tryz.prog 82 #[.string (bs l),.int .i64 (a:Nat)] w (QcM (QaU (c::r)) a w):=by
 have ha:a<l.length:=by
  have:=congrArg List.length hd;simp at this;omega
 have hg:∀ h,((bs l)[a]'h).toNat=c.toNat:=by
  have h1:=Jjz l ha;have h2:=drop_eq_getElem_cons ha;rw[hd]at h2;injection h2 with h2 _;rw[h2];exact h1
 cases h1:Qci c with
 |true=>exact Qfe l a c r w hd ha hl h1 hg
 |false=>
  cases h2:Qdy c with
  |true=>exact QfW l a c r w hd ha hl h1 h2 hg
  |false=>
   by_cases h3:c=34
   ·exact QfV l a c r w hd ha hl h3 hg
   ·exact QgC l a c r w hd ha hl h1 h2 h3 hg
theorem Qfc{l:List UInt8}{a n:Nat}{c:UInt8}{r:List UInt8}{t:Tok}(w:World)(hd:l.drop a=c::r)(hl:l.length<=281474976710000)(h:QaU (c::r)=some (t,n)) :
  Calls Tryz.prog 82 #[.string (bs l),.int .i64 (a:Nat)] w (fun e w'=>e=.returned (.tuple #[.agg #[.int .i64 t.kind,.string (bs t.text),.int .i64 t.n,.int .i64 (a:Nat)],.int .i64 (n:Nat)])/\Below w.heap.size w w'):=by
 refine(QfB l a c r w hd hl).mono ?_;rintro e w' ⟨⟨u,rfl,hu⟩,hb⟩;rw[hu t n h,h];exact⟨rfl,hb⟩
theorem Qfd{l:List UInt8}{a:Nat}{c:UInt8}{r:List UInt8}(w:World)(hd:l.drop a=c::r)(hl:l.length<=281474976710000)(h:QaU (c::r)=none) :
  Calls Tryz.prog 82 #[.string (bs l),.int .i64 (a:Nat)] w (fun e w'=>∃ (x y z:Int) (b:ByteArray),e=.returned (.tuple #[.agg #[.int .i64 x,.string b,.int .i64 y,.int .i64 z],.int .i64 0])/\Below w.heap.size w w'):=by
 refine(QfB l a c r w hd hl).mono ?_;rintro e w' ⟨⟨u,rfl,hu⟩,hb⟩;rw[h];exact⟨u.kind,u.n,u.off,bs u.text,rfl,hb⟩
theorem QfX(l:List UInt8)(w:World)(h:4096<l.length)(hl:l.length<=9223372036854775807):Calls Tryz.prog 49 #[.string (bs l)] w (Qcu (QaA l) w):=by
 have HR:Hid (QaA l=([],7,0)):=by unfold Hid QaA;rw[if_pos h]
 have hs:=JF l;have d1:decide (4096<(l.length:Int))=true:=decide_eq_true (by omega);clear h;go_enter Tryz.func49,Tryz.ntmps49;go_wp2;go_ret3;rw[HR.out];exact⟨_,rfl,World.ownsRow_nil _ _ _ _,Below.refl _ _⟩
set_option maxRecDepth 100000 in
set_option maxHeartbeats 2000000 in
theorem QgD(l:List UInt8)(w:World)(h:l.length<=4096):Calls Tryz.prog 49 #[.string (bs l)] w (Qcu (QaA l) w):=by
 have HR:Hid (QaA l=match sc 0 l with|.ok ts=>(ts,0,0)|.err k=>([],2,(k:Nat))):=by unfold Hid QaA;rw[if_neg (by omega)];rfl
 have hs:=JF l;have d1:decide (4096<(l.length:Int))=false:=decide_eq_false (by omega);obtain⟨i0,hi,hz0,hz1,hz2⟩:=info_parts Qir;go_enter Tryz.func49,Tryz.ntmps49;go_wp2_with fail;go_loopw [5,6] (fun v6 v7 wr=>∃ (us:List Tok) (k:Nat),k<=l.length/\v7=.int .i64 k/\us.length<=k/\wr.ownsRow w.heap.size 46 4 v6 us.length (Qan us)/\Below w.heap.size w wr/\Hid (sc 0 l=(sc k (l.drop k)).prep us)) (fun _ v7 _=>l.length-(intOf v7).toNat)
 case atStart=>exact⟨[],0,by omega,rfl,by simp,World.ownsRow_nil _ _ _ _,Below.refl _ _,by unfold Hid;rw[Jht];rfl⟩
 case round=>
  obtain⟨us,k,hk,rfl,huk,hown,hbr,HS⟩:=hrel;obtain⟨va,vc,rfl⟩:=Jan hown
  by_cases hlt:k<l.length
  ·have hg:=Jjz l hlt;have hx:l[k].toNat<256:=l[k].toNat_lt;have hdd:=drop_eq_getElem_cons hlt;obtain⟨c,hce⟩:∃ c,l[k]=c:=⟨_,rfl⟩
   rw[hce]at hdd hg hx;have HD:=Lib.hid hdd;have cB:=fun W=>Qgc c W
   clear hdd
   cases hsp:Qcp c with
   |true=>
    have H:Hid (sc 0 l=(sc (k+1) (l.drop (k+1))).prep us):=by unfold Hid;rw[HS.out,HD.out,Jhr k _ hsp]
    rw[hsp]at cB;have HO:=Lib.hid hown;clear hce HS hown hsp;generalize c.toNat=x at *;go_wp2_with fail;refine(Calls.mono (cB _) ?_);rintro e w1 ⟨rfl,rfl⟩;go_wp2;go_roundw
    case rel=>exact⟨us,k+1,by omega,by go_num,by omega,HO.out,hbr,H⟩
    case measure=>simp[intOf];omega
   |false=>
    rw[hsp]at cB
    cases ht:QaU (c::l.drop (k+1)) with
    |none=>
     have cT:=fun W=>Qfd W HD.out (by omega) ht
     have H:Hid (QaA l=([],2,((k:Nat):Int))):=by unfold Hid;rw[HR.out,HS.out,HD.out,JbW k _ hsp ht];rfl
     clear hce HS hown hsp ht;generalize c.toNat=x at *;go_wp2_with fail;refine(Calls.mono (cB _) ?_);rintro e w1 ⟨rfl,rfl⟩;go_wp2_with fail;refine(Calls.mono (cT _) ?_);rintro e w3 ⟨fa,fb,fd,fx,rfl,hb3⟩;have hbx:=hbr.trans (hb3.mono hbr.size);clear hb3 cT;go_wp2_with fail;go_ret3;rw[H.out];exact⟨_,rfl,World.ownsRow_nil _ _ _ _,hbx.alloc hbx.size _⟩
    |some q=>
     obtain⟨t,n⟩:=q;have hw:=JaP ht;have cT:=fun W=>Qfc W HD.out (by omega) ht
     have H:Hid (sc 0 l=(sc (k+n) (l.drop (k+n))).prep (us++[{ t with off:=(k:Int) }])):=by
      unfold Hid;rw[HS.out,HD.out,Jak k _ hsp ht,JeZ,<- HD.out,drop_drop]
     have hn:k+n<=l.length:=by
      have h1:=hw.2.2.1;rw[<- HD.out,length_drop]at h1;omega
     have hn1:=hw.2.1;have hn0:((n:Int)==0)=false:=beq_eq_false_iff_ne.2 (by omega);obtain⟨tk,tt,tn,tf⟩:=t;have HO:=Lib.hid hown;clear hce HS hown hw ht hsp;generalize c.toNat=x at *;go_wp2_with fail;refine(Calls.mono (cB _) ?_);rintro e w1 ⟨rfl,rfl⟩;go_wp2_with fail;refine(Calls.mono (cT _) ?_);rintro e w3 ⟨rfl,hb3⟩;have hown3:=ZL HO.out hb3;have hbx:=hbr.trans (hb3.mono hbr.size);clear hb3 cT HO;have HO3:=Lib.hid hown3;clear hown3;have hu63:us.length+1<=5000:=by omega
     go_wp2_with (at_builtin;refine wpList_append_own _ rfl _ _ 38 rfl w.heap.size 46 i0 (.agg #[.int .i64 0,.string ⟨#[]⟩,.int .i64 0,.int .i64 0]) 4 40 Tryz.underlying38 hi hz0 hz1 hz2 rfl (by decide) _ _ _ rfl ((HO3.out.alloc _).alloc _) ⟨w3.heap.size+1,0,none⟩ 1 1 [.int .i64 tk,.string (bs tt),.int .i64 tn,.int .i64 (k:Nat)] rfl rfl ?c1 ?c2 ?c3 ?c4 ?c5 ?_)
     case c1=>
      intro j u hj;rw[ZI];simpa using hj
     case c2=>intro u hu;simp at hu;rcases hu with rfl|rfl|rfl|rfl<;>rfl
     case c3=>unfold maxLen;omega
     case c4=>omega
     case c5=>simp;exact Nat.le_trans hbx.size (by omega)
     intro v' w' hown' hgrow _;have hbA:=(hbx.alloc hbx.size (.cells #[.int .i64 tk,.string (bs tt),.int .i64 tn,.int .i64 (k:Nat)] 46)).alloc (by simp;exact Nat.le_trans hbx.size (by omega)) (.cells #[.int .i64 tk,.string (bs tt),.int .i64 tn,.int .i64 (k:Nat)] 46);have hsz:=hbA.size;have hbG:=hbA.grown hgrow hsz (JaT HO3.out)
     have HOW:Hid (w'.ownsRow w.heap.size 46 4 v' (us++[(⟨tk,tt,tn,(k:Nat)⟩:Tok)]).length (Qan (us++[(⟨tk,tt,tn,(k:Nat)⟩:Tok)]))):=by
      unfold Hid;rw[List.length_append,Vc];exact hown'
     clear hown' hgrow hbA hsz HO3;go_wp2;go_roundw
     case rel=>exact⟨us++[(⟨tk,tt,tn,(k:Nat)⟩:Tok)],k+n,by omega,by go_num,by simp;omega,HOW.out,hbG,H⟩
     case measure=>simp[intOf];omega
  ·have hkl:k=l.length:=by omega
   have H:Hid (QaA l=(us++[⟨4,[],0,(l.length:Nat)⟩],0,0)):=by
    unfold Hid;rw[HR.out,HS.out,hkl,drop_length,Jdf];rfl
   subst hkl;have HO3:=Lib.hid hown;clear hown HS;have hu63:us.length+1<=5000:=by omega
   go_wp2_with (at_builtin;refine wpList_append_own _ rfl _ _ 38 rfl w.heap.size 46 i0 (.agg #[.int .i64 0,.string ⟨#[]⟩,.int .i64 0,.int .i64 0]) 4 40 Tryz.underlying38 hi hz0 hz1 hz2 rfl (by decide) _ _ _ rfl (HO3.out.alloc _) ⟨wr.heap.size,0,none⟩ 1 1 [.int .i64 4,.string ⟨#[]⟩,.int .i64 0,.int .i64 (l.length:Nat)] rfl rfl ?d1 ?d2 ?d3 ?d4 ?d5 ?_)
   case d1=>
    intro j u hj;rw[Jao];simpa using hj
   case d2=>intro u hu;simp at hu;rcases hu with rfl|rfl|rfl|rfl<;>rfl
   case d3=>unfold maxLen;omega
   case d4=>omega
   case d5=>simp;exact Nat.le_trans hbr.size (by omega)
   intro v' w' hown' hgrow _;have hbA:=hbr.alloc hbr.size (.cells #[.int .i64 4,.string ⟨#[]⟩,.int .i64 0,.int .i64 (l.length:Nat)] 46);have hbG:=hbA.grown hgrow hbA.size (JaT HO3.out)
   have HOW:Hid (w'.ownsRow w.heap.size 46 4 v' (us++[(⟨4,[],0,(l.length:Nat)⟩:Tok)]).length (Qan (us++[(⟨4,[],0,(l.length:Nat)⟩:Tok)]))):=by
    unfold Hid;rw[List.length_append,Vc];exact hown'
   clear hown' hgrow hbA HO3;go_wp2_with fail;go_ret3;rw[H.out];exact⟨_,rfl,HOW.out,hbG⟩
theorem QgE(l:List UInt8)(w:World)(hl:l.length<=9223372036854775807):Calls Tryz.prog 49 #[.string (bs l)] w (Qcu (QaA l) w):=by
 by_cases h:4096<l.length
 ·exact QfX l w h hl
 ·exact QgD l w (by omega)
set_option maxHeartbeats 8000000 in
theorem QeR(s:List UInt8)(w:World):Calls Tryz.prog 50 #[.string (bs s)] w (Qcm (.bool (Qam s)) w):=by
 have u1:=Jl s
 have HR:Qam s=((s==[97,110,100])||((s==[98,111,111,108])||((s==[100,101,102])||((s==[100,101,102,97,117,108,116])||((s==[101,108,115,101])||((s==[102,97,108,115,101])||((s==[104,105,100,101])||((s==[105,102])||((s==[105,110])||((s==[105,110,116])||((s==[108,97,98,101,108])||((s==[108,101,116])||((s==[108,105,109,105,116])||((s==[109,101,100,105,97])||((s==[110,111,116])||((s==[111,114])||((s==[115,104,111,119])||((s==[116,104,101,110])||((s==[116,114,117,101])||((s==[119,104,101,110])||(s==[119,111,114,100]))))))))))))))))))))):=by
  rw[Bool.eq_iff_iff];unfold Qam;simp only[decide_eq_true_eq,mem_cons,List.not_mem_nil,or_false,Bool.or_eq_true,beq_iff_eq];rfl
 rw[HR];clear HR;generalize e0:(s==[97,110,100])=b0;generalize e1:(s==[98,111,111,108])=b1;generalize e2:(s==[100,101,102])=b2;generalize e3:(s==[100,101,102,97,117,108,116])=b3;generalize e4:(s==[101,108,115,101])=b4;generalize e5:(s==[102,97,108,115,101])=b5;generalize e6:(s==[104,105,100,101])=b6;generalize e7:(s==[105,102])=b7;generalize e8:(s==[105,110])=b8;generalize e9:(s==[105,110,116])=b9;generalize e10:(s==[108,97,98,101,108])=b10;generalize e11:(s==[108,101,116])=b11;generalize e12:(s==[108,105,109,105,116])=b12;generalize e13:(s==[109,101,100,105,97])=b13;generalize e14:(s==[110,111,116])=b14;generalize e15:(s==[111,114])=b15;generalize e16:(s==[115,104,111,119])=b16;generalize e17:(s==[116,104,101,110])=b17;generalize e18:(s==[116,114,117,101])=b18;generalize e19:(s==[119,104,101,110])=b19;generalize e20:(s==[119,111,114,100])=b20
 cases b0 with
 |true=>
  go_enter Tryz.func50,Tryz.ntmps50;go_wp2;go_ret;exact⟨rfl,rfl⟩
 |false=>
 cases b1 with
 |true=>
  go_enter Tryz.func50,Tryz.ntmps50;go_wp2;go_ret;exact⟨rfl,rfl⟩
 |false=>
 cases b2 with
 |true=>
  go_enter Tryz.func50,Tryz.ntmps50;go_wp2;go_ret;exact⟨rfl,rfl⟩
 |false=>
 cases b3 with
 |true=>
  go_enter Tryz.func50,Tryz.ntmps50;go_wp2;go_ret;exact⟨rfl,rfl⟩
 |false=>
 cases b4 with
 |true=>
  go_enter Tryz.func50,Tryz.ntmps50;go_wp2;go_ret;exact⟨rfl,rfl⟩
 |false=>
 cases b5 with
 |true=>
  go_enter Tryz.func50,Tryz.ntmps50;go_wp2;go_ret;exact⟨rfl,rfl⟩
 |false=>
 cases b6 with
 |true=>
  go_enter Tryz.func50,Tryz.ntmps50;go_wp2;go_ret;exact⟨rfl,rfl⟩
 |false=>
 cases b7 with
 |true=>
  go_enter Tryz.func50,Tryz.ntmps50;go_wp2;go_ret;exact⟨rfl,rfl⟩
 |false=>
 cases b8 with
 |true=>
  go_enter Tryz.func50,Tryz.ntmps50;go_wp2;go_ret;exact⟨rfl,rfl⟩
 |false=>
 cases b9 with
 |true=>
  go_enter Tryz.func50,Tryz.ntmps50;go_wp2;go_ret;exact⟨rfl,rfl⟩
 |false=>
 cases b10 with
 |true=>
  go_enter Tryz.func50,Tryz.ntmps50;go_wp2;go_ret;exact⟨rfl,rfl⟩
 |false=>
 cases b11 with
 |true=>
  go_enter Tryz.func50,Tryz.ntmps50;go_wp2;go_ret;exact⟨rfl,rfl⟩
 |false=>
 cases b12 with
 |true=>
  go_enter Tryz.func50,Tryz.ntmps50;go_wp2;go_ret;exact⟨rfl,rfl⟩
 |false=>
 cases b13 with
 |true=>
  go_enter Tryz.func50,Tryz.ntmps50;go_wp2;go_ret;exact⟨rfl,rfl⟩
 |false=>
 cases b14 with
 |true=>
  go_enter Tryz.func50,Tryz.ntmps50;go_wp2;go_ret;exact⟨rfl,rfl⟩
 |false=>
 cases b15 with
 |true=>
  go_enter Tryz.func50,Tryz.ntmps50;go_wp2;go_ret;exact⟨rfl,rfl⟩
 |false=>
 cases b16 with
 |true=>
  go_enter Tryz.func50,Tryz.ntmps50;go_wp2;go_ret;exact⟨rfl,rfl⟩
 |false=>
 cases b17 with
 |true=>
  go_enter Tryz.func50,Tryz.ntmps50;go_wp2;go_ret;exact⟨rfl,rfl⟩
 |false=>
 cases b18 with
 |true=>
  go_enter Tryz.func50,Tryz.ntmps50;go_wp2;go_ret;exact⟨rfl,rfl⟩
 |false=>
 cases b19 with
 |true=>
  go_enter Tryz.func50,Tryz.ntmps50;go_wp2;go_ret;exact⟨rfl,rfl⟩
 |false=>
 cases b20 with
 |true=>
  go_enter Tryz.func50,Tryz.ntmps50;go_wp2;go_ret;exact⟨rfl,rfl⟩
 |false=>
 go_enter Tryz.func50,Tryz.ntmps50;go_wp2;go_ret;exact⟨rfl,rfl⟩
set_option maxHeartbeats 8000000 in
theorem Qgk(s:List UInt8)(w:World):Calls Tryz.prog 51 #[.string (bs s)] w (Qcm (.int .i64 ((QaD s).getD (-1))) w):=by
 have u1:=Jl s
 have HR:(QaD s).getD (-1)=if ((s==[108,105,107,101,115])||((s==[98,111,111,115,116,115])||((s==[114,101,112,108,105,101,115])||((s==[114,101,112,111,114,116,115])||((s==[97,103,101])||((s==[104,111,109,101])||((s==[115,99,111,112,101])||(s==[108,101,110,103,116,104]))))))))=true then 0 else if ((s==[102,111,108,108,111,119,115])||(s==[114,101,112,108,121]))=true then 1 else -1:=by
  have m1:(s∈[Qhh,Qfs,Qev,Qeu,Qls,Qja,Qhf,Qfr])↔((s==[108,105,107,101,115])||((s==[98,111,111,115,116,115])||((s==[114,101,112,108,105,101,115])||((s==[114,101,112,111,114,116,115])||((s==[97,103,101])||((s==[104,111,109,101])||((s==[115,99,111,112,101])||(s==[108,101,110,103,116,104]))))))))=true:=by
   simp only[mem_cons,List.not_mem_nil,or_false,Bool.or_eq_true,beq_iff_eq];rfl
  have m2:(s∈[Qew,Qhg])↔((s==[102,111,108,108,111,119,115])||(s==[114,101,112,108,121]))=true:=by
   simp only[mem_cons,List.not_mem_nil,or_false,Bool.or_eq_true,beq_iff_eq];rfl
  unfold QaD
  by_cases g1:((s==[108,105,107,101,115])||((s==[98,111,111,115,116,115])||((s==[114,101,112,108,105,101,115])||((s==[114,101,112,111,114,116,115])||((s==[97,103,101])||((s==[104,111,109,101])||((s==[115,99,111,112,101])||(s==[108,101,110,103,116,104]))))))))=true
  ·rw[if_pos g1,if_pos (m1.2 g1)];rfl
  ·rw[if_neg g1,if_neg (fun h=>g1 (m1.1 h))]
   by_cases g2:((s==[102,111,108,108,111,119,115])||(s==[114,101,112,108,121]))=true
   ·rw[if_pos g2,if_pos (m2.2 g2)];rfl
   ·rw[if_neg g2,if_neg (fun h=>g2 (m2.1 h))];rfl
 rw[HR];clear HR;generalize e0:(s==[108,105,107,101,115])=b0;generalize e1:(s==[98,111,111,115,116,115])=b1;generalize e2:(s==[114,101,112,108,105,101,115])=b2;generalize e3:(s==[114,101,112,111,114,116,115])=b3;generalize e4:(s==[97,103,101])=b4;generalize e5:(s==[104,111,109,101])=b5;generalize e6:(s==[115,99,111,112,101])=b6;generalize e7:(s==[108,101,110,103,116,104])=b7;generalize e8:(s==[102,111,108,108,111,119,115])=b8;generalize e9:(s==[114,101,112,108,121])=b9
 cases b0 with
 |true=>
  go_enter Tryz.func51,Tryz.ntmps51;go_wp2;go_ret;exact⟨rfl,rfl⟩
 |false=>
 cases b1 with
 |true=>
  go_enter Tryz.func51,Tryz.ntmps51;go_wp2;go_ret;exact⟨rfl,rfl⟩
 |false=>
 cases b2 with
 |true=>
  go_enter Tryz.func51,Tryz.ntmps51;go_wp2;go_ret;exact⟨rfl,rfl⟩
 |false=>
 cases b3 with
 |true=>
  go_enter Tryz.func51,Tryz.ntmps51;go_wp2;go_ret;exact⟨rfl,rfl⟩
 |false=>
 cases b4 with
 |true=>
  go_enter Tryz.func51,Tryz.ntmps51;go_wp2;go_ret;exact⟨rfl,rfl⟩
 |false=>
 cases b5 with
 |true=>
  go_enter Tryz.func51,Tryz.ntmps51;go_wp2;go_ret;exact⟨rfl,rfl⟩
 |false=>
 cases b6 with
 |true=>
  go_enter Tryz.func51,Tryz.ntmps51;go_wp2;go_ret;exact⟨rfl,rfl⟩
 |false=>
 cases b7 with
 |true=>
  go_enter Tryz.func51,Tryz.ntmps51;go_wp2;go_ret;exact⟨rfl,rfl⟩
 |false=>
 cases b8 with
 |true=>
  go_enter Tryz.func51,Tryz.ntmps51;go_wp2;go_ret;exact⟨rfl,rfl⟩
 |false=>
 cases b9 with
 |true=>
  go_enter Tryz.func51,Tryz.ntmps51;go_wp2;go_ret;exact⟨rfl,rfl⟩
 |false=>
 go_enter Tryz.func51,Tryz.ntmps51;go_wp2;go_ret;exact⟨rfl,rfl⟩
theorem QhG:∀ (l:List UInt8) (k:Nat),∀ t ts,sc k l=.ok (t::ts)->t.kind=0->t.text.length<=l.length/\(t.text.length=l.length->Qao l=l/\l.length<=24/\∃ c r,l=c::r/\Qci c=true):=by
 refine Jdg (P:=fun k l=>∀ t ts,sc k l=.ok (t::ts)->t.kind=0->t.text.length<=l.length/\(t.text.length=l.length->Qao l=l/\l.length<=24/\∃ c r,l=c::r/\Qci c=true)) ?_ ?_ ?_ ?_
 ·intro k t ts h hk;rw[Jdf]at h;injection h with h;injection h with h1 h2;rw[<- h1]at hk
  cases hk
 ·intro k c r hs ih t ts h hk;rw[Jhr k r hs]at h;obtain⟨h1,h2⟩:=ih t ts h hk;refine⟨by rw[length_cons];omega,fun he=>?_⟩;rw[length_cons]at he;omega
 ·intro k c r hs ht t ts h hk;rw[JbW k r hs ht]at h
  cases h
 ·intro k c r t n hs ht hn hle ih t' ts h hk;rw[Jak k r hs ht]at h;obtain⟨ts2,h1,h2⟩:=JeV h;injection h2 with h3 h4;subst h3;have hk0:t.kind=0:=hk;unfold QaU at ht;dsimp only at ht
  by_cases hc:Qci c=true
  ·rw[if_pos hc]at ht
   by_cases hw:(Qao (c::r)).length<=24
   ·rw[if_pos hw]at ht;injection ht with ht;injection ht with e1 e2;subst e1;refine⟨YM _,fun he=>?_⟩;have hh:(Qao (c::r)).length=(c::r).length:=he
    have hww:Qao (c::r)=c::r:=by
     have:=JeS (c::r);rw[hh,List.take_length]at this;exact this.symm
    refine⟨hww,?_,c,r,rfl,hc⟩;rw[<- hh];exact hw
   ·rw[if_neg hw]at ht;cases ht
  ·rw[if_neg hc]at ht
   exfalso
   by_cases hd:Qdy c=true
   ·rw[if_pos hd]at ht
    cases hp:QaE (Qao (c::r)) 0 1125899906842624 with
    |none=>rw[hp]at ht;cases ht
    |some m=>rw[hp]at ht;injection ht with ht;injection ht with e1 _;rw[<- e1]at hk0;cases hk0
   ·rw[if_neg hd]at ht
    by_cases hq:c=34
    ·rw[if_pos hq]at ht
     cases hp:Qax 25 r with
     |none=>rw[hp]at ht;cases ht
     |some m=>rw[hp]at ht;injection ht with ht;injection ht with e1 _;rw[<- e1]at hk0;cases hk0
    ·rw[if_neg hq]at ht
     by_cases hz:Qat (c::r)=[]
     ·rw[if_pos hz]at ht;cases ht
     ·rw[if_neg hz]at ht;injection ht with ht;injection ht with e1 _;rw[<- e1]at hk0;cases hk0
theorem Qfw(l:List UInt8):Qao l=l↔l.all QbB=true:=by
 unfold Qao
 induction l with
 |nil=>simp
 |cons c l ih=>
  rw[List.takeWhile_cons,List.all_cons]
  by_cases h:QbB c=true
  ·rw[if_pos h,h,Bool.true_and,<- ih];simp
  ·rw[if_neg h];simp[h]
theorem Qhx{w:World}{base C:Nat}{A:Option Addr}{a b:Tok}(h:w.ownsRow base 46 4 (.slice A [a,b].length C) [a,b].length (Qan [a,b])):∃ g,A=some ⟨g,0,none⟩/\w.cell? ⟨g,0,none⟩=some (.int .i64 a.kind)/\w.cell? ⟨g,1,none⟩=some (.string (bs a.text)):=by
 rcases h.2 with⟨h1,h0⟩|⟨g,cap,cur,hv,_⟩
 ·cases h0
 ·injection hv with e1 e2 e3;subst e1;have hc:=h.cells (g:=g) (by rfl);have h0:=hc 0 _ rfl;have h1:=hc 1 _ rfl;refine⟨g,rfl,?_,?_⟩
  ·rw[show (⟨g,0,none⟩:Addr).add 0=⟨g,0,none⟩ by unfold Addr.add;split<;>simp_all]at h0;exact h0
  ·rw[show (⟨g,0,none⟩:Addr).add 1=⟨g,1,none⟩ by unfold Addr.add;split<;>simp_all]at h1;exact h1
def QfE(s:List UInt8)(R:List Tok × Int × Int):Prop:=R.2.1=0/\∃ a b,R.1=[a,b]/\a.kind=0/\a.text=s
theorem Qgj(s:List UInt8):Qar s=true↔QfE s (QaA s)/\Qam s=false/\QaD s=none:=by
 constructor
 ·intro h
  cases s with
  |nil=>cases h
  |cons c r=>
   rw[Jel]at h;simp only[Bool.and_eq_true,decide_eq_true_eq,Bool.not_eq_true',Option.isNone_iff_eq_none]at h;obtain⟨⟨⟨⟨h1,h2⟩,h3⟩,h4⟩,h5⟩:=h;refine⟨?_,h5,h4⟩;have hw:=(Qfw (c::r)).2 h3
   have ht:QaU (c::r)=some (⟨0,c::r,0,0⟩,(c::r).length):=by
    unfold QaU;dsimp only;rw[if_pos h2,hw,if_pos h1]
   have hs:Qcp c=false:=by
    cases h:Qcp c with
    |false=>rfl
    |true=>
     have h6:=JeR h;have h7:=List.all_eq_true.1 h3 c (by simp);rw[h6]at h7
     cases h7
   have hsc:=QjD (c::r) rfl hs ht;unfold QaA;rw[if_neg (by omega),hsc];exact⟨rfl,_,_,rfl,rfl,rfl⟩
 ·rintro⟨⟨h1,a,b,h2,h3,h4⟩,h5,h6⟩;unfold QaA at h1 h2
  by_cases hl:4096<s.length
  ·rw[if_pos hl]at h1;cases h1
  rw[if_neg hl]at h1 h2
  cases hs:sc 0 s with
  |err k=>rw[hs]at h1;cases h1
  |ok ts=>
   rw[hs]at h2;have h2':ts=[a,b]:=h2;rw[h2']at hs;obtain⟨_,h7⟩:=QhG s 0 a [b] hs h3;obtain⟨h8,h9,c,r,h10,h11⟩:=h7 (by rw[h4]);rw[h10]at h5 h6 h8 h9 |-;rw[Jel,decide_eq_true h9,h11,(Qfw _).1 h8,h6,h5];rfl
set_option maxRecDepth 100000 in
set_option maxHeartbeats 8000000 in
theorem Qek(s:List UInt8)(w:World)(hs:s.length<=9223372036854775807):Calls Tryz.prog 19 #[.string (bs s)] w (Qck w (.bool (Qar s))):=by
 have u1:=Jl s;obtain⟨q,hq⟩:∃ q,Qar s=q:=⟨_,rfl⟩
 rw[hq];have hI:=Qgj s;rw[hq]at hI;have cs:=QgE s w (by omega);obtain⟨⟨ts,er,at0⟩,hR⟩:∃ R,QaA s=R:=⟨_,rfl⟩
 rw[hR]at cs hI;unfold QfE at hI;dsimp only at hI;have HI:=Lib.hid hI;have HK:=Lib.hid (fun W=>QeR s W);have HF:=Lib.hid (fun W=>Qgk s W);clear hq hI hR hs;go_enter Tryz.func19,Tryz.ntmps19;go_wp2_with fail;refine cs.mono ?_;rintro e w2 ⟨v,rfl,hown,hb⟩;dsimp only at hown |-;obtain⟨A,C,rfl⟩:=Jan hown;have HB:=Lib.hid (show Bel w w2 from hb);have HOW:=Lib.hid hown;clear cs hb hown
 by_cases her:er=0
 ·subst her
  by_cases hln:ts.length=2
  ·have dl:((ts.length:Int)==2)=true:=beq_iff_eq.2 (by omega);have dlN:(ts.length==2)=true:=beq_iff_eq.2 hln
   obtain⟨a,b,rfl⟩:∃ a b,ts=[a,b]:=by
    match ts,hln with
    |[a,b],_=>exact⟨a,b,rfl⟩
   obtain⟨g,rfl,k0,k1⟩:=Qhx HOW.out;clear dl dlN hln HOW;obtain⟨ak,at1,an,ao⟩:=a;dsimp only at k0 k1;have u2:=Jl at1
   by_cases hk:ak=0
   ·have e0:(ak==0)=true:=beq_iff_eq.2 hk
    by_cases ht:at1=s
    ·have e1:(at1==s)=true:=beq_iff_eq.2 ht
     cases hkw:Qam s with
     |true=>
      have hqf:q=false:=by
       cases q with
       |false=>rfl
       |true=>have:=(HI.out.1 rfl).2.1;rw[hkw]at this;cases this
      subst hqf;have ck:=HK.out w2;rw[hkw]at ck;clear hkw HK HF HI hk ht;go_wp2_with fail;refine ck.mono ?_;rintro e w3 ⟨rfl,rfl⟩;clear ck;go_wp2;go_ret;exact⟨rfl,HB.out⟩
     |false=>
      have ck:=HK.out w2;rw[hkw]at ck;have cf:=HF.out w2
      cases hf:QaD s with
      |none=>
       have hqt:q=true:=by
        cases q with
        |true=>rfl
        |false=>exact absurd (HI.out.2 ⟨⟨rfl,_,_,rfl,hk,ht⟩,hkw,hf⟩) (by decide)
       subst hqt;rw[hf]at cf;clear hkw hf HK HF HI hk ht;go_wp2_with fail;refine ck.mono ?_;rintro e w3 ⟨rfl,rfl⟩;clear ck;go_wp2_with fail;refine cf.mono ?_;rintro e w3 ⟨rfl,rfl⟩;clear cf;go_wp2;go_ret;exact⟨rfl,HB.out⟩
      |some t=>
       have hqf:q=false:=by
        cases q with
        |false=>rfl
        |true=>have:=(HI.out.1 rfl).2.2;rw[hf]at this;cases this
       subst hqf
       have ht0:t=0\/t=1:=by
        unfold QaD at hf;split at hf
        ·injection hf with hf;exact .inl hf.symm
        ·split at hf
         ·injection hf with hf;exact .inr hf.symm
         ·cases hf
       rw[hf]at cf;have d0:decide (t<0)=false:=decide_eq_false (by omega);clear hkw hf HK HF HI hk ht ht0;go_wp2_with fail;refine ck.mono ?_;rintro e w3 ⟨rfl,rfl⟩;clear ck;go_wp2_with fail;refine cf.mono ?_;rintro e w3 ⟨rfl,rfl⟩;clear cf;go_wp2;go_ret;exact⟨rfl,HB.out⟩
    ·have e1:(at1==s)=false:=beq_eq_false_iff_ne.2 ht
     have hqf:q=false:=by
      cases q with
      |false=>rfl
      |true=>
       obtain⟨⟨_,a',b',h1,_,h2⟩,_⟩:=HI.out.1 rfl;injection h1 with h1 _;exact absurd (by rw[<- h1]at h2;exact h2) ht
     subst hqf;clear HK HF HI hk ht;go_wp2;go_ret;exact⟨rfl,HB.out⟩
   ·have e0:(ak==0)=false:=beq_eq_false_iff_ne.2 hk
    have hqf:q=false:=by
     cases q with
     |false=>rfl
     |true=>
      obtain⟨⟨_,a',b',h1,h2,_⟩,_⟩:=HI.out.1 rfl;injection h1 with h1 _;exact absurd (by rw[<- h1]at h2;exact h2) hk
    subst hqf;clear HK HF HI hk;go_wp2;go_ret;exact⟨rfl,HB.out⟩
  ·have dl:((ts.length:Int)==2)=false:=beq_eq_false_iff_ne.2 (by omega);have dlN:(ts.length==2)=false:=beq_eq_false_iff_ne.2 hln
   have hqf:q=false:=by
    cases q with
    |false=>rfl
    |true=>
     obtain⟨⟨_,a',b',h1,_,_⟩,_⟩:=HI.out.1 rfl;rw[h1]at hln;exact absurd rfl hln
   subst hqf;clear HK HF HI hln HOW;go_wp2;go_ret;exact⟨rfl,HB.out⟩
 ·have e0:(er==0)=false:=beq_eq_false_iff_ne.2 her
  have hqf:q=false:=by
   cases q with
   |false=>rfl
   |true=>exact absurd (HI.out.1 rfl).1.1 her
  subst hqf;clear HK HF HI her HOW;go_wp2;go_ret;exact⟨rfl,HB.out⟩
end Go.Proofs.YtdlkcjkjnehnkaaGreatDoor
