import Derived.Test.YtdlkcjkjnehnkaaGreatDoorH29
namespace Go.Proofs.YtdlkcjkjnehnkaaGreatDoor
open Go.ChangeShapes Go.WideShapes Go.ChangeAt Go.RowKit Go.Lib
open _root_.Go.Proofs.Tryz
set_option linter.all false
set_option maxRecDepth 100000
set_option maxHeartbeats 32000000
mutual
def NmN:Exp->Prop
 |.mk k n s l=>s.length<=9223372036854775807/\NmL l
def NmL:List Exp->Prop
 |[]=>True
 |a::l=>NmN a/\NmL l
end
theorem JkE{l:List Exp}(h:NmL l):∀ a∈l,NmN a:=by
 induction l with
 |nil=>intro a ha;cases ha
 |cons x r ih=>
  unfold NmL at h;exact Qlu
def Bel(w W:World):Prop:=Below w.heap.size w W
def Qdv(k:Int)(i vars:Nat):Nat:=if k=19/\i=1 then vars+1 else vars
theorem Jac(pa:List Nat)(vars QaC:Nat)(k:Int):∀ (l:List Exp) (i:Nat) (a:Exp),Qbl pa vars QaC k i (l++[a])=(Qbl pa vars QaC k i l&&Qbi pa (Qdv k (i+l.length) vars) QaC a)
 |[],i,a=>by rw[List.nil_append,Qbl,Qbl,Qbl];simp[Qdv]
 |x::l,i,a=>by
  rw[List.cons_append,Qbl,Qbl,Jac pa vars QaC k l (i+1) a,Bool.and_assoc,List.length_cons,show i+1+l.length=i+(l.length+1) by omega]
theorem Zo(pa:List Nat)(vars QaC:Nat)(k:Int):∀ (l:List Exp) (i j:Nat) (a:Exp),l[j]?=some a->Qbi pa (Qdv k (i+j) vars) QaC a=false->Qbl pa vars QaC k i l=false
 |[],i,j,a,h,_=>by simp at h
 |x::l,i,0,a,h,hf=>by
  obtain rfl:x=a:=by simpa using h
  rw[Qbl];have:Qbi pa (if k=19/\i=1 then vars+1 else vars) QaC x=false:=hf;rw[this];rfl
 |x::l,i,j+1,a,h,hf=>by
  rw[Qbl,Zo pa vars QaC k l (i+1) j a (by simpa using h) (by rw[show i+1+j=i+(j+1) by omega];exact hf)];simp
theorem QlG{P:Prop}(h:P:=by
  go_wp2_with fail;refine ci.mono ?_;rintro e w7 ⟨rfl,hb7⟩;have HB7:=Zh (Jd HBX.out hb7);clear ci hb7 b0 b1 b2 b3 c0 c1 c2 c3 HBX
  cases x with
  |true=>
   have HFT:Hid (Qbl pa vars dn k 0 (l.take (i+1))=true):=by rw[Hid,List.take_add_one,HY.out];show Qbl _ _ _ _ _ (_++[y])=true;rw[Jac,hft.out,Nat.zero_add,List.length_take_of_le (Nat.le_of_lt HHI.out),HX.out];rfl
   clear hft;go_wp2;go_roundg (l.length-(i+1))
   case measure=>have:=HG.out;have:=HHI.out;omega
   case rel=>exact⟨i+1,by have:=HHI.out;omega,by go_num,HB7,HFT⟩
  |false=>
   have hqf:q=false:=by rw[<- HQ2.out];exact Zo pa vars dn k l 0 i y HY.out (by rw[Nat.zero_add];exact HX.out)
   subst hqf;have HB8:=Zh (HKX.out _ HB7.out);clear hft HB7;go_wp2;go_ret
   exact⟨rfl,HB8.out⟩):P:=h
theorem QlB{P:Prop}(h:P:=by
  try simp only[Act.put,ZA,ZB,ZC]
  refine wpAnyH_done (by kernel_rfl) ?_ _;have HW3:=Zh hH.1;clear hH b0 b1 b2 b3;go_wp2;go_ret
  exact⟨rfl,HKX.out _ HW3.out⟩):P:=h
theorem QkU{P:Prop}(h:P:=by
  intro W hW;have hh:=(hW.block _ HEB.out).trans HCP.out
  refine⟨?_,?_,?_,?_⟩<;>(rw[Ja hh];rfl)):P:=h
theorem JgD(fs:List FnM)(n:Nat)(IH:∀ (y:Exp) (d:Array Value) (v:Value) (vars QaC:Nat) (W:World),siz (utN y)<=n->NmN y->vars+siz (utN y)<=4000000000->QaC<=4000000000->XAt W (In W) y d->Qcz W v fs->
  Calls prog 54 #[v,.agg d,.int .i64 vars,.int .i64 QaC] W (Qck W (.bool (Qbi (fs.map (·.params.length)) vars QaC y))))
  (k nn:Int) (s:List UInt8) (l:List Exp) (ad:Option Addr) (cc:Nat) (v:Value) (vars QaC:Nat) (w:World) (hs:s.length<=9223372036854775807) (hl:NmL l) (hn:Qbq (utL l)<=n) (hv:vars+Qbq (utL l)+1<=4000000000) (hne:QaC<=4000000000) (hK:Qhp w ad l) (hF:Qcz w v fs) :
  Calls prog 54 #[v,.agg #[.int .i64 k,.int .i64 nn,.string (bs s),.slice ad l.length cc],.int .i64 vars,.int .i64 QaC] w (Qck w (.bool (Qbi (fs.map (·.params.length)) vars QaC (.mk k nn s l)))):=by
 obtain⟨q,hq⟩:∃ q,Qbi (fs.map (·.params.length)) vars QaC (.mk k nn s l)=q:=⟨_,rfl⟩
 rw[hq,];rw[Qbi]at hq;have hpl:(fs.map (·.params.length)).length=fs.length:=by simp
 rw[hpl]at hq;generalize hpa:fs.map (·.params.length)=pa at *;obtain⟨fa,fc,rfl,_⟩:=hF.form;have hbA:Below w.heap.size w (w.alloc (.cells #[.int .i64 k,.int .i64 nn,.string (bs s),.slice ad l.length cc] 30)):=zzb.alloc zzl _;have HCP:=Zh (zzw w (.cells #[.int .i64 k,.int .i64 nn,.string (bs s),.slice ad l.length cc] 30));have HKX:Hid (∀ W,Below (w.alloc (.cells #[.int .i64 k,.int .i64 nn,.string (bs s),.slice ad l.length cc] 30)).heap.size (w.alloc (.cells #[.int .i64 k,.int .i64 nn,.string (bs s),.slice ad l.length cc] 30)) W->Bel w W):=fun W hW=>Jd hbA hW
 have HKD:=Zh hK;have HFX:=Zh hF;have HIH:=Zh IH;have HPA:=Zh hpa;have HNL:=Zh hl;have hll:l.length<=4000000000:=by have:=Jjj l;omega
 have HSZ:=Zh hn;have HSV:=Zh hv;clear hbA hK hF IH hpa hl hpl hn hv
 by_cases h1:1<=QaC
 ·have d1:decide ((QaC:Int)<1)=false:=decide_eq_false (by omega);have d1N:decide (QaC<1)=false:=decide_eq_false (by omega);obtain⟨dn,hdn⟩:∃ dn,QaC=dn+1:=⟨QaC-1,by omega⟩
  have wn:IntKind.i64.wrap ((QaC:Int)-1)=(dn:Int):=by rw[IntWalk.i64_in _ (by omega)];omega
  have hd9:QaC-1=dn:=by omega
  rw[hd9,decide_eq_true h1,Bool.true_and]at hq;have HDN:Hid (dn<=4000000000):=by unfold Hid;omega
  clear hdn h1 hd9 hne;obtain⟨fb,hfb⟩:∃ fb,Qal fs.length vars k nn s=fb:=⟨_,rfl⟩
  have HFB:=Zh hfb;rw[hfb]at hq;clear hfb
  cases fb with
  |false=>
   obtain rfl:q=false:=by rw[<- hq];rfl
   clear hq wn;go_enter func54,ntmps54;go_upto_region 1 with fail;have HEB:Hid (w.heap.size<(w.alloc (.cells #[.int .i64 k,.int .i64 nn,.string (bs s),.slice ad l.length cc] 30)).heap.size):=Jb HCP.out;generalize World.alloc w _=w1 at *;generalize w.heap.size=eb at *
   have FF:Hid (∀ W,Below w1.heap.size w1 W->W.cell? ⟨eb,0,none⟩=some (.int .i64 k)/\W.cell? ⟨eb,1,none⟩=some (.int .i64 nn)/\W.cell? ⟨eb,2,none⟩=some (.string (bs s))/\W.cell? ⟨eb,3,none⟩=some (.slice ad l.length cc)):=by
    exact QkU
   obtain⟨b0,b1,b2,b3⟩:=FF.out _ zzb;refine wp_region_held_drew (S:=(fun W=>Below w1.heap.size w1 W/\W.cell? ⟨eb,0,none⟩=some (.int .i64 k)/\W.cell? ⟨eb,1,none⟩=some (.int .i64 nn)/\W.cell? ⟨eb,2,none⟩=some (.string (bs s))/\W.cell? ⟨eb,3,none⟩=some (.slice ad l.length cc))) (by kernel_rfl) (⟨(Below.refl w1.heap.size w1).drew,FF.out _ (Below.refl w1.heap.size w1).drew⟩) (fun hH=>?_);refine ZT (i:=0) (v:=?vF0) rfl (Or.inl ⟨by rfl,?yF0⟩) ?_
   case yF0=>exact ZyQ
   try simp only[Act.put,ZA,ZB,ZC]
   refine ZT (i:=1) (v:=?vF1) rfl (Or.inl ⟨by rfl,?yF1⟩) ?_
   case yF1=>exact ZyQ
   try simp only[Act.put,ZA,ZB,ZC]
   refine ZT (i:=2) (v:=?vF2) rfl (Or.inl ⟨by rfl,?yF2⟩) ?_
   case yF2=>exact ZyQ
   try simp only[Act.put,ZA,ZB,ZC]
   refine ZT (i:=3) (v:=?vF3) rfl (Or.inl ⟨by rfl,?yF3⟩) ?_
   case yF3=>exact ZyQ
   try simp only[Act.put,ZA,ZB,ZC]
   refine ZT (i:=4) (v:=?vF4) rfl (Or.inl ⟨by rfl,?yF4⟩) ?_
   case yF4=>exact ZyQ
   try simp only[Act.put,ZA,ZB,ZC]
   refine ZT (i:=5) (v:=?vF5) rfl (Or.inl ⟨by rfl,?yF5⟩) ?_
   case yF5=>exact ZyQ
   try simp only[Act.put,ZA,ZB,ZC]
   refine ZS 6 rfl (fun K hK=>?_);have cfi:=Yl (.slice fa fs.length fc) fs vars k nn s ad l.length cc _ hs (HFX.out.up (HKX.out _ ((Below.refl w1.heap.size w1).drew)));rw[HFB.out]at cfi
   (go_simp;go_at_call 83;refine cfi.mono ?_;rintro e wc0 ⟨rfl,hbc0⟩)
   refine hK.out _ _ (⟨((Below.refl w1.heap.size w1).drew).trans (hbc0.mono ((Below.refl w1.heap.size w1).drew).size),FF.out _ (((Below.refl w1.heap.size w1).drew).trans (hbc0.mono ((Below.refl w1.heap.size w1).drew).size))⟩) (fun hH=>?_);clear hK K
   try simp only[Act.put,ZA,ZB,ZC]
   refine ZT (i:=7) (v:=?vF7) rfl (Or.inl ⟨by rfl,?yF7⟩) ?_
   case yF7=>exact ZyQ
   try simp only[Act.put,ZA,ZB,ZC]
   refine ZT (i:=8) (v:=?vF8) rfl (Or.inl ⟨by rfl,?yF8⟩) ?_
   case yF8=>exact ZyQ
   try simp only[Act.put,ZA,ZB,ZC]
   refine ZT (i:=9) (v:=?vF9) rfl (Or.inl ⟨by rfl,?yF9⟩) ?_
   case yF9=>exact ZyQ
   try simp only[Act.put,ZA,ZB,ZC]
   refine ZT (i:=10) (v:=undef) rfl (Or.inr ⟨by rfl,rfl⟩) ?_
   try simp only[Act.put,ZA,ZB,ZC]
   refine ZT (i:=11) (v:=undef) rfl (Or.inr ⟨by rfl,rfl⟩) ?_
   try simp only[Act.put,ZA,ZB,ZC]
   refine ZT (i:=12) (v:=undef) rfl (Or.inr ⟨by rfl,rfl⟩) ?_
   try simp only[Act.put,ZA,ZB,ZC]
   refine ZT (i:=13) (v:=undef) rfl (Or.inr ⟨by rfl,rfl⟩) ?_
   try simp only[Act.put,ZA,ZB,ZC]
   refine ZT (i:=14) (v:=undef) rfl (Or.inr ⟨by rfl,rfl⟩) ?_
   try simp only[Act.put,ZA,ZB,ZC]
   refine ZT (i:=15) (v:=undef) rfl (Or.inr ⟨by rfl,rfl⟩) ?_
   try simp only[Act.put,ZA,ZB,ZC]
   refine ZT (i:=16) (v:=undef) rfl (Or.inr ⟨by rfl,rfl⟩) ?_
   try simp only[Act.put,ZA,ZB,ZC]
   refine ZT (i:=17) (v:=?vF17) rfl (Or.inl ⟨by rfl,?yF17⟩) ?_
   case yF17=>exact ZyQ
   exact QlB
  |true=>
  rw[Bool.true_and]at hq
  have h20:k=20->0<=nn/\nn<(fs.length:Int):=by
   intro e;subst e;have:=HFB.out;unfold Qal at this;simp at this;exact⟨this.1.1,this.1.2⟩
  have H20:=Zh h20;obtain⟨am,ham⟩:∃ am,QbG pa k nn=am:=⟨_,rfl⟩
  have HAM:=Zh ham;rw[ham]at hq;clear ham h20
  by_cases hlen:l.length=am
  ·have HLE:=Zh hlen;have hq2:Qbl pa vars dn k 0 l=q:=by rw[<- hq,hlen];simp
   have HQ2:=Zh hq2;have ea:((l.length:Int)==(am:Int))=true:=beq_iff_eq.2 (by omega);have eaN:((l.length:Int) !=(am:Int))=false:=by rw[bne,ea];rfl
   clear hlen hq hq2;go_enter func54,ntmps54;go_upto_region 1 with fail;have HEB:Hid (w.heap.size<(w.alloc (.cells #[.int .i64 k,.int .i64 nn,.string (bs s),.slice ad l.length cc] 30)).heap.size):=Jb HCP.out;generalize World.alloc w _=w1 at *;generalize w.heap.size=eb at *
   have FF:Hid (∀ W,Below w1.heap.size w1 W->W.cell? ⟨eb,0,none⟩=some (.int .i64 k)/\W.cell? ⟨eb,1,none⟩=some (.int .i64 nn)/\W.cell? ⟨eb,2,none⟩=some (.string (bs s))/\W.cell? ⟨eb,3,none⟩=some (.slice ad l.length cc)):=by
    exact QkU
   obtain⟨b0,b1,b2,b3⟩:=FF.out _ zzb;refine wp_region_held_drew (S:=(fun W=>Below w1.heap.size w1 W/\W.cell? ⟨eb,0,none⟩=some (.int .i64 k)/\W.cell? ⟨eb,1,none⟩=some (.int .i64 nn)/\W.cell? ⟨eb,2,none⟩=some (.string (bs s))/\W.cell? ⟨eb,3,none⟩=some (.slice ad l.length cc))) (by kernel_rfl) (⟨(Below.refl w1.heap.size w1).drew,FF.out _ (Below.refl w1.heap.size w1).drew⟩) (fun hH=>?_);refine ZT (i:=0) (v:=?vT0) rfl (Or.inl ⟨by rfl,?yT0⟩) ?_
   case yT0=>exact ZyQ
   try simp only[Act.put,ZA,ZB,ZC]
   refine ZT (i:=1) (v:=?vT1) rfl (Or.inl ⟨by rfl,?yT1⟩) ?_
   case yT1=>exact ZyQ
   try simp only[Act.put,ZA,ZB,ZC]
   refine ZT (i:=2) (v:=?vT2) rfl (Or.inl ⟨by rfl,?yT2⟩) ?_
   case yT2=>exact ZyQ
   try simp only[Act.put,ZA,ZB,ZC]
   refine ZT (i:=3) (v:=?vT3) rfl (Or.inl ⟨by rfl,?yT3⟩) ?_
   case yT3=>exact ZyQ
   try simp only[Act.put,ZA,ZB,ZC]
   refine ZT (i:=4) (v:=?vT4) rfl (Or.inl ⟨by rfl,?yT4⟩) ?_
   case yT4=>exact ZyQ
   try simp only[Act.put,ZA,ZB,ZC]
   refine ZT (i:=5) (v:=?vT5) rfl (Or.inl ⟨by rfl,?yT5⟩) ?_
   case yT5=>exact ZyQ
   try simp only[Act.put,ZA,ZB,ZC]
   refine ZS 6 rfl (fun K hK=>?_);have cfi:=Yl (.slice fa fs.length fc) fs vars k nn s ad l.length cc _ hs (HFX.out.up (HKX.out _ ((Below.refl w1.heap.size w1).drew)));rw[HFB.out]at cfi
   (go_simp;go_at_call 83;refine cfi.mono ?_;rintro e wc0 ⟨rfl,hbc0⟩)
   refine hK.out _ _ (⟨((Below.refl w1.heap.size w1).drew).trans (hbc0.mono ((Below.refl w1.heap.size w1).drew).size),FF.out _ (((Below.refl w1.heap.size w1).drew).trans (hbc0.mono ((Below.refl w1.heap.size w1).drew).size))⟩) (fun hH=>?_);clear hK K
   try simp only[Act.put,ZA,ZB,ZC]
   refine ZT (i:=7) (v:=?vT7) rfl (Or.inl ⟨by rfl,?yT7⟩) ?_
   case yT7=>exact ZyQ
   try simp only[Act.put,ZA,ZB,ZC]
   refine ZT (i:=8) (v:=?vT8) rfl (Or.inl ⟨by rfl,?yT8⟩) ?_
   case yT8=>exact ZyQ
   try simp only[Act.put,ZA,ZB,ZC]
   refine ZT (i:=9) (v:=?vT9) rfl (Or.inl ⟨by rfl,?yT9⟩) ?_
   case yT9=>exact ZyQ
   try simp only[Act.put,ZA,ZB,ZC]
   refine ZT (i:=10) (v:=?vT10) rfl (Or.inl ⟨by rfl,?yT10⟩) ?_
   case yT10=>exact ZyQ
   try simp only[Act.put,ZA,ZB,ZC]
   refine ZT (i:=11) (v:=?vT11) rfl (Or.inl ⟨by rfl,?yT11⟩) ?_
   case yT11=>exact ZyQ
   try simp only[Act.put,ZA,ZB,ZC]
   refine ZT (i:=12) (v:=?vT12) rfl (Or.inl ⟨by rfl,?yT12⟩) ?_
   case yT12=>exact ZyQ
   try simp only[Act.put,ZA,ZB,ZC]
   refine ZT (i:=13) (v:=?vT13) rfl (Or.inl ⟨by rfl,?yT13⟩) ?_
   case yT13=>exact ZyQ
   try simp only[Act.put,ZA,ZB,ZC]
   refine ZT (i:=14) (v:=?vT14) rfl (Or.inl ⟨by rfl,?yT14⟩) ?_
   case yT14=>exact ZyQ
   try simp only[Act.put,ZA,ZB,ZC]
   refine ZS 15 rfl (fun K hK=>?_);have car:=JbF fs (.slice fa fs.length fc) k nn s ad l.length cc _ (HFX.out.up (HKX.out _ (hH.1))) H20.out;rw[HPA.out,HAM.out]at car
   (go_simp;go_at_call 84;refine car.mono ?_;rintro e wc1 ⟨rfl,hbc1⟩)
   refine hK.out _ _ (⟨(hH.1).trans (hbc1.mono (hH.1).size),FF.out _ ((hH.1).trans (hbc1.mono (hH.1).size))⟩) (fun hH=>?_);clear hK K
   try simp only[Act.put,ZA,ZB,ZC]
   refine ZT (i:=16) (v:=?vT16) rfl (Or.inl ⟨by rfl,?yT16⟩) ?_
   case yT16=>exact ZyQ
   try simp only[Act.put,ZA,ZB,ZC]
   refine ZT (i:=17) (v:=?vT17) rfl (Or.inl ⟨by rfl,?yT17⟩) ?_
   case yT17=>exact ZyQ
   try simp only[Act.put,ZA,ZB,ZC]
   refine wpAnyH_done (by kernel_rfl) ?_ _;have HW3:=Zh hH.1;have hff:=FF.out _ hH.1;clear b0 b1 b2 b3 hH;clear cfi car hbc0 hbc1;obtain⟨w3,hw3⟩:∃ w3,w3=wc1:=⟨_,rfl⟩
   rw[<- hw3]at HW3 hff |-;clear hw3;obtain⟨b0,b1,b2,b3⟩:=hff;go_wp2_with fail;clear b0 b1 b2 b3 ea eaN;go_loopg [33] l.length (fun g v33 wr=>∃ i:Nat,g+i=l.length/\v33=.int .i64 i/\Hid (Below w1.heap.size w1 wr)/\Hid (Qbl pa vars dn k 0 (l.take i)=true))
   case atStart=>exact⟨0,rfl,rfl,HW3,by unfold Hid;rw[List.take_zero,Qbl]⟩
   case round=>
   clear HW3;obtain⟨wl,rfl⟩:∃ wl:World,wl=wr:=⟨_,rfl⟩
   obtain⟨i,hg,rfl,hbw,hft⟩:=hrel
   by_cases hi:i<l.length
   ·have hil:(i:Int)<(l.length:Int):=by omega
    obtain⟨y,hy⟩:∃ y,l[i]?=some y:=⟨l[i],List.getElem?_eq_getElem hi⟩
    have hmem:=List.mem_of_getElem? hy;obtain⟨b,o,da,dc,had,hxy,c0,c1,c2,c3⟩:=HKD.out.at' (HKX.out _ hbw.out) hy;have wk:IntKind.i64.wrap ((i:Int)+1)=(i:Int)+1:=IntWalk.i64_in _ (by omega);have hb2:Below wl.heap.size wl (wl.alloc (.cells #[.int .i64 y.kind,.int .i64 y.num,.string (bs y.name),.slice da y.kids.length dc] 30)):=zzb.alloc zzl _;have hbx:Below w1.heap.size w1 (wl.alloc (.cells #[.int .i64 y.kind,.int .i64 y.num,.string (bs y.name),.slice da y.kids.length dc] 30)):=Jd hbw.out hb2;have ci:=HIH.out y _ (.slice fa fs.length fc) (Qdv k i vars) dn (wl.alloc (.cells #[.int .i64 y.kind,.int .i64 y.num,.string (bs y.name),.slice da y.kids.length dc] 30)) (by have:=Jgz hmem;have:=HSZ.out;omega) (JkE HNL.out y hmem) (by have:=Jgz hmem;have:=HSV.out;unfold Qdv;split<;>omega) HDN.out (hxy.up hb2) (HFX.out.up (HKX.out _ hbx));obtain⟨x,hx⟩:∃ x,Qbi pa (Qdv k i vars) dn y=x:=⟨_,rfl⟩
    rw[hx]at ci;have HX:=Zh hx;have HY:=Zh hy;have HBX:=Zh hbx;have HG:=Zh hg;have HHI:=Zh hi;obtain⟨b0,b1,b2,b3⟩:=FF.out _ hbx;subst had;clear hb2 hbx hmem hxy hbw hx hy hi hg;have hsc:Qdv k i vars=if k=19/\i=1 then vars+1 else vars:=rfl
    by_cases e19:k=19
    ·have f19:(k==19)=true:=beq_iff_eq.2 e19
     by_cases e1:i=1
     ·rw[if_pos ⟨e19,e1⟩]at hsc;have hi1:((i:Int)==1)=true:=beq_iff_eq.2 (by omega);have hi1N:(i==1)=true:=beq_iff_eq.2 e1;have wv:IntKind.i64.wrap ((vars:Int)+1)=((vars+1:Nat):Int):=by rw[IntWalk.i64_in _ (by have:=HSV.out;omega)];omega
      rw[hsc]at ci HX;rw[Int.natCast_add,Int.natCast_one]at ci wv;have HX1:Hid (Qbi pa (Qdv k i vars) dn y=x):=by unfold Hid;rw[hsc];exact HX.out
      clear HX;have HX:=HX1;clear HX1 hsc e19 e1;exact QlG
     ·rw[if_neg (fun h=>e1 h.2)]at hsc;have hi1:((i:Int)==1)=false:=zzq (by omega);have hi1N:(i==1)=false:=zzq e1;rw[hsc]at ci;clear hsc e19 e1;exact QlG
    ·have f19:(k==19)=false:=zzq e19;rw[if_neg (fun h=>e19 h.1)]at hsc;rw[hsc]at ci;clear hsc e19;exact QlG
   ·have hil:¬ (i:Int)<(l.length:Int):=by omega
    obtain rfl:i=l.length:=by omega
    have hft2:=hft.out;rw[List.take_length,HQ2.out]at hft2;subst hft2;have HBW:=Zh (HKX.out _ hbw.out);clear hi hg hft hbw;go_wp2;go_ret;exact⟨rfl,HBW.out⟩
  ·have HLE:=Zh hlen;have hqf:q=false:=by rw[<- hq,zzq hlen];rfl
   subst hqf;have ea:((l.length:Int)==(am:Int))=false:=zzq (by omega);have eaN:((l.length:Int) !=(am:Int))=true:=by rw[bne,ea];rfl
   clear hlen hq wn;go_enter func54,ntmps54;go_upto_region 1 with fail;have HEB:Hid (w.heap.size<(w.alloc (.cells #[.int .i64 k,.int .i64 nn,.string (bs s),.slice ad l.length cc] 30)).heap.size):=Jb HCP.out;generalize World.alloc w _=w1 at *;generalize w.heap.size=eb at *
   have FF:Hid (∀ W,Below w1.heap.size w1 W->W.cell? ⟨eb,0,none⟩=some (.int .i64 k)/\W.cell? ⟨eb,1,none⟩=some (.int .i64 nn)/\W.cell? ⟨eb,2,none⟩=some (.string (bs s))/\W.cell? ⟨eb,3,none⟩=some (.slice ad l.length cc)):=by
    exact QkU
   obtain⟨b0,b1,b2,b3⟩:=FF.out _ zzb;refine wp_region_held_drew (S:=(fun W=>Below w1.heap.size w1 W/\W.cell? ⟨eb,0,none⟩=some (.int .i64 k)/\W.cell? ⟨eb,1,none⟩=some (.int .i64 nn)/\W.cell? ⟨eb,2,none⟩=some (.string (bs s))/\W.cell? ⟨eb,3,none⟩=some (.slice ad l.length cc))) (by kernel_rfl) (⟨(Below.refl w1.heap.size w1).drew,FF.out _ (Below.refl w1.heap.size w1).drew⟩) (fun hH=>?_);refine ZT (i:=0) (v:=?vE0) rfl (Or.inl ⟨by rfl,?yE0⟩) ?_
   case yE0=>exact ZyQ
   try simp only[Act.put,ZA,ZB,ZC]
   refine ZT (i:=1) (v:=?vE1) rfl (Or.inl ⟨by rfl,?yE1⟩) ?_
   case yE1=>exact ZyQ
   try simp only[Act.put,ZA,ZB,ZC]
   refine ZT (i:=2) (v:=?vE2) rfl (Or.inl ⟨by rfl,?yE2⟩) ?_
   case yE2=>exact ZyQ
   try simp only[Act.put,ZA,ZB,ZC]
   refine ZT (i:=3) (v:=?vE3) rfl (Or.inl ⟨by rfl,?yE3⟩) ?_
   case yE3=>exact ZyQ
   try simp only[Act.put,ZA,ZB,ZC]
   refine ZT (i:=4) (v:=?vE4) rfl (Or.inl ⟨by rfl,?yE4⟩) ?_
   case yE4=>exact ZyQ
   try simp only[Act.put,ZA,ZB,ZC]
   refine ZT (i:=5) (v:=?vE5) rfl (Or.inl ⟨by rfl,?yE5⟩) ?_
   case yE5=>exact ZyQ
   try simp only[Act.put,ZA,ZB,ZC]
   refine ZS 6 rfl (fun K hK=>?_);have cfi:=Yl (.slice fa fs.length fc) fs vars k nn s ad l.length cc _ hs (HFX.out.up (HKX.out _ ((Below.refl w1.heap.size w1).drew)));rw[HFB.out]at cfi
   (go_simp;go_at_call 83;refine cfi.mono ?_;rintro e wc0 ⟨rfl,hbc0⟩)
   refine hK.out _ _ (⟨((Below.refl w1.heap.size w1).drew).trans (hbc0.mono ((Below.refl w1.heap.size w1).drew).size),FF.out _ (((Below.refl w1.heap.size w1).drew).trans (hbc0.mono ((Below.refl w1.heap.size w1).drew).size))⟩) (fun hH=>?_);clear hK K
   try simp only[Act.put,ZA,ZB,ZC]
   refine ZT (i:=7) (v:=?vE7) rfl (Or.inl ⟨by rfl,?yE7⟩) ?_
   case yE7=>exact ZyQ
   try simp only[Act.put,ZA,ZB,ZC]
   refine ZT (i:=8) (v:=?vE8) rfl (Or.inl ⟨by rfl,?yE8⟩) ?_
   case yE8=>exact ZyQ
   try simp only[Act.put,ZA,ZB,ZC]
   refine ZT (i:=9) (v:=?vE9) rfl (Or.inl ⟨by rfl,?yE9⟩) ?_
   case yE9=>exact ZyQ
   try simp only[Act.put,ZA,ZB,ZC]
   refine ZT (i:=10) (v:=?vE10) rfl (Or.inl ⟨by rfl,?yE10⟩) ?_
   case yE10=>exact ZyQ
   try simp only[Act.put,ZA,ZB,ZC]
   refine ZT (i:=11) (v:=?vE11) rfl (Or.inl ⟨by rfl,?yE11⟩) ?_
   case yE11=>exact ZyQ
   try simp only[Act.put,ZA,ZB,ZC]
   refine ZT (i:=12) (v:=?vE12) rfl (Or.inl ⟨by rfl,?yE12⟩) ?_
   case yE12=>exact ZyQ
   try simp only[Act.put,ZA,ZB,ZC]
   refine ZT (i:=13) (v:=?vE13) rfl (Or.inl ⟨by rfl,?yE13⟩) ?_
   case yE13=>exact ZyQ
   try simp only[Act.put,ZA,ZB,ZC]
   refine ZT (i:=14) (v:=?vE14) rfl (Or.inl ⟨by rfl,?yE14⟩) ?_
   case yE14=>exact ZyQ
   try simp only[Act.put,ZA,ZB,ZC]
   refine ZS 15 rfl (fun K hK=>?_);have car:=JbF fs (.slice fa fs.length fc) k nn s ad l.length cc _ (HFX.out.up (HKX.out _ (hH.1))) H20.out;rw[HPA.out,HAM.out]at car
   (go_simp;go_at_call 84;refine car.mono ?_;rintro e wc1 ⟨rfl,hbc1⟩)
   refine hK.out _ _ (⟨(hH.1).trans (hbc1.mono (hH.1).size),FF.out _ ((hH.1).trans (hbc1.mono (hH.1).size))⟩) (fun hH=>?_);clear hK K
   try simp only[Act.put,ZA,ZB,ZC]
   refine ZT (i:=16) (v:=?vE16) rfl (Or.inl ⟨by rfl,?yE16⟩) ?_
   case yE16=>exact ZyQ
   try simp only[Act.put,ZA,ZB,ZC]
   refine ZT (i:=17) (v:=?vE17) rfl (Or.inl ⟨by rfl,?yE17⟩) ?_
   case yE17=>exact ZyQ
   exact QlB
 ·have d1:decide ((QaC:Int)<1)=true:=decide_eq_true (by omega);have d1N:decide (QaC<1)=true:=decide_eq_true (by omega);have hqf:q=false:=by rw[<- hq,decide_eq_false h1];rfl
  subst hqf;clear hq h1;go_enter func54,ntmps54;go_upto_region 1 with fail;have HEB:Hid (w.heap.size<(w.alloc (.cells #[.int .i64 k,.int .i64 nn,.string (bs s),.slice ad l.length cc] 30)).heap.size):=Jb HCP.out;generalize World.alloc w _=w1 at *;generalize w.heap.size=eb at *
  have FF:Hid (∀ W,Below w1.heap.size w1 W->W.cell? ⟨eb,0,none⟩=some (.int .i64 k)/\W.cell? ⟨eb,1,none⟩=some (.int .i64 nn)/\W.cell? ⟨eb,2,none⟩=some (.string (bs s))/\W.cell? ⟨eb,3,none⟩=some (.slice ad l.length cc)):=by
   exact QkU
  obtain⟨b0,b1,b2,b3⟩:=FF.out _ zzb;refine wp_region_held_drew (S:=(fun W=>Below w1.heap.size w1 W/\W.cell? ⟨eb,0,none⟩=some (.int .i64 k)/\W.cell? ⟨eb,1,none⟩=some (.int .i64 nn)/\W.cell? ⟨eb,2,none⟩=some (.string (bs s))/\W.cell? ⟨eb,3,none⟩=some (.slice ad l.length cc))) (by kernel_rfl) (⟨(Below.refl w1.heap.size w1).drew,FF.out _ (Below.refl w1.heap.size w1).drew⟩) (fun hH=>?_);refine ZT (i:=0) (v:=?vN0) rfl (Or.inl ⟨by rfl,?yN0⟩) ?_
  case yN0=>exact ZyQ
  try simp only[Act.put,ZA,ZB,ZC]
  refine ZT (i:=1) (v:=?vN1) rfl (Or.inl ⟨by rfl,?yN1⟩) ?_
  case yN1=>exact ZyQ
  try simp only[Act.put,ZA,ZB,ZC]
  refine ZT (i:=2) (v:=?vN2) rfl (Or.inl ⟨by rfl,?yN2⟩) ?_
  case yN2=>exact ZyQ
  try simp only[Act.put,ZA,ZB,ZC]
  refine ZT (i:=3) (v:=undef) rfl (Or.inr ⟨by rfl,rfl⟩) ?_
  try simp only[Act.put,ZA,ZB,ZC]
  refine ZT (i:=4) (v:=undef) rfl (Or.inr ⟨by rfl,rfl⟩) ?_
  try simp only[Act.put,ZA,ZB,ZC]
  refine ZT (i:=5) (v:=undef) rfl (Or.inr ⟨by rfl,rfl⟩) ?_
  try simp only[Act.put,ZA,ZB,ZC]
  refine ZT (i:=6) (v:=undef) rfl (Or.inr ⟨by rfl,rfl⟩) ?_
  try simp only[Act.put,ZA,ZB,ZC]
  refine ZT (i:=7) (v:=undef) rfl (Or.inr ⟨by rfl,rfl⟩) ?_
  try simp only[Act.put,ZA,ZB,ZC]
  refine ZT (i:=8) (v:=?vN8) rfl (Or.inl ⟨by rfl,?yN8⟩) ?_
  case yN8=>exact ZyQ
  try simp only[Act.put,ZA,ZB,ZC]
  refine ZT (i:=9) (v:=?vN9) rfl (Or.inl ⟨by rfl,?yN9⟩) ?_
  case yN9=>exact ZyQ
  try simp only[Act.put,ZA,ZB,ZC]
  refine ZT (i:=10) (v:=undef) rfl (Or.inr ⟨by rfl,rfl⟩) ?_
  try simp only[Act.put,ZA,ZB,ZC]
  refine ZT (i:=11) (v:=undef) rfl (Or.inr ⟨by rfl,rfl⟩) ?_
  try simp only[Act.put,ZA,ZB,ZC]
  refine ZT (i:=12) (v:=undef) rfl (Or.inr ⟨by rfl,rfl⟩) ?_
  try simp only[Act.put,ZA,ZB,ZC]
  refine ZT (i:=13) (v:=undef) rfl (Or.inr ⟨by rfl,rfl⟩) ?_
  try simp only[Act.put,ZA,ZB,ZC]
  refine ZT (i:=14) (v:=undef) rfl (Or.inr ⟨by rfl,rfl⟩) ?_
  try simp only[Act.put,ZA,ZB,ZC]
  refine ZT (i:=15) (v:=undef) rfl (Or.inr ⟨by rfl,rfl⟩) ?_
  try simp only[Act.put,ZA,ZB,ZC]
  refine ZT (i:=16) (v:=undef) rfl (Or.inr ⟨by rfl,rfl⟩) ?_
  try simp only[Act.put,ZA,ZB,ZC]
  refine ZT (i:=17) (v:=?vN17) rfl (Or.inl ⟨by rfl,?yN17⟩) ?_
  case yN17=>exact ZyQ
  exact QlB
theorem JdR(fs:List FnM):∀ n,∀ (y:Exp) (d:Array Value) (v:Value) (vars QaC:Nat) (W:World),siz (utN y)<=n->NmN y->vars+siz (utN y)<=4000000000->QaC<=4000000000->XAt W (In W) y d->Qcz W v fs->
  Calls prog 54 #[v,.agg d,.int .i64 vars,.int .i64 QaC] W (Qck W (.bool (Qbi (fs.map (·.params.length)) vars QaC y)))
 |0,y,d,v,vars,QaC,W,h,_,_,_,_,_=>by have:=VC (utN y);omega
 |n+1,.mk k nn s l,d,v,vars,QaC,W,h,hN,hv,hne,hx,hF=>by
  rw[utN,JG]at h hv;unfold NmN at hN;obtain⟨ad,cc,rfl,_,hK⟩:=hx.kids;exact JgD fs n (JdR fs n) k nn s l ad cc v vars QaC W hN.1 hN.2 (by omega) (by omega) hne hK hF
theorem JdS(fs:List FnM)(y:Exp)(d:Array Value)(v:Value)(vars QaC:Nat)(W:World)(hN:NmN y)(hv:vars+siz (utN y)<=4000000000)(hne:QaC<=4000000000)(hx:XAt W (In W) y d)(hF:Qcz W v fs) :
  Calls prog 54 #[v,.agg d,.int .i64 vars,.int .i64 QaC] W (Qck W (.bool (Qbi (fs.map (·.params.length)) vars QaC y))):=
 JdR fs _ y d v vars QaC W zzl hN hv hne hx hF
theorem K2{α:Type}{p:α->Bool}{l:List α}{i:Nat}{a:α}(h:(l.take i).all p=true)(hi:l[i]?=some a)(hp:p a=true):(l.take (i+1)).all p=true:=by
 rw[List.take_add_one,hi,List.all_append,h];simp[hp]
theorem V2{α:Type}{p:α->Bool}{l:List α}{i:Nat}{a:α}(hi:l[i]?=some a)(hp:p a=false):l.all p=false:=by
 cases h:l.all p with
 |false=>rfl
 |true=>
  have:=List.all_eq_true.1 h a (List.mem_of_getElem? hi);rw[hp]at this
  cases this
structure RSz(r:Qaq):Prop where
 nf:r.funcs.length<=1000000
 nc:r.clauses.length<=1000000
 fn:∀ f∈r.funcs,f.name.length<=9223372036854775807/\f.params.length<=1000000/\NmN f.body/\siz (utN f.body)<=1000000
 cl:∀ c∈r.clauses,NmN c.cond/\siz (utN c.cond)<=1000000/\c.reason.length<=9223372036854775807
theorem QaZ.parts{W:World}{r:Qaq}{c:Array Value}(h:QaZ W (In W) r c):∃ fa fc ca cc,c=#[.slice fa r.funcs.length fc,.slice ca r.clauses.length cc,.int .i64 r.action]/\Qcz W (.slice fa r.funcs.length fc) r.funcs/\Qee W (.slice ca r.clauses.length cc) r.clauses:=by
 obtain⟨fv,cv,h1,h2,h3⟩:=h;have h2':Qcz W fv r.funcs:=h2;have h3':Qee W cv r.clauses:=h3;obtain⟨fa,fc,rfl,_⟩:=h2'.form;obtain⟨ca,cc,rfl,_⟩:=h3'.form;exact⟨fa,fc,ca,cc,h1,h2',h3'⟩
def trF(r:Qaq)(f:FnM):Bool:=Qbi r.pa f.params.length 40 f.body
def trC(r:Qaq)(c:ClM):Bool:=Qbi r.pa 0 40 c.cond
theorem JiA(r:Qaq):QcC r=(r.funcs.all (trF r)&&r.clauses.all (trC r)):=rfl
theorem QaZ.up{w W:World}{r:Qaq}{c:Array Value}(h:QaZ w (In w) r c)(hb:Below w.heap.size w W):QaZ W (In W) r c:=by
 obtain⟨fv,cv,h1,h2,h3⟩:=h;exact⟨fv,cv,h1,Qcz.up h2 hb,Qee.up h3 hb⟩
theorem JgE(r:Qaq)(c:Array Value)(w:World)(hx:QaZ w (In w) r c)(hz:RSz r):Calls prog 26 #[.agg c] w (Qck w (.bool (QcC r))):=by
 obtain⟨fa,fc,ca,cc,rfl,hF,hC⟩:=hx.parts;obtain⟨q,hq⟩:∃ q,QcC r=q:=⟨_,rfl⟩
 rw[hq];rw[JiA]at hq;have HQ:=Zh hq;have hbA:Below w.heap.size w (w.alloc (.cells #[.slice fa r.funcs.length fc,.slice ca r.clauses.length cc,.int .i64 r.action] 25)):=zzb.alloc zzl _;have HCP:=Zh (zzw w (.cells #[.slice fa r.funcs.length fc,.slice ca r.clauses.length cc,.int .i64 r.action] 25));have HKX:Hid (∀ W,Below (w.alloc (.cells #[.slice fa r.funcs.length fc,.slice ca r.clauses.length cc,.int .i64 r.action] 25)).heap.size (w.alloc (.cells #[.slice fa r.funcs.length fc,.slice ca r.clauses.length cc,.int .i64 r.action] 25)) W->Bel w W):=fun W hW=>Jd hbA hW
 have HFX:=Zh hF;have HCX:=Zh hC;have HZ:=Zh hz;have hnf:=hz.nf;have hnc:=hz.nc;obtain⟨fl,hfl⟩:∃ fl,r.funcs.length=fl:=⟨_,rfl⟩
 obtain⟨cl,hcl⟩:∃ cl,r.clauses.length=cl:=⟨_,rfl⟩
 rw[hfl]at hnf;rw[hcl]at hnc;have HFL:=Zh hfl;have HCL:=Zh hcl;have HW0:Hid (Below (w.alloc (.cells #[.slice fa r.funcs.length fc,.slice ca r.clauses.length cc,.int .i64 r.action] 25)).heap.size (w.alloc (.cells #[.slice fa r.funcs.length fc,.slice ca r.clauses.length cc,.int .i64 r.action] 25)) (w.alloc (.cells #[.slice fa r.funcs.length fc,.slice ca r.clauses.length cc,.int .i64 r.action] 25))):=Below.refl _ _;simp only[hfl,hcl]at HCP HKX HFX HCX HW0 |-;clear hbA hx hF hC hz hq hfl hcl;go_enter func26,ntmps26;go_upto_region 1 with fail;have HEB:Hid (w.heap.size<(w.alloc (.cells #[.slice fa fl fc,.slice ca cl cc,.int .i64 r.action] 25)).heap.size):=Jb HCP.out;generalize World.alloc w _=w1 at *;generalize w.heap.size=eb at *
 have FF:Hid (∀ W,Below w1.heap.size w1 W->W.cell? ⟨eb,0,none⟩=some (.slice fa fl fc)/\W.cell? ⟨eb,1,none⟩=some (.slice ca cl cc)/\W.cell? ⟨eb,2,none⟩=some (.int .i64 r.action)):=by
  intro W hW;have hh:=(hW.block _ HEB.out).trans HCP.out;refine⟨?_,?_,?_⟩<;>(rw[Ja hh];rfl)
 obtain⟨b0,b1,b2⟩:=FF.out _ zzb;go_wp2_with fail;clear b0 b1 b2;go_loopg [10] fl (fun g v10 wr=>∃ i:Nat,g+i=fl/\v10=.int .i64 i/\Hid (Below w1.heap.size w1 wr)/\Hid ((r.funcs.take i).all (trF r)=true))
 case atStart=>exact⟨0,rfl,rfl,HW0,rfl⟩
 case round=>
 clear HW0;obtain⟨wl,rfl⟩:∃ wl:World,wl=wr:=⟨_,rfl⟩
 obtain⟨i,hg,rfl,hbw,hft⟩:=hrel
 by_cases hi:i<fl
 ·have hil:(i:Int)<(fl:Int):=by omega
  obtain⟨f,hf⟩:∃ f,r.funcs[i]?=some f:=⟨r.funcs[i]'(by rw[HFL.out];exact hi),List.getElem?_eq_getElem _⟩
  have hmem:=List.mem_of_getElem? hf;have hXf:=HFX.out.up (HKX.out _ hbw.out);obtain⟨b,o,pa,pc,da,dc,rfl,hfc⟩:=hXf.get hf;obtain⟨_,hple,hnm,hsz⟩:=HZ.out.fn f hmem;have c0:=hfc.c0;have c1:=hfc.c1;have c2:=hfc.c2;have c3:=hfc.c3;have c4:=hfc.c4;have c5:=hfc.c5;have c6:=hfc.c6;have wk:IntKind.i64.wrap ((i:Int)+1)=(i:Int)+1:=IntWalk.i64_in _ (by omega);have hb2:Below wl.heap.size wl (wl.alloc (.cells #[.string (bs f.name),.slice pa f.params.length pc,.int .i64 f.result,.int .i64 f.body.kind,.int .i64 f.body.num,.string (bs f.body.name),.slice da f.body.kids.length dc] 44)):=zzb.alloc zzl _;have hbx:Below w1.heap.size w1 (wl.alloc (.cells #[.string (bs f.name),.slice pa f.params.length pc,.int .i64 f.result,.int .i64 f.body.kind,.int .i64 f.body.num,.string (bs f.body.name),.slice da f.body.kids.length dc] 44)):=Jd hbw.out hb2;have ci:=JdS r.funcs f.body _ (.slice (some ⟨b,o,none⟩) fl fc) f.params.length 40 (wl.alloc (.cells #[.string (bs f.name),.slice pa f.params.length pc,.int .i64 f.result,.int .i64 f.body.kind,.int .i64 f.body.num,.string (bs f.body.name),.slice da f.body.kids.length dc] 44)) hnm (by omega) (by decide) (hfc.body.up hb2) (hXf.up hb2);obtain⟨x,hx⟩:∃ x,trF r f=x:=⟨_,rfl⟩
  have hx2:Qbi (r.funcs.map (·.params.length)) f.params.length 40 f.body=x:=hx;rw[hx2]at ci;rw[show ((40:Nat):Int)=40 from rfl]at ci;have HX:=Zh hx;have HY:=Zh hf;have HBX:=Zh hbx;have HG:=Zh hg;have HHI:=Zh hi;obtain⟨b0,b1,b2⟩:=FF.out _ hbx;clear hb2 hbx hmem hfc hbw hx hx2 hf hi hg hXf hnm hsz hple;go_wp2_with fail;refine ci.mono ?_;rintro e w7 ⟨rfl,hb7⟩;have HB7:=Zh (Jd HBX.out hb7);clear ci hb7 b0 b1 b2 c0 c1 c2 c3 c4 c5 c6 HBX
  cases x with
  |true=>
   have HFT:Hid ((r.funcs.take (i+1)).all (trF r)=true):=K2 hft.out HY.out HX.out;clear hft;go_wp2;go_roundg (fl-(i+1))
   case measure=>have:=HG.out;have:=HHI.out;omega
   case rel=>exact⟨i+1,by have:=HHI.out;omega,by go_num,HB7,HFT⟩
  |false=>
   have hqf:q=false:=by rw[<- HQ.out,V2 HY.out HX.out];rfl
   subst hqf;have HB8:=Zh (HKX.out _ HB7.out);clear hft HB7;go_wp2;go_ret;exact⟨rfl,HB8.out⟩
 have hil:¬ (i:Int)<(fl:Int):=by omega
 obtain rfl:i=fl:=by omega
 have hft2:=hft.out;rw[<- HFL.out,List.take_length]at hft2;have HQ2:Hid (r.clauses.all (trC r)=q):=by rw[Hid,<- HQ.out,hft2];rfl
 obtain⟨b0,b1,b2⟩:=FF.out _ hbw.out;have HBW:=Zh hbw.out;clear hft hft2 hg hi HQ hbw;go_wp2_with fail;clear b0 b1 b2 hil;go_loopg [27] cl (fun g v27 wr=>∃ j:Nat,g+j=cl/\v27=.int .i64 j/\Hid (Below w1.heap.size w1 wr)/\Hid ((r.clauses.take j).all (trC r)=true))
 case atStart=>exact⟨0,rfl,rfl,HBW,rfl⟩
 case round=>
 clear HBW;obtain⟨wm,rfl⟩:∃ wm:World,wm=wr:=⟨_,rfl⟩
 obtain⟨j,hg,rfl,hbw,hft⟩:=hrel
 by_cases hj:j<cl
 ·have hjl:(j:Int)<(cl:Int):=by omega
  obtain⟨m,hm⟩:∃ m,r.clauses[j]?=some m:=⟨r.clauses[j]'(by rw[HCL.out];exact hj),List.getElem?_eq_getElem _⟩
  have hmem:=List.mem_of_getElem? hm;have hXf:=HFX.out.up (HKX.out _ hbw.out);have hXc:=HCX.out.up (HKX.out _ hbw.out);obtain⟨b,o,da,dc,rfl,hfc⟩:=hXc.get hm;obtain⟨hnm,hsz,hrl⟩:=HZ.out.cl m hmem;have c0:=hfc.c0;have c1:=hfc.c1;have c2:=hfc.c2;have c3:=hfc.c3;have c4:=hfc.c4;have c5:=hfc.c5;have wk:IntKind.i64.wrap ((j:Int)+1)=(j:Int)+1:=IntWalk.i64_in _ (by omega);have hb2:Below wm.heap.size wm (wm.alloc (.cells #[.int .i64 m.cond.kind,.int .i64 m.cond.num,.string (bs m.cond.name),.slice da m.cond.kids.length dc,.int .i64 m.action,.string (bs m.reason)] 32)):=zzb.alloc zzl _;have hbx:Below w1.heap.size w1 (wm.alloc (.cells #[.int .i64 m.cond.kind,.int .i64 m.cond.num,.string (bs m.cond.name),.slice da m.cond.kids.length dc,.int .i64 m.action,.string (bs m.reason)] 32)):=Jd hbw.out hb2;have ci:=JdS r.funcs m.cond _ (.slice fa i fc) 0 40 (wm.alloc (.cells #[.int .i64 m.cond.kind,.int .i64 m.cond.num,.string (bs m.cond.name),.slice da m.cond.kids.length dc,.int .i64 m.action,.string (bs m.reason)] 32)) hnm (by omega) (by decide) (hfc.cond.up hb2) (hXf.up hb2);obtain⟨x,hx⟩:∃ x,trC r m=x:=⟨_,rfl⟩
  have hx2:Qbi (r.funcs.map (·.params.length)) 0 40 m.cond=x:=hx;rw[hx2]at ci;rw[show ((40:Nat):Int)=40 from rfl,show ((0:Nat):Int)=0 from rfl]at ci;have HX:=Zh hx;have HY:=Zh hm;have HBX:=Zh hbx;have HG:=Zh hg;have HHI:=Zh hj;obtain⟨b0,b1,b2⟩:=FF.out _ hbx;clear hb2 hbx hmem hfc hbw hx hx2 hm hj hg hXf hXc hnm hsz hrl;go_wp2_with fail;refine ci.mono ?_;rintro e w7 ⟨rfl,hb7⟩;have HB7:=Zh (Jd HBX.out hb7);clear ci hb7 b0 b1 b2 c0 c1 c2 c3 c4 c5 HBX
  cases x with
  |true=>
   have HFT:Hid ((r.clauses.take (j+1)).all (trC r)=true):=K2 hft.out HY.out HX.out;clear hft;go_wp2;go_roundg (cl-(j+1))
   case measure=>have:=HG.out;have:=HHI.out;omega
   case rel=>exact⟨j+1,by have:=HHI.out;omega,by go_num,HB7,HFT⟩
  |false=>
   have hqf:q=false:=by rw[<- HQ2.out,V2 HY.out HX.out]
   subst hqf;have HB8:=Zh (HKX.out _ HB7.out);clear hft HB7;go_wp2;go_ret;exact⟨rfl,HB8.out⟩
 have hjl:¬ (j:Int)<(cl:Int):=by omega
 obtain rfl:j=cl:=by omega
 have hft2:=hft.out;rw[<- HCL.out,List.take_length]at hft2;have hqt:q=true:=by rw[<- HQ2.out,hft2]
 subst hqt;have HBW:=Zh (HKX.out _ hbw.out);clear hft hft2 hg hj HQ2 hbw;go_wp2;go_ret;exact⟨rfl,HBW.out⟩
end Go.Proofs.YtdlkcjkjnehnkaaGreatDoor
