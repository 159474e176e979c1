import Derived.Test.YtdlkcjkjnehnkaaGreatDoorH28
namespace Go.Proofs.YtdlkcjkjnehnkaaGreatDoor
open Go.ChangeShapes Go.WideShapes Go.ChangeAt Go.RowKit Go.Lib
open _root_.Go.Proofs.Tryz
set_option linter.all false
set_option maxRecDepth 100000
set_option maxHeartbeats 32000000
theorem Qlv{P:Prop}(h:P:=by
  rw[hq];clear hq;go_enter func24,ntmps24;go_wp2;go_ret
  exact⟨rfl,rfl⟩):P:=h
theorem Zn(n:Int)(w:World):Calls prog 24 #[.int .i64 n] w (Qcm (.bool (QeU n)) w):=by
 by_cases h0:0<=n
 ·have d0:decide (0<=n)=true:=decide_eq_true h0
  by_cases h3:n<=3
  ·have d3:decide (n<=3)=true:=decide_eq_true h3;have hq:QeU n=true:=by unfold QeU;rw[d0,d3];rfl
   exact Qlv
  ·have d3:decide (n<=3)=false:=decide_eq_false h3;have hq:QeU n=false:=by unfold QeU;rw[d0,d3];rfl
   exact Qlv
 ·have d0:decide (0<=n)=false:=decide_eq_false h0;have hq:QeU n=false:=by unfold QeU;rw[d0];rfl
  exact Qlv
def txB(c:UInt8):Bool:=decide (32<=c.toNat)&&decide (c.toNat<=126)&&c !=34&&c !=92
theorem Jit(s:List UInt8):QcN s=(s.all txB&&decide (s.length<=24)):=rfl
theorem JkD(m:Nat)(c:UInt8)(hc:c.toNat=m):txB c=true↔32<=m/\m<=126/\m≠34/\m≠92:=by
 subst hc;have h34:c=34↔c.toNat=34:=⟨fun h=>by rw[h];rfl,fun h=>UInt8.toNat_inj.1 h⟩
 have h92:c=92↔c.toNat=92:=⟨fun h=>by rw[h];rfl,fun h=>UInt8.toNat_inj.1 h⟩
 unfold txB;simp only[Bool.and_eq_true,decide_eq_true_eq,bne_iff_ne,ne_eq,h34,h92,and_assoc]
theorem JbE(s:List UInt8)(w:World)(hs:s.length<=9223372036854775807):Calls prog 25 #[.string (bs s)] w (Qcm (.bool (QcN s)) w):=by
 have z1:=JF s;obtain⟨n,hn⟩:∃ n,s.length=n:=⟨_,rfl⟩
 obtain⟨q,hq⟩:∃ q,QcN s=q:=⟨_,rfl⟩
 have hI:=Jit s;rw[hq]at hI |-;rw[hn]at hI z1 hs;have HI:=Zh hI;have HN:=Zh hn;have HS:=Zh hs;clear hI hn hq hs;go_enter func25,ntmps25;go_wp2;go_loop [6] (fun v=>∃ k:Nat,v=.int .i64 k/\k<=n/\Hid ((s.take k).all txB=true)) (fun v=>n-(intOf v).toNat)
 case atStart=>exact⟨0,rfl,Nat.zero_le _,by unfold Hid;rfl⟩
 case round=>
  obtain⟨k,rfl,hk,hz⟩:=hrel
  by_cases hkn:k<n
  ·have wk:IntKind.i64.wrap ((k:Int)+1)=(k:Int)+1:=IntWalk.i64_in _ (by have:=HS.out;omega);have dk:decide ((k:Int)<(n:Int))=true:=decide_eq_true (by omega);have dkN:decide (k<n)=true:=decide_eq_true hkn;have bk:(k:Int)<(n:Int):=by omega
   obtain⟨c,hc⟩:∃ c,s[k]?=some c:=⟨_,List.getElem?_eq_getElem (by have:=HN.out;omega)⟩
   obtain⟨m,hm⟩:∃ m,c.toNat=m:=⟨_,rfl⟩
   have hm256':m<256:=by rw[<- hm];exact c.toNat_lt
   have hg:∀ h,((bs s)[k]'h).toNat=m:=fun h=>by
    obtain⟨_,h2⟩:=List.getElem?_eq_some_iff.1 hc;rw[<- hm,<- h2];rfl
   have hw:=JkD m c hm
   by_cases hwo:32<=m/\m<=126/\m≠34/\m≠92
   ·have HK2:=Zh (Jdx hz.out hc (hw.2 hwo));clear hz hc hm hw;obtain⟨g1,g2,g3,g4⟩:=hwo;have a1:decide ((m:Int)<32)=false:=decide_eq_false (by omega);have a1N:decide (m<32)=false:=decide_eq_false (by omega);have a2:decide (126<(m:Int))=false:=decide_eq_false (by omega);have a2N:decide (126<m)=false:=decide_eq_false (by omega);have e1:((m:Int)==34)=false:=zzq (by omega);have e1N:(m==34)=false:=zzq (by omega);have e2:((m:Int)==92)=false:=zzq (by omega);have e2N:(m==92)=false:=zzq (by omega);clear g1 g2 g3 g4;exact QkR
   ·have hb:txB c=false:=by cases h:txB c with|false=>rfl|true=>exact absurd (hw.1 h) hwo
    have hqf:q=false:=by rw[HI.out,Jfy hc hb];rfl
    subst hqf;clear hz hc hm hw hb HI
    by_cases l1:m<32
    ·have a1:decide ((m:Int)<32)=true:=decide_eq_true (by omega);have a1N:decide (m<32)=true:=decide_eq_true (by omega);clear hwo;go_wp2;go_ret;exact⟨rfl,rfl⟩
    by_cases l2:126<m
    ·have a1:decide ((m:Int)<32)=false:=decide_eq_false (by omega);have a1N:decide (m<32)=false:=decide_eq_false (by omega);have a2:decide (126<(m:Int))=true:=decide_eq_true (by omega);have a2N:decide (126<m)=true:=decide_eq_true (by omega);clear l1;clear hwo;go_wp2;go_ret;exact⟨rfl,rfl⟩
    by_cases l3:m=34
    ·subst l3;clear l1 l2;clear hwo;go_wp2;go_ret;exact⟨rfl,rfl⟩
    have l4:m=92:=by omega
    subst l4;clear l1 l2 l3;clear hwo;go_wp2;go_ret;exact⟨rfl,rfl⟩
  ·have dk:decide ((k:Int)<(n:Int))=false:=decide_eq_false (by omega);have dkN:decide (k<n)=false:=decide_eq_false hkn
   have hall:s.all txB=true:=by
    have:=hz.out
    rwa [List.take_of_length_le (by have:=HN.out;omega)]at this
   have hI2:=HI.out;rw[hall]at hI2;simp only[Bool.true_and]at hI2
   by_cases h24:n<=24
   ·have d1:decide ((n:Int)<=24)=true:=decide_eq_true (by omega);have d1N:decide (n<=24)=true:=decide_eq_true h24;have hqf:q=true:=by rw[hI2,d1N]
    subst hqf;clear hz hall hI2 HI h24 hk hkn;go_wp2;go_ret;exact⟨rfl,rfl⟩
   ·have d1:decide ((n:Int)<=24)=false:=decide_eq_false (by omega);have d1N:decide (n<=24)=false:=decide_eq_false h24;have hqf:q=false:=by rw[hI2,d1N]
    subst hqf;clear hz hall hI2 HI h24 hk hkn;go_wp2;go_ret;exact⟨rfl,rfl⟩
theorem JgA(s:List UInt8)(w:World)(hs:s.length<=9223372036854775807):Calls prog 23 #[.string (bs s)] w (Qcm (.bool (Qar s)) w):=by
 by_cases h:s.length<=1000000
 ·exact Jba s w h
 cases s with
 |nil=>simp at h
 |cons c0 r0=>
  have hq:Qar (c0::r0)=false:=by
   unfold Qar;rw[decide_eq_false (show ¬ (c0::r0).length<=24 by omega)];simp
  rw[hq];have u1:=Jl (c0::r0);have z1:=JF (c0::r0);have e0:((c0::r0)==[])=false:=rfl;have e0':(c0::r0).isEmpty=false:=rfl;obtain⟨n,hn⟩:∃ n,(c0::r0).length=n:=⟨_,rfl⟩
  generalize c0::r0=s at *;rw[hn]at z1 h hs;have d1:decide (24<(n:Int))=true:=decide_eq_true (by omega);have d1N:decide (24<n)=true:=decide_eq_true (by omega);clear hn hq h;exact QjU
theorem QkP{P:Prop}(h:P:=by
  go_enter func84,ntmps84;go_wp2;go_ret
  exact⟨rfl,HB.out⟩):P:=h
theorem JcQ(fs:List FnM)(fa:Option Addr)(fl fc:Nat)(k n:Int)(s:List UInt8)(ad:Option Addr)(m cc:Nat)(w:World)(h20:k≠20) :
  Calls prog 84 #[.slice fa fl fc,.agg #[.int .i64 k,.int .i64 n,.string (bs s),.slice ad m cc]] w (Qck w (.int .i64 (QbG (fs.map (·.params.length)) k n))):=by
 have HB:Hid (Below w.heap.size w (w.alloc (.cells #[.int .i64 k,.int .i64 n,.string (bs s),.slice ad m cc] 30))):=zzb.alloc zzl _
 by_cases h5:k=0\/k=1\/k=2\/k=3\/k=4\/k=5
 ·have hq:QbG (fs.map (·.params.length)) k n=0:=by unfold QbG;rw[if_pos h5]
  rw[hq];clear hq h20
  rcases h5 with rfl|rfl|rfl|rfl|rfl|rfl
  all_goals
   exact QkP
 by_cases h67:k=6\/k=7
 ·have hq:QbG (fs.map (·.params.length)) k n=1:=by unfold QbG;rw[if_neg h5,if_pos h67]
  rw[hq];clear hq h5 h20
  rcases h67 with rfl|rfl
  all_goals
   exact QkP
 by_cases h18:k=18
 ·subst h18;exact QkP
 have hq:QbG (fs.map (·.params.length)) k n=2:=by unfold QbG;rw[if_neg h5,if_neg h67,if_neg h18,if_neg h20]
 rw[hq];have e0:(k==0)=false:=zzq (by omega);have e1:(k==1)=false:=zzq (by omega);have e2:(k==2)=false:=zzq (by omega);have e3:(k==3)=false:=zzq (by omega);have e4:(k==4)=false:=zzq (by omega);have e5:(k==5)=false:=zzq (by omega);have e6:(k==6)=false:=zzq (by omega);have e7:(k==7)=false:=zzq (by omega);have e18:(k==18)=false:=zzq (by omega);have e20:(k==20)=false:=zzq (by omega);clear hq h5 h67 h18 h20;exact QkP
theorem JeH(fs:List FnM)(fa:Option Addr)(fc:Nat)(n:Int)(s:List UInt8)(ad:Option Addr)(m cc:Nat)(w:World)(hF:Qcz w (.slice fa fs.length fc) fs)(hn:0<=n/\n<(fs.length:Int)) :
  Calls prog 84 #[.slice fa fs.length fc,.agg #[.int .i64 20,.int .i64 n,.string (bs s),.slice ad m cc]] w (Qck w (.int .i64 (QbG (fs.map (·.params.length)) 20 n))):=by
 obtain⟨i,rfl⟩:∃ i:Nat,n=i:=⟨n.toNat,by omega⟩
 have hi:i<fs.length:=by omega
 have hil:(i:Int)<(fs.length:Int):=by omega
 obtain⟨f,hf⟩:∃ f,fs[i]?=some f:=⟨fs[i],List.getElem?_eq_getElem hi⟩
 have hq:QbG (fs.map (·.params.length)) 20 (i:Int)=f.params.length:=by
  unfold QbG;rw[if_neg (by decide),if_neg (by decide),if_neg (by decide),if_pos rfl,List.getD_eq_getElem?_getD,List.getElem?_map,Int.toNat_natCast,hf];rfl
 rw[hq];have HB:Hid (Below w.heap.size w (w.alloc (.cells #[.int .i64 20,.int .i64 i,.string (bs s),.slice ad m cc] 30))):=zzb.alloc zzl _;obtain⟨b,o,pa,pc,da,dc,rfl,hC⟩:=(hF.up HB.out).get hf;have HCP:=Zh (zzw w (.cells #[.int .i64 20,.int .i64 i,.string (bs s),.slice ad m cc] 30));have c1:=hC.c1;clear hq hf hF hC hn;go_enter func84,ntmps84;go_upto_region 1 with fail;generalize World.alloc w _=w1 at *;have b0:=Ja HCP.out 0;have b1:=Ja HCP.out 1;simp only[ZD,ZE,ZF]at b0 b1;go_wp2;go_ret;exact⟨rfl,HB.out⟩
theorem JbF(fs:List FnM)(v:Value)(k n:Int)(s:List UInt8)(ad:Option Addr)(m cc:Nat)(w:World)(hF:Qcz w v fs)(hn:k=20->0<=n/\n<(fs.length:Int)) :
  Calls prog 84 #[v,.agg #[.int .i64 k,.int .i64 n,.string (bs s),.slice ad m cc]] w (Qck w (.int .i64 (QbG (fs.map (·.params.length)) k n))):=by
 obtain⟨fa,fc,rfl,_⟩:=hF.form
 by_cases h:k=20
 ·subst h;exact JeH fs fa fc n s ad m cc w hF (hn rfl)
 ·exact JcQ fs fa _ fc k n s ad m cc w h
theorem bx3{P:Prop}(h:P:=by
  clear hq;go_enter func83,ntmps83;go_upto_region 1 with fail;generalize World.alloc w _=w1 at *;have b0:=Ja HCP.out 0;have b1:=Ja HCP.out 1;have b2:=Ja HCP.out 2;simp only[ZD,ZE,ZF]at b0 b1 b2;go_region;go_wp2;go_ret
  exact⟨rfl,HB.out⟩):P:=h
theorem Qjv{P:Prop}(h:P:=by
  cases s with
  |nil=>
   have es:(([]:List UInt8)==[])=true:=rfl;obtain rfl:q=true:=by rw[<- hq];simp[*]
   exact bx3
  |cons c0 r0=>
   have es:((c0::r0)==[])=false:=rfl;have es2:(c0::r0).isEmpty=false:=rfl;have es3:¬ (c0::r0)=[]:=by simp
   generalize c0::r0=s at *;obtain rfl:q=false:=by rw[<- hq];simp[*]
   exact bx3):P:=h
theorem Jiu(fa:Option Addr)(nf fc vars:Nat)(n:Int)(s:List UInt8)(ad:Option Addr)(m cc:Nat)(w:World)(hs:s.length<=9223372036854775807) :
  Calls prog 83 #[.slice fa nf fc,.agg #[.int .i64 0,.int .i64 n,.string (bs s),.slice ad m cc],.int .i64 vars] w (Qck w (.bool (Qal nf vars 0 n s))):=by
 obtain⟨q,hq⟩:∃ q,Qal nf vars 0 n s=q:=⟨_,rfl⟩
 rw[hq];have HCP:=Zh (zzw w (.cells #[.int .i64 0,.int .i64 n,.string (bs s),.slice ad m cc] 30));have HB:Hid (Below w.heap.size w (w.alloc (.cells #[.int .i64 0,.int .i64 n,.string (bs s),.slice ad m cc] 30)).drew):=(zzb.alloc zzl _).drew;have u1:=Jl s;unfold Qal at hq
 by_cases h1:0<=n
 ·by_cases h2:n<=1125899906842624
  ·have d1:decide (0<=n)=true:=decide_eq_true (by omega);have d2:decide (n<=1125899906842624)=true:=decide_eq_true (by omega);exact Qjv
  ·have d1:decide (0<=n)=true:=decide_eq_true (by omega);have d2:decide (n<=1125899906842624)=false:=decide_eq_false (by omega);obtain rfl:q=false:=by rw[<- hq];simp[*]
   exact bx3
 ·have d1:decide (0<=n)=false:=decide_eq_false (by omega);obtain rfl:q=false:=by rw[<- hq];simp[*]
  exact bx3
theorem Jiv(fa:Option Addr)(nf fc vars:Nat)(n:Int)(s:List UInt8)(ad:Option Addr)(m cc:Nat)(w:World)(hs:s.length<=9223372036854775807) :
  Calls prog 83 #[.slice fa nf fc,.agg #[.int .i64 1,.int .i64 n,.string (bs s),.slice ad m cc],.int .i64 vars] w (Qck w (.bool (Qal nf vars 1 n s))):=by
 obtain⟨q,hq⟩:∃ q,Qal nf vars 1 n s=q:=⟨_,rfl⟩
 rw[hq];have HCP:=Zh (zzw w (.cells #[.int .i64 1,.int .i64 n,.string (bs s),.slice ad m cc] 30));have HB:Hid (Below w.heap.size w (w.alloc (.cells #[.int .i64 1,.int .i64 n,.string (bs s),.slice ad m cc] 30)).drew):=(zzb.alloc zzl _).drew;have u1:=Jl s;unfold Qal at hq
 by_cases h1:n=0
 ·subst h1;exact Qjv
 ·have e0:(n==0)=false:=zzq h1
  by_cases h2:n=1
  ·subst h2;exact Qjv
  ·have e1:(n==1)=false:=zzq h2;obtain rfl:q=false:=by rw[<- hq];simp[*]
   exact bx3
theorem Jiw(fa:Option Addr)(nf fc vars:Nat)(n:Int)(s:List UInt8)(ad:Option Addr)(m cc:Nat)(w:World)(hs:s.length<=9223372036854775807) :
  Calls prog 83 #[.slice fa nf fc,.agg #[.int .i64 2,.int .i64 n,.string (bs s),.slice ad m cc],.int .i64 vars] w (Qck w (.bool (Qal nf vars 2 n s))):=by
 obtain⟨q,hq⟩:∃ q,Qal nf vars 2 n s=q:=⟨_,rfl⟩
 rw[hq];have HCP:=Zh (zzw w (.cells #[.int .i64 2,.int .i64 n,.string (bs s),.slice ad m cc] 30));have HB:Hid (Below w.heap.size w (w.alloc (.cells #[.int .i64 2,.int .i64 n,.string (bs s),.slice ad m cc] 30)).drew):=(zzb.alloc zzl _).drew;have u1:=Jl s;unfold Qal at hq
 by_cases h1:0<=n
 ·by_cases h2:n<(vars:Int)
  ·have d1:decide (0<=n)=true:=decide_eq_true (by omega);have d2:decide (n<(vars:Int))=true:=decide_eq_true (by omega);exact Qjv
  ·have d1:decide (0<=n)=true:=decide_eq_true (by omega);have d2:decide (n<(vars:Int))=false:=decide_eq_false (by omega);obtain rfl:q=false:=by rw[<- hq];simp[*]
   exact bx3
 ·have d1:decide (0<=n)=false:=decide_eq_false (by omega);obtain rfl:q=false:=by rw[<- hq];simp[*]
  exact bx3
theorem JgB(fa:Option Addr)(nf fc vars:Nat)(n:Int)(s:List UInt8)(ad:Option Addr)(m cc:Nat)(w:World)(hs:s.length<=9223372036854775807) :
  Calls prog 83 #[.slice fa nf fc,.agg #[.int .i64 19,.int .i64 n,.string (bs s),.slice ad m cc],.int .i64 vars] w (Qck w (.bool (Qal nf vars 19 n s))):=by
 obtain⟨q,hq⟩:∃ q,Qal nf vars 19 n s=q:=⟨_,rfl⟩
 rw[hq];have HCP:=Zh (zzw w (.cells #[.int .i64 19,.int .i64 n,.string (bs s),.slice ad m cc] 30));have HB:Hid (Below w.heap.size w (w.alloc (.cells #[.int .i64 19,.int .i64 n,.string (bs s),.slice ad m cc] 30)).drew):=(zzb.alloc zzl _).drew;have u1:=Jl s;unfold Qal at hq
 by_cases h1:n=(vars:Int)
 ·have e1:(n==(vars:Int))=true:=beq_iff_eq.2 h1;rw[e1]at hq;have HH:=Zh h1;clear h1;exact Qjv
 ·have e1:(n==(vars:Int))=false:=zzq h1;obtain rfl:q=false:=by rw[<- hq];simp[*]
  exact bx3
theorem JgC(fa:Option Addr)(nf fc vars:Nat)(n:Int)(s:List UInt8)(ad:Option Addr)(m cc:Nat)(w:World)(hs:s.length<=9223372036854775807) :
  Calls prog 83 #[.slice fa nf fc,.agg #[.int .i64 20,.int .i64 n,.string (bs s),.slice ad m cc],.int .i64 vars] w (Qck w (.bool (Qal nf vars 20 n s))):=by
 obtain⟨q,hq⟩:∃ q,Qal nf vars 20 n s=q:=⟨_,rfl⟩
 rw[hq];have HCP:=Zh (zzw w (.cells #[.int .i64 20,.int .i64 n,.string (bs s),.slice ad m cc] 30));have HB:Hid (Below w.heap.size w (w.alloc (.cells #[.int .i64 20,.int .i64 n,.string (bs s),.slice ad m cc] 30)).drew):=(zzb.alloc zzl _).drew;have u1:=Jl s;unfold Qal at hq
 by_cases h1:0<=n
 ·by_cases h2:n<(nf:Int)
  ·have d1:decide (0<=n)=true:=decide_eq_true (by omega);have d2:decide (n<(nf:Int))=true:=decide_eq_true (by omega);exact Qjv
  ·have d1:decide (0<=n)=true:=decide_eq_true (by omega);have d2:decide (n<(nf:Int))=false:=decide_eq_false (by omega);obtain rfl:q=false:=by rw[<- hq];simp[*]
   exact bx3
 ·have d1:decide (0<=n)=false:=decide_eq_false (by omega);obtain rfl:q=false:=by rw[<- hq];simp[*]
  exact bx3
theorem QkZ{P:Prop}(h:P:=by
  clear hq;go_enter func83,ntmps83;go_upto_region 1 with fail;generalize World.alloc w _=w1 at *;have b0:=Ja HCP.out 0;have b1:=Ja HCP.out 1;have b2:=Ja HCP.out 2;simp only[ZD,ZE,ZF]at b0 b1 b2;go_region;go_wp2_with fail;refine(cf _).mono ?_;rintro e w3 ⟨rfl,rfl⟩;go_wp2;go_ret
  exact⟨rfl,HB.out⟩):P:=h
theorem Jix(fa:Option Addr)(nf fc vars:Nat)(n:Int)(s:List UInt8)(ad:Option Addr)(m cc:Nat)(w:World)(hs:s.length<=9223372036854775807) :
  Calls prog 83 #[.slice fa nf fc,.agg #[.int .i64 3,.int .i64 n,.string (bs s),.slice ad m cc],.int .i64 vars] w (Qck w (.bool (Qal nf vars 3 n s))):=by
 obtain⟨q,hq⟩:∃ q,Qal nf vars 3 n s=q:=⟨_,rfl⟩
 rw[hq];have HCP:=Zh (zzw w (.cells #[.int .i64 3,.int .i64 n,.string (bs s),.slice ad m cc] 30));have HB:Hid (Below w.heap.size w (w.alloc (.cells #[.int .i64 3,.int .i64 n,.string (bs s),.slice ad m cc] 30)).drew):=(zzb.alloc zzl _).drew;have u1:=Jl s;unfold Qal at hq;have cf:=fun W=>Yy s W
 obtain⟨x,hx⟩:∃ x,(QaD s).isSome=x:=⟨_,rfl⟩
 obtain⟨y,hy⟩:∃ y,(QaD s).getD 0=y:=⟨_,rfl⟩
 rw[hx,hy]at cf;rw[hx]at hq;clear hx hy
 by_cases h1:n=0
 ·subst h1
  cases x with
  |true=>
   obtain rfl:q=true:=by rw[<- hq];simp[*]
   exact QkZ
  |false=>
   obtain rfl:q=false:=by rw[<- hq];simp[*]
   exact QkZ
 ·have e0:(n==0)=false:=zzq h1
  cases x with
  |true=>
   obtain rfl:q=false:=by rw[<- hq];simp[*]
   exact QkZ
  |false=>
   obtain rfl:q=false:=by rw[<- hq];simp[*]
   exact QkZ
theorem Qlb{P:Prop}(h:P:=by
  clear hq;go_enter func83,ntmps83;go_upto_region 1 with fail;generalize World.alloc w _=w1 at *;have b0:=Ja HCP.out 0;have b1:=Ja HCP.out 1;have b2:=Ja HCP.out 2;simp only[ZD,ZE,ZF]at b0 b1 b2;go_region;go_wp2_with fail;refine(ct _).mono ?_;rintro e w3 ⟨rfl,rfl⟩;go_wp2;go_ret
  exact⟨rfl,HB.out⟩):P:=h
theorem QmA{P:Prop}(h:P:=by
  have u1:=Jl s;unfold Qal at hq;have ct:=fun W=>JbE s W hs
  obtain⟨x,hx⟩:∃ x,QcN s=x:=⟨_,rfl⟩
  rw[hx]at ct hq;clear hx
  by_cases h1:n=0
  ·subst h1
   cases x with
   |true=>
    obtain rfl:q=true:=by rw[<- hq];simp[*]
    exact Qlb
   |false=>
    obtain rfl:q=false:=by rw[<- hq];simp[*]
    exact Qlb
  ·have e0:(n==0)=false:=zzq h1
   cases x with
   |true=>
    obtain rfl:q=false:=by rw[<- hq];simp[*]
    exact Qlb
   |false=>
    obtain rfl:q=false:=by rw[<- hq];simp[*]
    exact Qlb):P:=h
theorem Jiy(fa:Option Addr)(nf fc vars:Nat)(n:Int)(s:List UInt8)(ad:Option Addr)(m cc:Nat)(w:World)(hs:s.length<=9223372036854775807) :
  Calls prog 83 #[.slice fa nf fc,.agg #[.int .i64 4,.int .i64 n,.string (bs s),.slice ad m cc],.int .i64 vars] w (Qck w (.bool (Qal nf vars 4 n s))):=by
 obtain⟨q,hq⟩:∃ q,Qal nf vars 4 n s=q:=⟨_,rfl⟩
 rw[hq];have HCP:=Zh (zzw w (.cells #[.int .i64 4,.int .i64 n,.string (bs s),.slice ad m cc] 30));have HB:Hid (Below w.heap.size w (w.alloc (.cells #[.int .i64 4,.int .i64 n,.string (bs s),.slice ad m cc] 30)).drew):=(zzb.alloc zzl _).drew;exact QmA
theorem Jiz(fa:Option Addr)(nf fc vars:Nat)(n:Int)(s:List UInt8)(ad:Option Addr)(m cc:Nat)(w:World)(hs:s.length<=9223372036854775807) :
  Calls prog 83 #[.slice fa nf fc,.agg #[.int .i64 5,.int .i64 n,.string (bs s),.slice ad m cc],.int .i64 vars] w (Qck w (.bool (Qal nf vars 5 n s))):=by
 obtain⟨q,hq⟩:∃ q,Qal nf vars 5 n s=q:=⟨_,rfl⟩
 rw[hq];have HCP:=Zh (zzw w (.cells #[.int .i64 5,.int .i64 n,.string (bs s),.slice ad m cc] 30));have HB:Hid (Below w.heap.size w (w.alloc (.cells #[.int .i64 5,.int .i64 n,.string (bs s),.slice ad m cc] 30)).drew):=(zzb.alloc zzl _).drew;exact QmA
theorem JbG(fa:Option Addr)(nf fc vars:Nat)(k n:Int)(s:List UInt8)(ad:Option Addr)(m cc:Nat)(w:World)(hs:s.length<=9223372036854775807)
  (h0:k≠0) (h1:k≠1) (h2:k≠2) (h3:k≠3) (h4:k≠4) (h5:k≠5) (h19:k≠19) (h20:k≠20) :
  Calls prog 83 #[.slice fa nf fc,.agg #[.int .i64 k,.int .i64 n,.string (bs s),.slice ad m cc],.int .i64 vars] w (Qck w (.bool (Qal nf vars k n s))):=by
 obtain⟨q,hq⟩:∃ q,Qal nf vars k n s=q:=⟨_,rfl⟩
 rw[hq];have HCP:=Zh (zzw w (.cells #[.int .i64 k,.int .i64 n,.string (bs s),.slice ad m cc] 30));have HB:Hid (Below w.heap.size w (w.alloc (.cells #[.int .i64 k,.int .i64 n,.string (bs s),.slice ad m cc] 30)).drew):=(zzb.alloc zzl _).drew;have u1:=Jl s;unfold Qal at hq;rw[if_neg h0,if_neg h1,if_neg h2,if_neg h19,if_neg h20,if_neg h3,if_neg (by omega)]at hq;have f0:(k==0)=false:=zzq h0;have f1:(k==1)=false:=zzq h1;have f2:(k==2)=false:=zzq h2;have f3:(k==3)=false:=zzq h3;have f4:(k==4)=false:=zzq h4;have f5:(k==5)=false:=zzq h5;have f19:(k==19)=false:=zzq h19;have f20:(k==20)=false:=zzq h20;clear h0 h1 h2 h3 h4 h5 h19 h20
 by_cases h1:n=0
 ·subst h1
  cases s with
  |nil=>
   have es:(([]:List UInt8)==[])=true:=rfl
   by_cases g1:0<=k
   ·have d1:decide (0<=k)=true:=decide_eq_true (by omega)
    by_cases g2:k<21
    ·have d2:decide (k<21)=true:=decide_eq_true (by omega);obtain rfl:q=true:=by rw[<- hq];simp[*]
     exact bx3
    ·have d2:decide (k<21)=false:=decide_eq_false (by omega);obtain rfl:q=false:=by rw[<- hq];simp[*]
     exact bx3
   ·have d1:decide (0<=k)=false:=decide_eq_false (by omega);obtain rfl:q=false:=by rw[<- hq];simp[*]
    exact bx3
  |cons c0 r0=>
   have es:((c0::r0)==[])=false:=rfl;have es2:(c0::r0).isEmpty=false:=rfl;have es3:¬ (c0::r0)=[]:=by simp
   generalize c0::r0=s at *;obtain rfl:q=false:=by rw[<- hq];simp[*]
   exact bx3
 ·have e0:(n==0)=false:=zzq h1;obtain rfl:q=false:=by rw[<- hq];simp[*]
  exact bx3
theorem Yl(v:Value)(fs:List FnM)(vars:Nat)(k n:Int)(s:List UInt8)(ad:Option Addr)(m cc:Nat)(w:World)(hs:s.length<=9223372036854775807)(hF:Qcz w v fs) :
  Calls prog 83 #[v,.agg #[.int .i64 k,.int .i64 n,.string (bs s),.slice ad m cc],.int .i64 vars] w (Qck w (.bool (Qal fs.length vars k n s))):=by
 obtain⟨fa,fc,rfl,_⟩:=hF.form
 by_cases h0:k=0
 ·subst h0;exact Jiu fa _ fc vars n s ad m cc w hs
 by_cases h1:k=1
 ·subst h1;exact Jiv fa _ fc vars n s ad m cc w hs
 by_cases h2:k=2
 ·subst h2;exact Jiw fa _ fc vars n s ad m cc w hs
 by_cases h3:k=3
 ·subst h3;exact Jix fa _ fc vars n s ad m cc w hs
 by_cases h4:k=4
 ·subst h4;exact Jiy fa _ fc vars n s ad m cc w hs
 by_cases h5:k=5
 ·subst h5;exact Jiz fa _ fc vars n s ad m cc w hs
 by_cases h19:k=19
 ·subst h19;exact JgB fa _ fc vars n s ad m cc w hs
 by_cases h20:k=20
 ·subst h20;exact JgC fa _ fc vars n s ad m cc w hs
 exact JbG fa _ fc vars k n s ad m cc w hs h0 h1 h2 h3 h4 h5 h19 h20
end Go.Proofs.YtdlkcjkjnehnkaaGreatDoor
