import Derived.Test.YtfafpklefknomaaGreatDoorR31
import Derived.Test.YtfafpklefknomaaGreatDoorR23
import Derived.Test.YtfafpklefknomaaGreatDoorR27
import Derived.Test.YtfafpklefknomaaGreatDoorR30
open Nat(le_refl)
namespace Go.Proofs.YtfafpklefknomaaGreatDoor
open Go.ChangeShapes Go.WideShapes Go.ChangeAt Go.RowKit Go.Lib
open _root_.Go.Proofs.Tryz
set_option linter.all false
set_option maxRecDepth 100000
set_option maxHeartbeats 32000000
def Jfs(n:Int)(w:World)(h:Qbc n):Calls prog 152 #[Iv n] w (λe w'=>e=.returned (.int .u64 (n.natAbs:Int))/\w'=w):=by
 unfold Qbc at h
 by_cases h0:n<0
 ·obtain⟨m,hm⟩:∃m:Nat,n.natAbs=m:=⟨_,rfl⟩
  rw[hm];have hn:n = -(m:Int):=zo;subst hn;have hw:IntKind.u64.wrap (-IntKind.u64.wrap (-(m:Int)))=m:=by rw[IntKind.wrap_u64,IntKind.wrap_u64];omega
  go_enter func152,ntmps152;go_wp2;go_ret;exact⟨rfl,rfl⟩
 ·obtain⟨m,rfl⟩:∃m:Nat,n=m:=⟨n.toNat,by omega⟩
  have hd:decide ((m:Int)<0)=false:=zq;have hm:((m:Int).natAbs:Int)=m:=zq;rw[hm];go_enter func152,ntmps152;go_wp2;go_ret;exact⟨rfl,rfl⟩
def Jky{a b:Int}:((a.natAbs*b.natAbs:Nat):Int)=if (decide (a<0) !=decide (b<0))=true then -(a*b) else a*b:=by
 by_cases ha:a<0
 ·rw[zG ha];obtain⟨m,rfl⟩:∃m:Nat,a = -(m:Int):=⟨a.natAbs,by omega⟩
  by_cases hb:b<0
  ·rw[zG hb];obtain⟨n,rfl⟩:∃n:Nat,b = -(n:Int):=⟨b.natAbs,by omega⟩
   simp[Int.neg_mul_neg]
  ·rw[zH hb];obtain⟨n,rfl⟩:∃n:Nat,b=(n:Int):=⟨b.natAbs,by omega⟩
   simp[Int.neg_mul]
 ·rw[zH ha];obtain⟨m,rfl⟩:∃m:Nat,a=(m:Int):=⟨a.natAbs,by omega⟩
  by_cases hb:b<0
  ·rw[zG hb];obtain⟨n,rfl⟩:∃n:Nat,b = -(n:Int):=⟨b.natAbs,by omega⟩
   simp[Int.mul_neg]
  ·rw[zH hb];obtain⟨n,rfl⟩:∃n:Nat,b=(n:Int):=⟨b.natAbs,by omega⟩
   simp
theorem ux7{P:Prop}(h:P:=by
  go_enter func150,ntmps150;go_wp2;go_quiet (first|(go_at_call 152;with_reducible refine(h1' _).mono ?_;exact λe w' ⟨he,hw⟩=>⟨he,_,hw⟩)|(go_at_call 152;with_reducible refine(h2' _).mono ?_;exact λe w' ⟨he,hw⟩=>⟨he,_,hw⟩)|(go_at_call 151;refine(h3 _).mono ?_;exact λe w' ⟨he,hw⟩=>⟨he,_,hw⟩));go_wp2;go_ret3
  exact⟨rfl,Ke zO _⟩):P:=h
theorem QjB{P:Prop}(h:P:=by
  have e1:((z / 18446744073709551616:Nat):Int)=0:=by omega
  have e2:((z % 18446744073709551616:Nat):Int)=z:=by omega
  rw[e1,e2]at h3;have c1:decide (9223372036854775807<(z:Int))=true:=zG (by omega);have HS:=Zh hs;clear hs hxy hz hbig e1 e2 hzh
  exact ux7):P:=h
theorem Qkh{P:Prop}(h:P:=by
  replace hs:(z:Int) = -(a*b):=by simpa using hs
  by_cases hz:z<=9223372036854775807
  ·have c1:decide (9223372036854775807<(z:Int))=false:=zH (by omega);have e1:((z / 18446744073709551616:Nat):Int)=0:=by omega
   have e2:((z % 18446744073709551616:Nat):Int)=z:=by omega
   rw[e1,e2]at h3;refine⟨-(z:Int),true,true,by rw[hs,Int.neg_neg];rfl,?_⟩;have c2:IntKind.i64.wrap (z:Int)=z:=by rw[IntKind.wrap_i64];omega
   have c3:IntKind.i64.wrap (-(z:Int)) = -(z:Int):=by rw[IntKind.wrap_i64];omega
   have HS:=Zh hs;clear hs e1 e2 hxy;exact ux7
  ·have hbig:Qdc 0 false true=Qca (a*b):=by
    have h:a*b = -(z:Int):=by omega
    rw[h];unfold Qdc Qca QbO;simp only[Bool.false_eq_true,if_false,if_true];rw[if_pos (by omega)]
   by_cases hzh:z / 18446744073709551616=0
   ·refine⟨0,false,true,hbig,?_⟩;exact QjB
   ·refine⟨0,false,true,hbig,?_⟩;have e1:(((z / 18446744073709551616:Nat):Int) !=0)=true:=by simp only[bne_iff_ne];omega
    have HS:=Zh hs;clear hs hxy hz hbig;generalize ((z / 18446744073709551616:Nat):Int)=zh at *;generalize ((z % 18446744073709551616:Nat):Int)=zl at *
    exact ux7):P:=h
theorem Qkg{P:Prop}(h:P:=by
  replace hs:(z:Int)=a*b:=by simpa using hs
  by_cases hz:z<=9223372036854775807
  ·have c1:decide (9223372036854775807<(z:Int))=false:=zH (by omega);have e1:((z / 18446744073709551616:Nat):Int)=0:=by omega
   have e2:((z % 18446744073709551616:Nat):Int)=z:=by omega
   rw[e1,e2]at h3;refine⟨z,true,false,by rw[hs];rfl,?_⟩;have c2:IntKind.i64.wrap (z:Int)=z:=by rw[IntKind.wrap_i64];omega
   have HS:=Zh hs;clear hs e1 e2 hxy;exact ux7
  ·have hbig:Qdc 0 false false=Qca (a*b):=by
    rw[<- hs];unfold Qdc Qca QbO;simp only[Bool.false_eq_true,if_false];rw[if_neg (by omega),if_pos (by omega)]
   by_cases hzh:z / 18446744073709551616=0
   ·refine⟨0,false,false,hbig,?_⟩;exact QjB
   ·refine⟨0,false,false,hbig,?_⟩;have e1:(((z / 18446744073709551616:Nat):Int) !=0)=true:=by simp only[bne_iff_ne];omega
    have HS:=Zh hs;clear hs hxy hz hbig;generalize ((z / 18446744073709551616:Nat):Int)=zh at *;generalize ((z % 18446744073709551616:Nat):Int)=zl at *
    exact ux7):P:=h
def JnM(p q:Nat)(a b:Int)(w:World)(ha:Qbc a)(hb:Qbc b)(hp:w.cell? ⟨p,0,none⟩=some (Iv a))(hq:w.cell? ⟨q,0,none⟩=some (Iv b)) :
  ∃n ex neg,Qdc n ex neg=Qca (a*b)/\Calls prog 150 #[Pt p,Pt q] w (Qci w n ex neg):=by
 have hs:=Jky (a:=a) (b:=b);have h1:=Jfs a;have h2:=Jfs b;have hx:a.natAbs<18446744073709551616:=by unfold Qbc at ha;omega
 have hy:b.natAbs<18446744073709551616:=by unfold Qbc at hb;omega
 have h3:=Tryz.bits_Mul64 a.natAbs b.natAbs hx hy;have h1':=λW=>h1 W ha
 have h2':=λW=>h2 W hb
 generalize a.natAbs=x at *;generalize b.natAbs=y at *;have hxy:x*y<18446744073709551616*18446744073709551616:=Nat.mul_lt_mul'' hx hy;generalize x*y=z at *;clear h1 h2 ha hb hx hy
 cases hpa:decide (a<0)
 ·cases hpb:decide (b<0)
  ·rw[hpa,hpb]at hs;exact Qkg
  ·rw[hpa,hpb]at hs;exact Qkh
 ·cases hpb:decide (b<0)
  ·rw[hpa,hpb]at hs;exact Qkh
  ·rw[hpa,hpb]at hs;exact Qkg
def Jih(a b:Int)(w:World)(ha:Qbc a)(hb:Qbc b):Calls prog 123 #[Iv a,Iv b] w (Qcx w (Qca (a*b))):=by
 have yA:∀(fn:Fn) (first cap:Array Value) (w:World),(Instr.makeFunc fn first cap).run prog w=.ok (.func fn first cap) w:=λ_ _ _ _=>rfl
 obtain⟨W,hW⟩:∃W,W=(w.alloc (.cells #[Iv a] 3)).alloc (.cells #[Iv b] 3):=⟨_,rfl⟩
 have hbW:Below w.heap.size w W:=by rw[hW];exact(zO.alloc (Nat.le_refl _) _).alloc zq _
 have hp:W.cell? ⟨w.heap.size,0,none⟩=some (Iv a):=by rw[hW];exact YD w _ _ 3 3
 have hq:W.cell? ⟨w.heap.size+1,0,none⟩=some (Iv b):=by rw[hW];exact YE w _ _ 3 3
 obtain⟨n,ex,xA,hn,hc⟩:=JnM w.heap.size (w.heap.size+1) a b W ha hb hp hq;have c:=Qjf _ _ _ _ _ _ hc;have hR:=Zh hn;clear hn hc hp hq;go_enter func123,ntmps123;exact QiK
theorem QhI{P:Prop}(h:P:=by
  go_enter func147,ntmps147;go_wp2_with (go_at_call 153;refine hc.mono ?_;rintro e w1 ⟨rfl,hb⟩);go_ret
  exact⟨by rw[hN.o];rfl,hb⟩):P:=h
def Qjj(p q:Nat)(w:World)(n:Int)(ex neg:Bool)(hc:Calls prog 153 #[Pt p,Pt q] w (Qci w n ex neg)) :
  Calls prog 147 #[.func (.func 153) #[] #[Pt p,Pt q]] w (Qcx w (Qdc n ex neg)):=by
 cases ex
 ·cases neg
  ·have hN:Hi (Qdc n false false=1125899906842624):=rfl;exact QhI
  ·have hN:Hi (Qdc n false true = -1125899906842624):=rfl;exact QhI
 ·have hN:Hi (Qdc n true neg=Qca n):=rfl;have hL:Hi (Qca n=QbO n (-1125899906842624) 1125899906842624):=rfl;go_enter func147,ntmps147;go_wp2_with (first|(go_at_call 153;refine hc.mono ?_;rintro e w1 ⟨rfl,hb⟩)|(go_at_call 163;refine(VE _ _ _ _).mono ?_;rintro e w2 ⟨rfl,rfl⟩));go_ret;exact⟨by rw[hN.o,hL.o];rfl,hb⟩
theorem QhH{P:Prop}(h:P:=by
  go_enter func147,ntmps147;go_wp2_with (go_at_call 154;refine hc.mono ?_;rintro e w1 ⟨rfl,hb⟩);go_ret
  exact⟨by rw[hN.o];rfl,hb⟩):P:=h
def Qji(p q:Nat)(w:World)(n:Int)(ex neg:Bool)(hc:Calls prog 154 #[Pt p,Pt q] w (Qci w n ex neg)) :
  Calls prog 147 #[.func (.func 154) #[] #[Pt p,Pt q]] w (Qcx w (Qdc n ex neg)):=by
 cases ex
 ·cases neg
  ·have hN:Hi (Qdc n false false=1125899906842624):=rfl;exact QhH
  ·have hN:Hi (Qdc n false true = -1125899906842624):=rfl;exact QhH
 ·have hN:Hi (Qdc n true neg=Qca n):=rfl;have hL:Hi (Qca n=QbO n (-1125899906842624) 1125899906842624):=rfl;go_enter func147,ntmps147;go_wp2_with (first|(go_at_call 154;refine hc.mono ?_;rintro e w1 ⟨rfl,hb⟩)|(go_at_call 163;refine(VE _ _ _ _).mono ?_;rintro e w2 ⟨rfl,rfl⟩));go_ret;exact⟨by rw[hN.o,hL.o];rfl,hb⟩
def Jgh{a b:Int}:-(a.natAbs:Int)<=a.tdiv b/\a.tdiv b<=a.natAbs:=by
 have h:=Int.natAbs_tdiv a b;have h2:(a.tdiv b).natAbs<=a.natAbs:=by rw[h];exact Nat.div_le_self _ _
 omega
def Jgi{a b:Int}:-(a.natAbs:Int)<=a.tmod b/\a.tmod b<=a.natAbs:=by
 have h:=Int.natAbs_tmod a b;have h2:(a.tmod b).natAbs<=a.natAbs:=by rw[h];exact Nat.mod_le _ _
 omega
def Jii{a b:Int}(ha:Qbc a)(h:b≠-1):-9223372036854775808<=a.tdiv b/\a.tdiv b<=9223372036854775807:=by
 unfold Qbc at ha;have h0:=Jgh (a:=a) (b:=b)
 by_cases hm:a = -9223372036854775808
 ·have hn:=Int.natAbs_tdiv a b
  by_cases hb0:b=0
  ·subst hb0;simp
  ·by_cases hb1:b=1
   ·subst hb1;rw[Int.tdiv_one];omega
   ·have h2:2<=b.natAbs:=zo;have h3:a.natAbs.div b.natAbs<=a.natAbs / 2:=Nat.div_le_div_left h2 zo;have h4:(a.tdiv b).natAbs<=a.natAbs / 2:=by rw[hn];exact h3
    omega
 ·omega
section
variable (p q:Nat)(a b:Int)(w:World)(ha:Qbc a)(hb:Qbc b)(hb0:b≠0)(hp:w.cell? ⟨p,0,none⟩=some (Iv b))(hq:w.cell? ⟨q,0,none⟩=some (Iv a))
include p q a b w ha hb hb0 hp hq
theorem JnN :
  ∃n ex,Qdc n ex false=Qca (a.tdiv b)/\Calls prog 153 #[Pt p,Pt q] w (Qci w n ex false):=by
 by_cases h1:b = -1
 ·subst h1;have ht:a.tdiv (-1) = -a:=by rw[Int.tdiv_neg,Int.tdiv_one]
  by_cases hm:a = -9223372036854775808
  ·subst hm;refine⟨wrap64 9223372036854775808,false,rfl,?_⟩;clear ht;go_enter func153,ntmps153;exact QeJ
  ·refine⟨-a,true,by rw[ht];rfl,?_⟩;unfold Qbc at ha;have zA:(a == -9223372036854775808)=false:=by simpa using hm
   have xA:(a !=-9223372036854775808)=true:=by simpa using hm
   have hr1:-9223372036854775808<=-a:=zo;have yA:-a<=9223372036854775807:=zo;have hw:IntKind.i64.wrap (-a) = -a:=by rw[IntKind.wrap_i64];omega
   clear ht hm;go_enter func153,ntmps153;exact QeJ
 ·refine⟨a.tdiv b,true,rfl,?_⟩;have hr:=Jii ha h1;have hr1:=hr.1;have yA:=hr.2;have hw:wrap64 (a.tdiv b)=a.tdiv b:=by unfold wrap64;omega
  have d1:(b == -1)=false:=by simpa using h1
  have d2:(b==0)=false:=by simpa using hb0
  clear h1 ha hb hr;go_enter func153,ntmps153;go_wp2;go_ret3;exact⟨rfl,zO⟩
theorem JnO :
  Calls prog 154 #[Pt p,Pt q] w (Qci w (a.tmod b) true false):=by
 by_cases h1:b = -1
 ·subst h1;have ht:a.tmod (-1)=0:=by rw[Int.tmod_neg,Int.tmod_one]
  rw[ht];clear ht;go_enter func154,ntmps154;go_wp2;go_ret3;exact⟨rfl,zO⟩
 ·have hr:=Jgi (a:=a) (b:=b)
  have hr1:-9223372036854775808<=a.tmod b:=by
   have hn:=Int.natAbs_tmod a b;unfold Qbc at ha hb;have:(a.tmod b).natAbs<=9223372036854775808:=by rw[hn];have:=Nat.mod_le a.natAbs b.natAbs;omega
   omega
  have yA:a.tmod b<=9223372036854775807:=by
   have hn:=Int.natAbs_tmod a b;unfold Qbc at ha hb;have xA:0<b.natAbs:=zo;have h5:=Nat.mod_lt a.natAbs xA;have:(a.tmod b).natAbs<9223372036854775808:=by rw[hn];omega
   omega
  have hw:wrap64 (a.tmod b)=a.tmod b:=by unfold wrap64;omega
  have d1:(b == -1)=false:=by simpa using h1
  have d2:(b==0)=false:=by simpa using hb0
  clear h1 ha hb hr;go_enter func154,ntmps154;go_wp2;go_ret3;exact⟨rfl,zO⟩
end
def Qin(w:World)(n:Int)(ok:Bool)(e:Ending)(w':World):Prop:=e=.returned (.tuple #[Iv n,.bool ok])/\Below w.heap.size w w'
theorem QhM{P:Prop}(h:P:=by
  go_wp2_with fail;rw[<- hW];clear hW;refine(Calls.mono c ?_);rintro e w1 ⟨rfl,hb1⟩;go_wp2;go_ret2
  exact⟨by rfl,hbW.trans (hb1.mono hbW.size)⟩):P:=h
def Jij(a b:Int)(w:World)(ha:Qbc a)(hb:Qbc b):Calls prog 125 #[Iv a,Iv b] w (Qin w (if b=0 then 0 else Qca (a.tdiv b)) (decide (b≠0))):=by
 have xA:∀(fn:Fn) (first cap:Array Value) (w:World),(Instr.makeFunc fn first cap).run prog w=.ok (.func fn first cap) w:=λ_ _ _ _=>rfl
 obtain⟨W,hW⟩:∃W,W=(w.alloc (.cells #[Iv a] 3)).alloc (.cells #[Iv b] 3):=⟨_,rfl⟩
 have hbW:Below w.heap.size w W:=by rw[hW];exact(zO.alloc zP _).alloc zq _
 by_cases h0:b=0
 ·subst h0;clear hW;go_enter func125,ntmps125;go_wp2;go_ret2;exact⟨rfl,(zO.alloc zP _).alloc zq _⟩
 ·have hp:W.cell? ⟨w.heap.size,0,none⟩=some (Iv a):=by rw[hW];exact YD w _ _ 3 3
  have hq:W.cell? ⟨w.heap.size+1,0,none⟩=some (Iv b):=by rw[hW];exact YE w _ _ 3 3
  obtain⟨n,ex,hn,hc⟩:=JnN (w.heap.size+1) w.heap.size a b W ha hb h0 hq hp;have c:=Qjj _ _ _ _ _ _ hc;clear hc hp hq;go_enter func125,ntmps125;exact QhM
def Jik(a b:Int)(w:World)(ha:Qbc a)(hb:Qbc b):Calls prog 126 #[Iv a,Iv b] w (Qin w (if b=0 then 0 else Qca (a.tmod b)) (decide (b≠0))):=by
 have xA:∀(fn:Fn) (first cap:Array Value) (w:World),(Instr.makeFunc fn first cap).run prog w=.ok (.func fn first cap) w:=λ_ _ _ _=>rfl
 obtain⟨W,hW⟩:∃W,W=(w.alloc (.cells #[Iv a] 3)).alloc (.cells #[Iv b] 3):=⟨_,rfl⟩
 have hbW:Below w.heap.size w W:=by rw[hW];exact(zO.alloc zP _).alloc zq _
 by_cases h0:b=0
 ·subst h0;clear hW;go_enter func126,ntmps126;go_wp2;go_ret2;exact⟨rfl,(zO.alloc zP _).alloc zq _⟩
 ·have hp:W.cell? ⟨w.heap.size,0,none⟩=some (Iv a):=by rw[hW];exact YD w _ _ 3 3
  have hq:W.cell? ⟨w.heap.size+1,0,none⟩=some (Iv b):=by rw[hW];exact YE w _ _ 3 3
  have hc:=JnO (w.heap.size+1) w.heap.size a b W ha hb h0 hq hp;have c:=Qji _ _ _ _ _ _ hc;clear hc hp hq;go_enter func126,ntmps126;exact QhM
def Qbx(W:World)(v:Value)(l:List (By × Int)):Prop:=Qan W (In W) (λa c=>c=[.string (bs a.1),Iv a.2]) l v
def QaT(W:World)(v:Value)(l:List By):Prop:=Qan W (In W) (λa c=>c=[Sv a]) l v
def Qbx.up{w W:World}{v:Value}{l:List (By × Int)}(h:Qbx w v l)(hb:Below w.heap.size w W):Qbx W v l:=Qan.keep (λb hP=>hb.block b hP) (λb hP=>In.up hb hP) (λa c h=>h) h
def QaT.up{w W:World}{v:Value}{l:List By}(h:QaT w v l)(hb:Below w.heap.size w W):QaT W v l:=Qan.keep (λb hP=>hb.block b hP) (λb hP=>In.up hb hP) (λa c h=>h) h
def Qbx.form{W:World}{v:Value}{l:List (By × Int)}(h:Qbx W v l):∃ad cc,v=.slice ad l.length cc/\l.length<=cc:=by
 obtain⟨ad,cc,h1,h2,_⟩:=Qan.get (m:=2) (λa c h=>by rw[h];rfl) h;exact⟨ad,cc,h1,h2⟩
def QaT.form{W:World}{v:Value}{l:List By}(h:QaT W v l):∃ad cc,v=.slice ad l.length cc/\l.length<=cc:=by
 obtain⟨ad,cc,h1,h2,_⟩:=Qan.get (m:=1) (λa c h=>by rw[h];rfl) h;exact⟨ad,cc,h1,h2⟩
def Qbx.get{W:World}{ad:Option Addr}{m cc:Nat}{l:List (By × Int)}(h:Qbx W (.slice ad m cc) l){i:Nat}{a:By × Int}(hi:l[i]?=some a):∃b o,ad=some ⟨b,o,none⟩/\b<W.heap.size/\W.cell? ⟨b,o+i*2,none⟩=some (.string (bs a.1))/\W.cell? ⟨b,o+i*2+1,none⟩=some (Iv a.2):=by
 obtain⟨xA,yA,h1,_,h3⟩:=Qan.get (m:=2) (λa c h=>by rw[h];rfl) h;injection h1 with e1 e2 e3;subst e1;exact QhP
def QaT.get{W:World}{ad:Option Addr}{m cc:Nat}{l:List By}(h:QaT W (.slice ad m cc) l){i:Nat}{a:By}(hi:l[i]?=some a):∃b o,ad=some ⟨b,o,none⟩/\b<W.heap.size/\W.cell? ⟨b,o+i,none⟩=some (Sv a):=by
 obtain⟨xA,yA,h1,_,h3⟩:=Qan.get (m:=1) (λa c h=>by rw[h];rfl) h;injection h1 with e1 e2 e3;subst e1;exact QjH
def QaI(F:Qaj)(lv wv:Value):Array Value:=#[lv,Iv F.likes,Iv F.boosts,Iv F.replies,Iv F.reports,Iv F.age,Iv F.home,Iv F.scope,Iv F.length,.bool F.follows,.bool F.reply,wv]
structure Qbw where
 w0:World
 p:Nat
 fa:Option Addr
 fc:Nat
 ca:Option Addr
 cc:Nat
 la:Option Addr
 lc:Nat
 wa:Option Addr
 wc:Nat
 r:Qah
 F:Qaj
def Qbw.cells(K:Qbw)(u c:Nat):Array Value:=#[.slice K.fa K.r.funcs.length K.fc,.slice K.ca K.r.clauses.length K.cc,Iv K.r.action,
 .slice K.la K.F.labels.length K.lc,Iv K.F.likes,Iv K.F.boosts,Iv K.F.replies,Iv K.F.reports,Iv K.F.age,Iv K.F.home,Iv K.F.scope,Iv K.F.length,.bool K.F.follows,.bool K.F.reply,.slice K.wa K.F.words.length K.wc,
 Iv u,Iv c]
structure FSz(F:Qaj):Prop where
 nl:F.labels.length<=200000000000000
 nw:F.words.length<=200000000000000
structure Qbw.Ok(K:Qbw):Prop where
 fns:Qcy K.w0 (.slice K.fa K.r.funcs.length K.fc) K.r.funcs
 cls:QdL K.w0 (.slice K.ca K.r.clauses.length K.cc) K.r.clauses
 labs:Qbx K.w0 (.slice K.la K.F.labels.length K.lc) K.F.labels
 words:QaT K.w0 (.slice K.wa K.F.words.length K.wc) K.F.words
 rsz:RSz K.r
 fsz:FSz K.F
 tr:Qbq K.r=true
 ty:Qbz K.r=true
 facts:QaF K.F=true
 num:K.w0.heap.size<=K.p
structure Qcw(K:Qbw)(W:World)(u c:Nat):Prop where
 self:W.heap[K.p]?=some (.cells (K.cells u c) 100 (0,0))
 bel:Bel K.w0 W
section
variable {K:Qbw} {W W':World} {u c:Nat}
def Qcw.lt(h:Qcw K W u c):K.p<W.heap.size:=Jb h.self
def Qcw.up(h:Qcw K W u c)(hb:Below W.heap.size W W'):Qcw K W' u c:=⟨(hb.block _ h.lt).trans h.self,Jd h.bel hb⟩
def Qcw.drew(h:Qcw K W u c):Qcw K W.drew u c:=⟨h.self,h.bel.drew⟩
def Qcw.setC(hk:K.Ok)(h:Qcw K W u c)(c':Nat):Qcw K (W.setCell ⟨K.p,16,none⟩ (Iv c')) u c':=by
 refine⟨?_,Below.setCell h.bel hk.num _⟩;rw[Jm h.self];rfl
end
def Jil(F:Qaj)(s:By):QcM F s=if s=Qco then F.likes else if s=Qch then F.boosts else if s=QbD then F.replies else if s=QbC then F.reports
 else if s=QfI then F.age else if s=QdQ then F.home else if s=QcS then F.scope else if s=Qcg then F.length
 else if s=QbE then Qcs F.follows else Qcs F.reply:=rfl
theorem QhB{P:Prop}(h:P:=by
  go_wp2;go_roundg (n-(k+1))
  case measure=>have:=HG.o;have:=HHI.o;omega
  case rel=>exact⟨k+1,by have:=HHI.o;omega,by go_num,HB2,HZ⟩):P:=h
open Go Go.ChangeShapes Go.WideShapes Go.ChangeAt Go.RowKit Go.Lib
structure MK where
 o0:Value
 o1:Value
 o2:Value
 o3:Value
 F:Qaj
 la:Value
 wa:Value
def mC(K:MK)(s:StM)(sv vv cv:Value):Array Value:=#[K.o0,K.o1,K.o2,K.o3,K.la,Iv K.F.likes,Iv K.F.boosts,Iv K.F.replies,Iv K.F.reports,Iv K.F.age,Iv K.F.home,Iv K.F.scope,Iv K.F.length,.bool K.F.follows,.bool K.F.reply,K.wa,
 Iv (s.pc:Nat),sv,vv,cv,Iv (s.used:Nat),Iv s.o.action,.string (bs s.o.reason),Iv (s.o.used:Nat),Iv s.o.fault,.bool s.fin]
def Qdf(l:List (Nat × List Int))(fr:List Value):List Value:=(l.zip fr).reverse.flatMap λx=>[Iv (x.1.1:Nat),x.2]
def QeZ(w:World)(b:Nat):List (Nat × List Int)->List Value->Prop
 |[],[]=>True
 |x::l,v::fr=>w.ownsRow b 3 1 v x.2.length (Qad x.2)/\QeZ w b l fr
 |_,_=>False
def Qcf(a b:Value):Prop:=∀k,a.ownBlock=some k->b.ownBlock≠some k
structure QeY(w:World)(p:Nat)(s:StM)(sv vv cv:Value)(fr:List Value):Prop where
 st:w.ownsRow (p-1) 3 1 sv s.st.length (Qad s.st.reverse)
 vars:w.ownsRow (p-1) 3 1 vv s.vars.length (Qad s.vars)
 calls:w.ownsRow (p-1) 192 2 cv s.calls.length (Qdf s.calls fr)
 frames:QeZ w (p-1) s.calls fr
 dis:(sv::vv::fr).Pairwise Qcf
def MAt(K:MK)(w:World)(p:Nat)(s:StM):Prop:=∃sv vv cv fr,w.heap[p]?=some (.cells (mC K s sv vv cv) 76 (0,0))/\QeY w p s sv vv cv fr
def Kh{W W':World}{b e sz n:Nat}{v:Value}{xs:List Value}(h:W.ownsRow b e sz v n xs)(hk:∀k,v.ownBlock=some k->W'.heap[k]?=W.heap[k]?):W'.ownsRow b e sz v n xs:=by
 refine⟨h.1,?_⟩
 rcases h.2 with hn|⟨g,cap,cur,rfl,hb,hg,rest⟩
 ·exact .inl hn
 ·exact .inr ⟨g,cap,cur,rfl,hb,(hk g rfl).trans hg,rest⟩
def KL{W:World}{b e sz n:Nat}{v:Value}{xs:List Value}(h:W.ownsRow b e sz v n xs){k T:Nat}{cs:Array Value}{fr:Nat × Nat}(hk:v.ownBlock=some k)(hc:W.heap[k]?=some (.cells cs T fr)):T=e:=by
 rcases h.2 with⟨rfl,_⟩|⟨g,cap,cur,rfl,hb,hg,rest⟩
 ·simp[Value.ownBlock]at hk
 ·simp[Value.ownBlock]at hk;subst hk;rw[hc]at hg;simp at hg;exact hg.2.1
def YZ{W:World}{b e sz n:Nat}{v:Value}{xs:List Value}(h:W.ownsRow b e sz v n xs){k T:Nat}{cs:Array Value}{fr:Nat × Nat}(hc:W.heap[k]?=some (.cells cs T fr))(hne:T≠e):v.ownBlock≠some k:=λhk=>hne (KL h hk hc)
def KT{w:World}{b e sz n p T j:Nat}{v:Value}{xs:List Value}{cs:Array Value}{fr:Nat × Nat}(h:w.ownsRow b e sz v n xs)(hp:w.heap[p]?=some (.cells cs T fr))(hne:T≠e)(u:Value):(w.setCell ⟨p,j,none⟩ u).ownsRow b e sz v n xs:=
 Kh h λk hk=>heap_setCell_other _ _ _ _ (by
  have h1:=YZ h hp hne;simp only;rintro rfl
  exact h1 hk)
def QeG(w W:World)(b:Nat)(row:Option Nat):Prop:=∀e sz v n xs,e≠76->w.ownsRow b e sz v n xs->(∀k,v.ownBlock=some k->row≠some k)->W.ownsRow b e sz v n xs
def QeZ.keep{w W:World}{b:Nat}{row:Option Nat}(hk:QeG w W b row):∀{l:List (Nat × List Int)} {fr:List Value},QeZ w b l fr->(∀v∈fr,∀k,v.ownBlock=some k->row≠some k)->QeZ W b l fr
 |[],[],_,_=>trivial
 |x::l,v::fr,h,hd=>⟨hk _ _ _ _ _ zp h.1 (hd v zq),QeZ.keep hk h.2 λv' hv=>hd v' (by simp[hv])⟩
 |[],v::fr,h,_=>h.elim
 |x::l,[],h,_=>h.elim
def QeZ.lt{w:World}{b:Nat}:∀{l:List (Nat × List Int)} {fr:List Value},QeZ w b l fr->∀v∈fr,∀k,v.ownBlock=some k->b<=k/\k<w.heap.size
 |[],[],_=>λv hv=>by simp at hv
 |x::l,v::fr,h=>λv' hv=>by
  rcases List.mem_cons.1 hv with rfl|hv
  ·exact h.1.lt
  ·exact QeZ.lt h.2 v' hv
 |[],v::fr,h=>h.elim
 |x::l,[],h=>h.elim
def JaX{w w':World}{X:Obj}{b p j:Nat}{row:Option Nat}{u:Value}{cs:Array Value}{fr:Nat × Nat}(hg:(w.alloc X).grownBy w' row)(hp:w.heap[p]?=some (.cells cs 76 fr)):QeG w (w'.setCell ⟨p,j,none⟩ u) b row:=λe sz v n xs he h hd=>
 Kh ((h.alloc X).kept hg (by
  cases ho:v.ownBlock with
  |none=>exact .inl rfl
  |some k=>exact .inr λe=>hd k ho e.symm)) λk hk=>heap_setCell_other _ _ _ _ (by
   have h1:=YZ h hp λe=>he e.symm;simp only;rintro rfl
   exact h1 hk)
def JbO{w:World}{b p j:Nat}{row:Option Nat}{u:Value}{cs:Array Value}{fr:Nat × Nat}(hp:w.heap[p]?=some (.cells cs 76 fr)):QeG w (w.setCell ⟨p,j,none⟩ u) b row:=λe sz v n xs he h _=>KT h hp (λe=>he e.symm) u
def Jak{w:World}{b e e' sz sz' n n':Nat}{v v':Value}{xs xs':List Value}(h:w.ownsRow b e sz v n xs)(h':w.ownsRow b e' sz' v' n' xs')(hne:e≠e'):Qcf v v':=λk hk hk'=>by
 rcases h.2 with⟨rfl,_⟩|⟨g,cap,cur,rfl,_,hg,_⟩
 ·simp[Value.ownBlock]at hk
 ·rcases h'.2 with⟨rfl,_⟩|⟨g',cap',cur',rfl,_,hg',_⟩
  ·simp[Value.ownBlock]at hk'
  ·simp[Value.ownBlock]at hk hk';subst hk hk';rw[hg]at hg';simp at hg';exact hne hg'.2
def QeY.stk{w W:World}{p:Nat}{s:StM}{sv sv' vv cv:Value}{fr:List Value}{l:List Int}(h:QeY w p s sv vv cv fr)(hk:QeG w W (p-1) sv.ownBlock)(hr:W.ownsRow (p-1) 3 1 sv' l.length (Qad l.reverse))
  (hn:∀k,sv'.ownBlock=some k->sv.ownBlock=some k\/w.heap.size<=k) {s':StM} (h1:s'.st=l) (h2:s'.vars=s.vars) (h3:s'.calls=s.calls):QeY W p s' sv' vv cv fr:=by
 have hd:=List.pairwise_cons.1 h.dis;have xA:=List.pairwise_cons.1 hd.2;refine⟨by rw[h1];exact hr,?_,?_,?_,?_⟩
 ·rw[h2];exact hk _ _ _ _ _ zp h.vars λk hv e=>hd.1 vv zq k e hv
 ·rw[h3];exact hk _ _ _ _ _ zp h.calls λk hv e=>Jak h.st h.calls zp k e hv
 ·rw[h3];exact h.frames.keep hk λv hv k hvk e=>hd.1 v (by simp[hv]) k e hvk
 ·refine List.pairwise_cons.2 ⟨λb hb k hk' hbk=>?_,hd.2⟩
  rcases hn k hk' with e|e
  ·exact hd.1 b hb k e hbk
  ·have hlt:k<w.heap.size:=by
    rcases List.mem_cons.1 hb with rfl|hb
    ·exact(h.vars.lt k hbk).2
    ·exact(h.frames.lt b hb k hbk).2
   omega
def TFr(w w':World):Prop:=∀(k:Nat) (o:Obj),w.heap[k]?=some o->(∀cs fr,o≠.cells cs 3 fr/\o≠.cells cs 192 fr/\o≠.cells cs 76 fr)->w'.heap[k]?=w.heap[k]?
def TFr.refl(w:World):TFr w w:=λ_ _ _ _=>rfl
def TFr.trans{w w1 w2:World}(h:TFr w w1)(h':TFr w1 w2):TFr w w2:=λk o hk a=>by
 have e:=h k o hk a;exact(h' k o (e.trans hk) a).trans e
def TFr.alloc(w:World)(o:Obj):TFr w (w.alloc o):=λk _ hk _=>heap_alloc_old _ _ (Jb hk)
def TFr.set{w:World}{p j:Nat}{u:Value}{cs0:Array Value}{fr0:Nat × Nat}(hp:w.heap[p]?=some (.cells cs0 76 fr0)):TFr w (w.setCell ⟨p,j,none⟩ u):=λk o hk c=>by
 have xA:k≠p:=by
  rintro rfl;rw[hk]at hp;exact(c _ _).2.2 (Option.some.inj hp)
 rw[heap_setCell_other _ _ _ _ (by simpa using xA)]
def TFr.grown{w w':World}{X:Obj}{b e sz n:Nat}{v:Value}{xs:List Value}(h:w.ownsRow b e sz v n xs)(he:e=3\/e=192)(hg:(w.alloc X).grownBy w' v.ownBlock):TFr w w':=λk o hk a=>by
 have hlt:=Jb hk;refine(hg.block k zr λe'=>?_).trans (heap_alloc_old _ _ hlt)
 rcases h.2 with⟨rfl,_⟩|⟨g,cap,cur,rfl,_,hg',_⟩
 ·simp[Value.ownBlock]at e'
 ·simp[Value.ownBlock]at e';subst e';rw[hk]at hg'
  rcases he with rfl|rfl
  ·exact(a _ _).1 (Option.some.inj hg')
  ·exact(a _ _).2.1 (Option.some.inj hg')
def Qav(K:MK)(w:World)(p:Nat)(s:StM)(r:Value)(e:Ending)(w':World):Prop:=e=.returned r/\MAt K w' p s/\Below (p-1) w w'/\TFr w w'
def VF(v:Int)(l:List Int):Qad (v::l).reverse=Qad l.reverse++[Iv v]:=by unfold Qad;simp
def JF(K:MK)(w:World)(p:Nat)(s:StM)(v:Int)(h:MAt K w p s)(hl:s.st.length<=1000000000000):Calls prog 115 #[Pt p,Iv v] w (Qav K w p (s.push v) (.tuple #[])):=by
 obtain⟨sv,vv,cv,fr,hb,hr⟩:=h;obtain⟨R,hR⟩:∃R,Qav K w p (s.push v) (.tuple #[])=R:=⟨_,rfl⟩
 rw[hR];have HR:Hi (R=Qav K w p (s.push v) (.tuple #[])):=hR.symm;obtain⟨i0,hi,zA,vA,bA⟩:=info_parts QcP;have hp:=Jb hb;obtain⟨a,c,rfl⟩:=Jv hr.st;have b0:w.cell? ⟨p,17,none⟩=some (.slice a s.st.length c):=Ja hb 17;have HB:=Zh hb;have HO:=Zh hr;have HP:=Zh hp;have HL:=Zh hl;clear hR hb hr hp hl;go_enter func115,ntmps115;go_wp2_with (at_builtin;go_loud (refine Ka _ rfl _ _ 29 rfl (p-1) 3 i0 (Iv 0) 1 8 underlying29 hi zA vA bA rfl zp _ _ _ rfl (HO.o.st.alloc _) ⟨w.heap.size,0,none⟩ 1 1 [Iv v] rfl rfl ?d1 ?d2 zp ?d3 ?d4 ?d5 ?d6))
 case d1=>
  intro j u hj;rw[Kw];simpa using hj
 case d2=>intro u hu;simp at hu;subst hu;rfl
 case d3=>unfold maxLen;have:=HL.o;omega
 case d4=>have:=HL.o;omega
 case d5=>simp;have:=HP.o;omega
 intro v' w' hown' hgrow hfr;have cA:(w.alloc (.cells #[Iv v] 3)).heap[p]?=some (.cells (mC K s (.slice a s.st.length c) vv cv) 76 (0,0)):=by rw[heap_alloc_old _ _ HP.o];exact HB.o
 have yA:∀k,(Value.slice a s.st.length c).ownBlock=some k->p-1<=k:=λk hk=>(HO.o.st.lt k hk).1
 have xA:=(hgrow.block p (by simp;have:=HP.o;omega) λe=>YZ HO.o.st HB.o zp e.symm).trans cA;have uA:Below (p-1) w (w.alloc (.cells #[Iv v] 3)):=zO.alloc (zu HP.o) _;have aA:=uA.grown hgrow (by simp;have:=HP.o;omega) (λk hk=>by have:=yA k hk;omega);obtain⟨a',c',rfl⟩:=Jv hown';have b1:w'.cell? ⟨p,17,none⟩=some (.slice a s.st.length c):=Ja xA 17;have f1:w'.frozen? ⟨p,17,none⟩=false:=Jc xA 17
 have HFIN:Hi (MAt K (w'.setCell ⟨p,17,none⟩ (.slice a' (s.st.length+1) c')) p (s.push v)/\Below (p-1) w (w'.setCell ⟨p,17,none⟩ (.slice a' (s.st.length+1) c'))/\TFr w (w'.setCell ⟨p,17,none⟩ (.slice a' (s.st.length+1) c'))):=by
  refine⟨⟨.slice a' (s.st.length+1) c',vv,cv,fr,Jm xA 17 _,HO.o.stk (JaX hgrow HB.o) (l:=v::s.st) ?_ (λk hk=>?_) rfl rfl rfl⟩,aA.setCell zq _,(TFr.grown HO.o.st (.inl rfl) hgrow).trans (TFr.set xA)⟩
  ·rw[VF,List.length_cons];exact KT hown' xA zp _
  ·rcases hfr with e|e
   ·exact .inl (e.symm.trans hk)
   ·rw[hk]at e;simp at e;exact .inr zo
 clear hown' hgrow hfr cA yA xA uA aA HO HP HB hi zA vA bA b0;go_wp2;go_end0;rw[HR.o];exact⟨rfl,HFIN.o⟩
def JcP{w:World}{b e sz n m c:Nat}{g:Nat}{xs:List Value}(h:w.ownsRow b e sz (.slice (some ⟨g,0,none⟩) n c) n xs)(hm:m<=n):w.ownsRow b e sz (.slice (some ⟨g,0,none⟩) m c) m (xs.take (m*sz)):=by
 have xA:m*sz<=n*sz:=Nat.mul_le_mul_right _ hm;refine⟨by rw[List.length_take,h.1];omega,?_⟩
 rcases h.2 with⟨hn,_⟩|⟨g',cap,cur,hv,hb,hg,h1,h2,h3,h4⟩
 ·cases hn
 ·simp only[Value.slice.injEq,Option.some.injEq,Addr.mk.injEq]at hv;obtain⟨⟨rfl,_⟩,_,rfl⟩:=hv;refine .inr ⟨g,c,cur,rfl,hb,hg,by omega,h2,h3,?_⟩;rw[<- h4,List.take_take]
  congr 1
  omega
def Vm{w:World}{b e sz n:Nat}{v:Value}{xs:List Value}(h:w.ownsRow b e sz v n xs)(hn:0<n):∃g c,v=.slice (some ⟨g,0,none⟩) n c:=by
 rcases h.2 with⟨_,h0⟩|⟨g,cap,cur,hv,_⟩
 ·omega
 ·exact⟨g,cap,hv⟩
def Kx(l:List Int):(Qad l).length=l.length:=by unfold Qad;simp
def Jip(w:World)(p g n c:Nat)(v:Int)(b0:w.cell? ⟨p,17,none⟩=some (.slice (some ⟨g,0,none⟩) (n+1) c))(f0:w.frozen? ⟨p,17,none⟩=false)(b1:w.cell? ⟨g,n,none⟩=some (Iv v))(kc:n+1<=c)(hl:n<=1000000000000) :
  Calls prog 116 #[Pt p] w (λe w'=>e=.returned (Iv v)/\w'=w.setCell ⟨p,17,none⟩ (.slice (some ⟨g,0,none⟩) n c)):=by
 have wk:IntKind.i64.wrap ((n:Int)+1-1)=(n:Int):=by rw[IntWalk.i64_in _ zo];omega
 have xA:IntKind.i64.wrap (((n+1:Nat):Int)-1)=(n:Int):=by rw[IntWalk.i64_in _ zo];omega
 have k0:(0:Int)<=(n:Int):=zo;have k1:(n:Int)<((n+1:Nat):Int):=zo;have k2:(n:Int)<(n:Int)+1:=zo;have k3:(n:Int)<=(c:Int):=zo;have k4:n<=c:=zo;go_enter func116,ntmps116;go_wp2;go_ret;exact⟨rfl,rfl⟩
def Qek(K:MK)(w:World)(p:Nat)(s:StM)(sv vv cv:Value)(fr:List Value):Prop:=w.heap[p]?=some (.cells (mC K s sv vv cv) 76 (0,0))/\QeY w p s sv vv cv fr
def Qek.pop{K:MK}{w:World}{p g n c:Nat}{s:StM}{vv cv:Value}{fr:List Value}{v:Int}{l:List Int}(h:Qek K w p s (.slice (some ⟨g,0,none⟩) (n+1) c) vv cv fr)(hs:s.st=v::l)(hn:l.length=n) :
  w.cell? ⟨p,17,none⟩=some (.slice (some ⟨g,0,none⟩) (n+1) c)/\w.frozen? ⟨p,17,none⟩=false/\w.cell? ⟨g,n,none⟩=some (Iv v)/\n+1<=c/\Qek K (w.setCell ⟨p,17,none⟩ (.slice (some ⟨g,0,none⟩) n c)) p { s with st:=l } (.slice (some ⟨g,0,none⟩) n c) vv cv fr:=by
 obtain⟨hb,hr⟩:=h;have xA:s.st.length=n+1:=by rw[hs,List.length_cons,hn]
 have hst:=hr.st;rw[xA]at hst
 have kc:n+1<=c:=by
  rcases hst.2 with⟨hn,_⟩|⟨g',cap,cur,hv,_,_,h1,_⟩
  ·cases hn
  ·simp only[Value.slice.injEq]at hv;omega
 refine⟨Ja hb 17,Jc hb 17,?_,kc,Jm hb 17 _,hr.stk (JbO (w:=w) (b:=p-1) (p:=p) (j:=17) (row:=(Value.slice (some ⟨g,0,none⟩) (n+1) c).ownBlock) (u:=.slice (some ⟨g,0,none⟩) n c) hb) (s':={ s with st:=l }) (sv':=.slice (some ⟨g,0,none⟩) n c) (l:=l) ?_ (λk hk=>.inl hk) rfl rfl rfl⟩
 ·rw[hst.cellAt n zo,hs,VF,List.getElem?_append_right (by rw[Kx,List.length_reverse,hn];exact Nat.le_refl _),Kx,List.length_reverse,hn,Nat.sub_self];rfl
 ·have h2:=JcP hst (m:=n) zo;rw[hs,VF,Nat.mul_one,List.take_append_of_le_length (by rw[Kx,List.length_reverse,hn];exact Nat.le_refl _),List.take_of_length_le (by rw[Kx,List.length_reverse,hn];exact Nat.le_refl _)]at h2;rw[hn];exact KT h2 hb zp _
def VY(K:MK)(w:World)(p:Nat)(s:StM)(v:Int)(l:List Int)(h:MAt K w p s)(hs:s.st=v::l)(hl:s.st.length<=1000000000001):Calls prog 116 #[Pt p] w (Qav K w p { s with st:=l } (Iv v)):=by
 obtain⟨sv,vv,cv,fr,hb,hr⟩:=h;have hst:=hr.st;have xA:s.st.length=l.length+1:=by rw[hs,List.length_cons]
 rw[xA]at hst;obtain⟨g,c,rfl⟩:=Vm hst zo;obtain⟨h1,h2,h3,h4,h5⟩:=Qek.pop (K:=K) (w:=w) ⟨hb,hr⟩ hs rfl;refine(Jip w p g l.length c v h1 h2 h3 h4 zo).mono ?_;rintro e w' ⟨rfl,rfl⟩;exact⟨rfl,⟨_,_,_,_,h5.1,h5.2⟩,zO.setCell zq _,TFr.set hb⟩
def QeY.up{w W:World}{p:Nat}{s:StM}{sv vv cv:Value}{fr:List Value}(h:QeY w p s sv vv cv fr)(hb:Below w.heap.size w W):QeY W p s sv vv cv fr:=
 ⟨JX h.st hb,JX h.vars hb,JX h.calls hb,h.frames.keep (row:=none) (λ_ _ _ _ _ _ h' _=>JX h' hb) λ_ _ _ _=>by simp,h.dis⟩
def MAt.up{K:MK}{w W:World}{p:Nat}{s:StM}(h:MAt K w p s)(hb:Below w.heap.size w W):MAt K W p s:=by
 obtain⟨sv,vv,cv,fr,h1,h2⟩:=h;exact⟨sv,vv,cv,fr,(hb.block _ (Jb h1)).trans h1,h2.up hb⟩
def MAt.lt{K:MK}{w:World}{p:Nat}{s:StM}(h:MAt K w p s):p<w.heap.size:=by
 obtain⟨sv,vv,cv,fr,h1,h2⟩:=h;exact Jb h1
def Jiq{w:World}{b g j:Nat}{u:Value}:QeG w (w.setCell ⟨g,j,none⟩ u) b (some g):=λe sz v n xs _ h hd=>by
 refine⟨h.1,?_⟩
 rcases h.2 with hn|⟨g',cap,cur,rfl,hb,hg,rest⟩
 ·exact .inl hn
 ·refine .inr ⟨g',cap,cur,rfl,hb,Ji hg (λe=>hd g' rfl (by simpa using e.symm)) u,rest⟩
def TFr.setv{w:World}{b g j n c:Nat}{xs:List Value}{u:Value}(h:w.ownsRow b 3 1 (.slice (some ⟨g,0,none⟩) n c) n xs):TFr w (w.setCell ⟨g,j,none⟩ u):=λk o hk a=>by
 have xA:k≠g:=by
  rintro rfl
  rcases h.2 with⟨hn,_⟩|⟨g',cap,cur,hv,_,hg,_⟩
  ·cases hn
  ·simp only[Value.slice.injEq,Option.some.injEq,Addr.mk.injEq]at hv;obtain⟨⟨rfl,_⟩,_,rfl⟩:=hv;rw[hk]at hg;exact(a _ _).1 (Option.some.inj hg)
 rw[heap_setCell_other _ _ _ _ (by simpa using xA)]
def JcQ(l:List Int)(j:Nat)(x:Int):(Qad l).set j (Iv x)=Qad (l.set j x):=by unfold Qad;rw[List.map_set]
def Qek.vset{K:MK}{w:World}{p g n c j:Nat}{s:StM}{sv cv:Value}{fr:List Value}(h:Qek K w p s sv (.slice (some ⟨g,0,none⟩) n c) cv fr)(hj:j<s.vars.length)(x:Int) :
  Qek K (w.setCell ⟨g,j,none⟩ (Iv x)) p { s with vars:=s.vars.set j x } sv (.slice (some ⟨g,0,none⟩) n c) cv fr/\Below (p-1) w (w.setCell ⟨g,j,none⟩ (Iv x))/\TFr w (w.setCell ⟨g,j,none⟩ (Iv x)):=by
 obtain⟨hb,hr⟩:=h;have hlt:=(hr.vars.lt g rfl).1;have yA:p≠g:=λe=>YZ hr.vars hb zp (by rw[e];rfl)
 have hn:n=s.vars.length:=by
  rcases hr.vars.2 with⟨hn,_⟩|⟨g',cap,cur,hv,_⟩
  ·cases hn
  ·simp only[Value.slice.injEq]at hv;omega
 subst hn;have hk:QeG w (w.setCell ⟨g,j,none⟩ (Iv x)) (p-1) (some g):=Jiq;have hd:=List.pairwise_cons.1 hr.dis;have xA:=List.pairwise_cons.1 hd.2;refine⟨⟨?_,?_,?_,?_,?_,hr.dis⟩,zO.setCell zr _,TFr.setv hr.vars⟩
 ·rw[heap_setCell_other _ _ _ _ zr];exact hb
 ·exact hk _ _ _ _ _ zp hr.st λk hk e=>hd.1 (.slice (some ⟨g,0,none⟩) s.vars.length c) zq k hk e
 ·have:=Jfo hr.vars (i:=j) zo (Iv x);rw[JcQ]at this;rw[List.length_set];exact this
 ·exact hk _ _ _ _ _ zp hr.calls λk hk e=>Jak hr.vars hr.calls zp g rfl (by rw[hk];exact e.symm)
 ·exact hr.frames.keep hk λv hv k hvk e=>xA.1 v hv g rfl (by rw[hvk];exact e.symm)
def Qek.drew{K:MK}{w:World}{p:Nat}{s:StM}{sv vv cv:Value}{fr:List Value}(h:Qek K w p s sv vv cv fr):Qek K w.drew p s sv vv cv fr:=⟨h.1,h.2.up zO.drew⟩
def MAt.set{K:MK}{w:World}{p j:Nat}{s s':StM}{u:Value}(h:MAt K w p s)(hc:∀sv vv cv,(mC K s sv vv cv).setIfInBounds j u=mC K s' sv vv cv)(h1:s'.st=s.st)(h2:s'.vars=s.vars)(h3:s'.calls=s.calls):MAt K (w.setCell ⟨p,j,none⟩ u) p s':=by
 obtain⟨sv,vv,cv,fr,hb,hr⟩:=h;refine⟨sv,vv,cv,fr,by rw[<- hc];exact Jm hb j u,?_⟩;have hk:=JbO (w:=w) (b:=p-1) (p:=p) (j:=j) (row:=none) (u:=u) hb;exact⟨by rw[h1];exact hk _ _ _ _ _ zp hr.st zq,by rw[h2];exact hk _ _ _ _ _ zp hr.vars zq,by rw[h3];exact hk _ _ _ _ _ zp hr.calls zq,by rw[h3];exact hr.frames.keep hk zq,hr.dis⟩
def MAt.tset{K:MK}{w:World}{p j:Nat}{s:StM}{u:Value}(h:MAt K w p s):TFr w (w.setCell ⟨p,j,none⟩ u)/\Below (p-1) w (w.setCell ⟨p,j,none⟩ u):=by
 obtain⟨sv,vv,cv,fr,hb,hr⟩:=h;exact⟨TFr.set hb,zO.setCell zq _⟩
end Go.Proofs.YtfafpklefknomaaGreatDoor
