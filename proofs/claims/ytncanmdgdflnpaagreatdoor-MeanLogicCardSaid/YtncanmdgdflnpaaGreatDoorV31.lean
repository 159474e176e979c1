
import Derived.Test.YtncanmdgdflnpaaGreatDoorV25
namespace Go.Proofs.YtncanmdgdflnpaaGreatDoor
open Go.ChangeShapes Go.WideShapes Go.ChangeAt Go.RowKit Go.Lib
open _root_.Go.Proofs.Tryz
set_option linter.all false
set_option maxRecDepth 100000
set_option maxHeartbeats 32000000
def clampI (n low high:Int):Int:=if n<low then low else if high<n then high else n
def limI (n:Int):Int:=clampI n (-1125899906842624) 1125899906842624
theorem vx107 {P:Prop}(h:P:=by
  go_enter func97,ntmps97;go_wp2;go_ret
  exact ⟨by rw[hN.out]; rfl,rfl⟩):P:=h
theorem KV (n l h:Int) (w:World):Calls prog 97 #[.int .i64 n,.int .i64 l,.int .i64 h] w (fun e w'=>e=.returned (.int .i64 (clampI n l h))∧w=w'):=by
 by_cases h1:n<l
 ·have hN:Hid (clampI n l h=l):=by unfold Hid clampI; rw[if_pos h1]
  exact vx107
 ·have hd:decide (n<l)=false:=by simpa using h1
  by_cases h2:h<n
  ·have hN:Hid (clampI n l h=h):=by unfold Hid clampI; rw[if_neg h1,if_pos h2]
   exact vx107
  ·have hd2:decide (h<n)=false:=by simpa using h2
   have hN:Hid (clampI n l h=n):=by unfold Hid clampI; rw[if_neg h1,if_neg h2]
   exact vx107
def TriPost (w:World) (n:Int) (ex neg:Bool) (e:Ending) (w':World):Prop:=e=.returned (.tuple #[.int .i64 n,.bool ex,.bool neg])∧Below w.heap.size w w'
def limB (n:Int) (ex neg:Bool):Int:=if ex=true then limI n else if neg=true then -1125899906842624 else 1125899906842624
theorem vx114 {P:Prop}(h:P:=by
  go_enter func52,ntmps52;go_wp2_with (go_at_call 53; refine hc.mono ?_; rintro e w1 ⟨rfl,hb⟩);go_ret
  exact ⟨by rw[hN.out]; rfl,hb⟩):P:=h
theorem lim33 (p q:Nat) (w:World) (n:Int) (ex neg:Bool) (hc:Calls prog 53 #[.pointer (some ⟨p,0,none⟩),.pointer (some ⟨q,0,none⟩)] w (TriPost w n ex neg)) :
  Calls prog 52 #[.func (.func 53) #[] #[.pointer (some ⟨p,0,none⟩),.pointer (some ⟨q,0,none⟩)]] w (IntPost w (limB n ex neg)):=by
 cases ex
 ·cases neg
  ·have hN:Hid (limB n false false=1125899906842624):=rfl;exact vx114
  ·have hN:Hid (limB n false true = -1125899906842624):=rfl;exact vx114
 ·have hN:Hid (limB n true neg=limI n):=rfl;have hL:Hid (limI n=clampI n (-1125899906842624) 1125899906842624):=rfl;go_enter func52,ntmps52;go_wp2_with (first | (go_at_call 53; refine hc.mono ?_; rintro e w1 ⟨rfl,hb⟩) | (go_at_call 97; refine (KV _ _ _ _).mono ?_; rintro e w2 ⟨rfl,rfl⟩));go_ret;exact ⟨by rw[hN.out,hL.out]; rfl,hb⟩
theorem vx115 {P:Prop}(h:P:=by
  go_enter func52,ntmps52;go_wp2_with (go_at_call 54; refine hc.mono ?_; rintro e w1 ⟨rfl,hb⟩);go_ret
  exact ⟨by rw[hN.out]; rfl,hb⟩):P:=h
theorem lim35 (p q:Nat) (w:World) (n:Int) (ex neg:Bool) (hc:Calls prog 54 #[.pointer (some ⟨p,0,none⟩),.pointer (some ⟨q,0,none⟩)] w (TriPost w n ex neg)) :
  Calls prog 52 #[.func (.func 54) #[] #[.pointer (some ⟨p,0,none⟩),.pointer (some ⟨q,0,none⟩)]] w (IntPost w (limB n ex neg)):=by
 cases ex
 ·cases neg
  ·have hN:Hid (limB n false false=1125899906842624):=rfl;exact vx115
  ·have hN:Hid (limB n false true = -1125899906842624):=rfl;exact vx115
 ·have hN:Hid (limB n true neg=limI n):=rfl;have hL:Hid (limI n=clampI n (-1125899906842624) 1125899906842624):=rfl;go_enter func52,ntmps52;go_wp2_with (first | (go_at_call 54; refine hc.mono ?_; rintro e w1 ⟨rfl,hb⟩) | (go_at_call 97; refine (KV _ _ _ _).mono ?_; rintro e w2 ⟨rfl,rfl⟩));go_ret;exact ⟨by rw[hN.out,hL.out]; rfl,hb⟩
theorem vx116 {P:Prop}(h:P:=by
  go_enter func52,ntmps52;go_wp2_with (go_at_call 55; refine hc.mono ?_; rintro e w1 ⟨rfl,hb⟩);go_ret
  exact ⟨by rw[hN.out]; rfl,hb⟩):P:=h
theorem lim36 (p q:Nat) (w:World) (n:Int) (ex neg:Bool) (hc:Calls prog 55 #[.pointer (some ⟨p,0,none⟩),.pointer (some ⟨q,0,none⟩)] w (TriPost w n ex neg)) :
  Calls prog 52 #[.func (.func 55) #[] #[.pointer (some ⟨p,0,none⟩),.pointer (some ⟨q,0,none⟩)]] w (IntPost w (limB n ex neg)):=by
 cases ex
 ·cases neg
  ·have hN:Hid (limB n false false=1125899906842624):=rfl;exact vx116
  ·have hN:Hid (limB n false true = -1125899906842624):=rfl;exact vx116
 ·have hN:Hid (limB n true neg=limI n):=rfl;have hL:Hid (limI n=clampI n (-1125899906842624) 1125899906842624):=rfl;go_enter func52,ntmps52;go_wp2_with (first | (go_at_call 55; refine hc.mono ?_; rintro e w1 ⟨rfl,hb⟩) | (go_at_call 97; refine (KV _ _ _ _).mono ?_; rintro e w2 ⟨rfl,rfl⟩));go_ret;exact ⟨by rw[hN.out,hL.out]; rfl,hb⟩
theorem JaJ (w:World) (v:Value) (t:Nat):(w.alloc (.cells #[v] t)).cell? ⟨w.heap.size,0,none⟩=some v:=by
 rw[cell_of_row _ _ _ _ _ (0,0) (heap_alloc_new w _)]; rfl
theorem Vw (w:World) (v u:Value) (t t':Nat):((w.alloc (.cells #[v] t)).alloc (.cells #[u] t')).cell? ⟨w.heap.size,0,none⟩=some v:=by
 rw[World.cell?_of_block (w:=w.alloc (.cells #[v] t)) (Below.heap_alloc _ _ _ (by simp))];exact JaJ w v t
theorem Vx (w:World) (v u:Value) (t t':Nat):((w.alloc (.cells #[v] t)).alloc (.cells #[u] t')).cell? ⟨w.heap.size+1,0,none⟩=some u:=by
 have h:=JaJ (w.alloc (.cells #[v] t)) u t'
 rwa [show (w.alloc (.cells #[v] t)).heap.size=w.heap.size+1 by simp] at h
theorem vx31 {P:Prop}(h:P:=by
  go_wp2;go_quiet (fail);go_wp2;go_ret3
  exact ⟨rfl,JY (Below.refl _ _) _⟩):P:=h
theorem JiU (p q:Nat) (a b:Int) (w:World) (ha:wf64 a) (hb:wf64 b) (hp:w.cell? ⟨p,0,none⟩=some (.int .i64 a)) (hq:w.cell? ⟨q,0,none⟩=some (.int .i64 b)) :
  ∃ n ex,(ex=true→n=a+b)∧(ex=false→(a<0→a+b < -9223372036854775808)∧(0≤a→9223372036854775807<a+b))∧Calls prog 53 #[.pointer (some ⟨p,0,none⟩),.pointer (some ⟨q,0,none⟩)] w (TriPost w n ex (decide (a<0))):=by
 unfold wf64 at ha hb
 by_cases hlo:a+b < -9223372036854775808
 ·have hw:wrap64 (a+b)=a+b+18446744073709551616:=by unfold wrap64; omega
  have d1:decide (a<0)=true:=decide_eq_true (by omega);have d2:decide (b<0)=true:=decide_eq_true (by omega);have d3:decide (a+b+18446744073709551616<0)=false:=decide_eq_false (by omega);refine ⟨wrap64 (a+b),false,by simp,fun _=>⟨fun _=>hlo,fun h=>by omega⟩,?_⟩;rw[d1];have HLO:=Zh hlo;clear hlo;go_enter func53,ntmps53;exact vx31
 ·by_cases hhi:9223372036854775807<a+b
  ·have hw:wrap64 (a+b)=a+b-18446744073709551616:=by unfold wrap64; omega
   have d1:decide (a<0)=false:=decide_eq_false (by omega);have d2:decide (b<0)=false:=decide_eq_false (by omega);have d3:decide (a+b-18446744073709551616<0)=true:=decide_eq_true (by omega);refine ⟨wrap64 (a+b),false,by simp,fun _=>⟨fun h=>by omega,fun _=>hhi⟩,?_⟩;rw[d1];have HHI:=Zh hhi;clear hhi hlo;go_enter func53,ntmps53;exact vx31
  ·have h1:-9223372036854775808≤a+b:=by omega
   have h2:a+b≤9223372036854775807:=by omega
   refine ⟨a+b,true,fun _=>rfl,by simp,?_⟩;clear hlo hhi
   by_cases ca:a<0
   ·have d1:decide (a<0)=true:=decide_eq_true ca;rw[d1]
    by_cases cb:b<0
    ·have d2:decide (b<0)=true:=decide_eq_true cb;have d3:decide (a+b<0)=true:=decide_eq_true (by omega);clear ca cb;go_enter func53,ntmps53;exact vx31
    ·have d2:decide (b<0)=false:=decide_eq_false cb
     skip
     clear ca cb;go_enter func53,ntmps53;exact vx31
   ·have d1:decide (a<0)=false:=decide_eq_false ca;rw[d1]
    by_cases cb:b<0
    ·have d2:decide (b<0)=true:=decide_eq_true cb
     skip
     clear ca cb;go_enter func53,ntmps53;exact vx31
    ·have d2:decide (b<0)=false:=decide_eq_false cb;have d3:decide (a+b<0)=false:=decide_eq_false (by omega);clear ca cb;go_enter func53,ntmps53;exact vx31
theorem vx63 {P:Prop}(h:P:=by
  go_wp2_with fail;rw[← hW];clear hW;refine (Calls.mono c ?_);rintro e w1 ⟨rfl,hb1⟩;go_wp2;go_ret
  exact ⟨by rw[← hR.out]; rfl,hbW.trans (hb1.mono hbW.size)⟩):P:=h
theorem vx64 {P:Prop}(h:P:=by
  unfold Hid limB
  cases ex
  ·obtain ⟨o1,o2⟩:=ho rfl;simp only[Bool.false_eq_true,if_false,decide_eq_true_eq];unfold limI clampI
   by_cases h:a<0
   ·rw[if_pos h,if_pos (by have:=o1 h; omega)]
   ·rw[if_neg h,if_neg (by have:=o2 (by omega); omega),if_pos (by have:=o2 (by omega); omega)]
  ·rw[if_pos rfl,hn rfl]):P:=h
theorem Jgy (a b:Int) (w:World) (ha:wf64 a) (hb:wf64 b):Calls prog 24 #[.int .i64 a,.int .i64 b] w (IntPost w (limI (a+b))):=by
 have hmf:∀ (fn:Fn) (first cap:Array Value) (w:World),(Instr.makeFunc fn first cap).run prog w=.ok (.func fn first cap) w:=fun _ _ _ _=>rfl
 obtain ⟨W,hW⟩:∃ W,W=(w.alloc (.cells #[.int .i64 a] 3)).alloc (.cells #[.int .i64 b] 3):=⟨_,rfl⟩
 have hbW:Below w.heap.size w W:=by rw[hW]; exact ((Below.refl _ _).alloc (Nat.le_refl _) _).alloc (by simp) _
 have hp:W.cell? ⟨w.heap.size,0,none⟩=some (.int .i64 a):=by rw[hW]; exact Vw w _ _ 3 3
 have hq:W.cell? ⟨w.heap.size+1,0,none⟩=some (.int .i64 b):=by rw[hW]; exact Vx w _ _ 3 3
 obtain ⟨n,ex,hn,ho,hc⟩:=JiU w.heap.size (w.heap.size+1) a b W ha hb hp hq;have c:=lim33 _ _ _ _ _ _ hc
 have hR:Hid (limB n ex (decide (a<0))=limI (a+b)):=by
  exact vx64
 clear hn ho hc hp hq;go_enter func24,ntmps24;exact vx63
theorem JiV (p q:Nat) (a b:Int) (w:World) (ha:wf64 a) (hb:wf64 b) (hp:w.cell? ⟨p,0,none⟩=some (.int .i64 a)) (hq:w.cell? ⟨q,0,none⟩=some (.int .i64 b)) :
  ∃ n ex,(ex=true→n=a-b)∧(ex=false→(a<0→a-b < -9223372036854775808)∧(0≤a→9223372036854775807<a-b))∧Calls prog 54 #[.pointer (some ⟨p,0,none⟩),.pointer (some ⟨q,0,none⟩)] w (TriPost w n ex (decide (a<0))):=by
 unfold wf64 at ha hb
 by_cases hlo:a-b < -9223372036854775808
 ·have hw:wrap64 (a-b)=a-b+18446744073709551616:=by unfold wrap64; omega
  have d1:decide (a<0)=true:=decide_eq_true (by omega);have d2:decide (b<0)=false:=decide_eq_false (by omega);have d3:decide (a-b+18446744073709551616<0)=false:=decide_eq_false (by omega);refine ⟨wrap64 (a-b),false,by simp,fun _=>⟨fun _=>hlo,fun h=>by omega⟩,?_⟩;rw[d1];have HLO:=Zh hlo;clear hlo;go_enter func54,ntmps54;exact vx31
 ·by_cases hhi:9223372036854775807<a-b
  ·have hw:wrap64 (a-b)=a-b-18446744073709551616:=by unfold wrap64; omega
   have d1:decide (a<0)=false:=decide_eq_false (by omega);have d2:decide (b<0)=true:=decide_eq_true (by omega);have d3:decide (a-b-18446744073709551616<0)=true:=decide_eq_true (by omega);refine ⟨wrap64 (a-b),false,by simp,fun _=>⟨fun h=>by omega,fun _=>hhi⟩,?_⟩;rw[d1];have HHI:=Zh hhi;clear hhi hlo;go_enter func54,ntmps54;exact vx31
  ·have h1:-9223372036854775808≤a-b:=by omega
   have h2:a-b≤9223372036854775807:=by omega
   refine ⟨a-b,true,fun _=>rfl,by simp,?_⟩;clear hlo hhi
   by_cases ca:a<0
   ·have d1:decide (a<0)=true:=decide_eq_true ca;rw[d1]
    by_cases cb:b<0
    ·have d2:decide (b<0)=true:=decide_eq_true cb
     skip
     clear ca cb;go_enter func54,ntmps54;exact vx31
    ·have d2:decide (b<0)=false:=decide_eq_false cb;have d3:decide (a-b<0)=true:=decide_eq_true (by omega);clear ca cb;go_enter func54,ntmps54;exact vx31
   ·have d1:decide (a<0)=false:=decide_eq_false ca;rw[d1]
    by_cases cb:b<0
    ·have d2:decide (b<0)=true:=decide_eq_true cb;have d3:decide (a-b<0)=false:=decide_eq_false (by omega);clear ca cb;go_enter func54,ntmps54;exact vx31
    ·have d2:decide (b<0)=false:=decide_eq_false cb
     skip
     clear ca cb;go_enter func54,ntmps54;exact vx31
theorem JeX (a b:Int) (w:World) (ha:wf64 a) (hb:wf64 b):Calls prog 25 #[.int .i64 a,.int .i64 b] w (IntPost w (limI (a-b))):=by
 have hmf:∀ (fn:Fn) (first cap:Array Value) (w:World),(Instr.makeFunc fn first cap).run prog w=.ok (.func fn first cap) w:=fun _ _ _ _=>rfl
 obtain ⟨W,hW⟩:∃ W,W=(w.alloc (.cells #[.int .i64 a] 3)).alloc (.cells #[.int .i64 b] 3):=⟨_,rfl⟩
 have hbW:Below w.heap.size w W:=by rw[hW]; exact ((Below.refl _ _).alloc (Nat.le_refl _) _).alloc (by simp) _
 have hp:W.cell? ⟨w.heap.size,0,none⟩=some (.int .i64 a):=by rw[hW]; exact Vw w _ _ 3 3
 have hq:W.cell? ⟨w.heap.size+1,0,none⟩=some (.int .i64 b):=by rw[hW]; exact Vx w _ _ 3 3
 obtain ⟨n,ex,hn,ho,hc⟩:=JiV w.heap.size (w.heap.size+1) a b W ha hb hp hq;have c:=lim35 _ _ _ _ _ _ hc
 have hR:Hid (limB n ex (decide (a<0))=limI (a-b)):=by
  exact vx64
 clear hn ho hc hp hq;go_enter func25,ntmps25;exact vx63
theorem Jcv (n:Int) (w:World) (h:wf64 n):Calls prog 57 #[.int .i64 n] w (fun e w'=>e=.returned (.int .u64 (n.natAbs:Int))∧w'=w):=by
 unfold wf64 at h
 by_cases h0:n<0
 ·obtain ⟨m,hm⟩:∃ m:Nat,n.natAbs=m:=⟨_,rfl⟩
  rw[hm];have hn:n = -(m:Int):=by omega
  subst hn;have hw:IntKind.u64.wrap (-IntKind.u64.wrap (-(m:Int)))=m:=by rw[IntKind.wrap_u64,IntKind.wrap_u64]; omega
  go_enter func57,ntmps57;go_wp2;go_ret;exact ⟨rfl,rfl⟩
 ·obtain ⟨m,rfl⟩:∃ m:Nat,n=m:=⟨n.toNat,by omega⟩
  have hd:decide ((m:Int)<0)=false:=by simp
  have hm:((m:Int).natAbs:Int)=m:=by simp
  rw[hm];go_enter func57,ntmps57;go_wp2;go_ret;exact ⟨rfl,rfl⟩
theorem Jgz {a b:Int}:((a.natAbs*b.natAbs:Nat):Int)=if (decide (a<0) !=decide (b<0))=true then -(a*b) else a*b:=by
 by_cases ha:a<0
 ·rw[decide_eq_true ha];obtain ⟨m,rfl⟩:∃ m:Nat,a = -(m:Int):=⟨a.natAbs,by omega⟩
  by_cases hb:b<0
  ·rw[decide_eq_true hb];obtain ⟨n,rfl⟩:∃ n:Nat,b = -(n:Int):=⟨b.natAbs,by omega⟩
   simp[Int.neg_mul_neg]
  ·rw[decide_eq_false hb];obtain ⟨n,rfl⟩:∃ n:Nat,b=(n:Int):=⟨b.natAbs,by omega⟩
   simp[Int.neg_mul]
 ·rw[decide_eq_false ha];obtain ⟨m,rfl⟩:∃ m:Nat,a=(m:Int):=⟨a.natAbs,by omega⟩
  by_cases hb:b<0
  ·rw[decide_eq_true hb];obtain ⟨n,rfl⟩:∃ n:Nat,b = -(n:Int):=⟨b.natAbs,by omega⟩
   simp[Int.mul_neg]
  ·rw[decide_eq_false hb];obtain ⟨n,rfl⟩:∃ n:Nat,b=(n:Int):=⟨b.natAbs,by omega⟩
   simp
theorem vx6 {P:Prop}(h:P:=by
  go_enter func55,ntmps55;go_wp2;go_quiet (first | (go_at_call 57; with_reducible refine (h1' _).mono ?_; exact fun e w' ⟨he,hw⟩=>⟨he,_,hw⟩) | (go_at_call 57; with_reducible refine (h2' _).mono ?_; exact fun e w' ⟨he,hw⟩=>⟨he,_,hw⟩) | (go_at_call 56; refine (h3 _).mono ?_; exact fun e w' ⟨he,hw⟩=>⟨he,_,hw⟩));go_wp2;go_ret3
  exact ⟨rfl,JY (Below.refl _ _) _⟩):P:=h
theorem vx72 {P:Prop}(h:P:=by
  have e1:((z / 18446744073709551616:Nat):Int)=0:=by omega
  have e2:((z % 18446744073709551616:Nat):Int)=z:=by omega
  rw[e1,e2] at h3;have c1:decide (9223372036854775807<(z:Int))=true:=decide_eq_true (by omega);have HS:=Zh hs;clear hs hxy hz hbig e1 e2 hzh
  exact vx6):P:=h
theorem vx19 {P:Prop}(h:P:=by
  replace hs:(z:Int) = -(a*b):=by simpa using hs
  by_cases hz:z≤9223372036854775807
  ·have c1:decide (9223372036854775807<(z:Int))=false:=decide_eq_false (by omega);have e1:((z / 18446744073709551616:Nat):Int)=0:=by omega
   have e2:((z % 18446744073709551616:Nat):Int)=z:=by omega
   rw[e1,e2] at h3;refine ⟨-(z:Int),true,true,by rw[hs,Int.neg_neg]; rfl,?_⟩;have c2:IntKind.i64.wrap (z:Int)=z:=by rw[IntKind.wrap_i64]; omega
   have c3:IntKind.i64.wrap (-(z:Int)) = -(z:Int):=by rw[IntKind.wrap_i64]; omega
   have HS:=Zh hs;clear hs e1 e2 hxy;exact vx6
  ·have hbig:limB 0 false true=limI (a*b):=by
    have h:a*b = -(z:Int):=by omega
    rw[h]; unfold limB limI clampI; simp only[Bool.false_eq_true,if_false,if_true]; rw[if_pos (by omega)]
   by_cases hzh:z / 18446744073709551616=0
   ·refine ⟨0,false,true,hbig,?_⟩;exact vx72
   ·refine ⟨0,false,true,hbig,?_⟩;have e1:(((z / 18446744073709551616:Nat):Int) !=0)=true:=by simp only[bne_iff_ne]; omega
    have HS:=Zh hs;clear hs hxy hz hbig;generalize ((z / 18446744073709551616:Nat):Int)=zh at *;generalize ((z % 18446744073709551616:Nat):Int)=zl at *
    exact vx6):P:=h
theorem vx23 {P:Prop}(h:P:=by
  replace hs:(z:Int)=a*b:=by simpa using hs
  by_cases hz:z≤9223372036854775807
  ·have c1:decide (9223372036854775807<(z:Int))=false:=decide_eq_false (by omega);have e1:((z / 18446744073709551616:Nat):Int)=0:=by omega
   have e2:((z % 18446744073709551616:Nat):Int)=z:=by omega
   rw[e1,e2] at h3;refine ⟨z,true,false,by rw[hs]; rfl,?_⟩;have c2:IntKind.i64.wrap (z:Int)=z:=by rw[IntKind.wrap_i64]; omega
   have HS:=Zh hs;clear hs e1 e2 hxy;exact vx6
  ·have hbig:limB 0 false false=limI (a*b):=by
    rw[← hs]; unfold limB limI clampI; simp only[Bool.false_eq_true,if_false]; rw[if_neg (by omega),if_pos (by omega)]
   by_cases hzh:z / 18446744073709551616=0
   ·refine ⟨0,false,false,hbig,?_⟩;exact vx72
   ·refine ⟨0,false,false,hbig,?_⟩;have e1:(((z / 18446744073709551616:Nat):Int) !=0)=true:=by simp only[bne_iff_ne]; omega
    have HS:=Zh hs;clear hs hxy hz hbig;generalize ((z / 18446744073709551616:Nat):Int)=zh at *;generalize ((z % 18446744073709551616:Nat):Int)=zl at *
    exact vx6):P:=h
theorem JiW (p q:Nat) (a b:Int) (w:World) (ha:wf64 a) (hb:wf64 b) (hp:w.cell? ⟨p,0,none⟩=some (.int .i64 a)) (hq:w.cell? ⟨q,0,none⟩=some (.int .i64 b)) :
  ∃ n ex neg,limB n ex neg=limI (a*b)∧Calls prog 55 #[.pointer (some ⟨p,0,none⟩),.pointer (some ⟨q,0,none⟩)] w (TriPost w n ex neg):=by
 have hs:=Jgz (a:=a) (b:=b);have h1:=Jcv a;have h2:=Jcv b;have hx:a.natAbs<18446744073709551616:=by unfold wf64 at ha; omega
 have hy:b.natAbs<18446744073709551616:=by unfold wf64 at hb; omega
 have h3:=Tryz.bits_Mul64 a.natAbs b.natAbs hx hy;have h1':=fun W=>h1 W ha
 have h2':=fun W=>h2 W hb
 generalize a.natAbs=x at *;generalize b.natAbs=y at *;have hxy:x*y<18446744073709551616*18446744073709551616:=Nat.mul_lt_mul'' hx hy;generalize x*y=z at *;clear h1 h2 ha hb hx hy
 cases hpa:decide (a<0)
 ·cases hpb:decide (b<0)
  ·rw[hpa,hpb] at hs;exact vx23
  ·rw[hpa,hpb] at hs;exact vx19
 ·cases hpb:decide (b<0)
  ·rw[hpa,hpb] at hs;exact vx19
  ·rw[hpa,hpb] at hs;exact vx23
theorem JhW (a b:Int) (w:World) (ha:wf64 a) (hb:wf64 b):Calls prog 26 #[.int .i64 a,.int .i64 b] w (IntPost w (limI (a*b))):=by
 have hmf:∀ (fn:Fn) (first cap:Array Value) (w:World),(Instr.makeFunc fn first cap).run prog w=.ok (.func fn first cap) w:=fun _ _ _ _=>rfl
 obtain ⟨W,hW⟩:∃ W,W=(w.alloc (.cells #[.int .i64 a] 3)).alloc (.cells #[.int .i64 b] 3):=⟨_,rfl⟩
 have hbW:Below w.heap.size w W:=by rw[hW]; exact ((Below.refl _ _).alloc (Nat.le_refl _) _).alloc (by simp) _
 have hp:W.cell? ⟨w.heap.size,0,none⟩=some (.int .i64 a):=by rw[hW]; exact Vw w _ _ 3 3
 have hq:W.cell? ⟨w.heap.size+1,0,none⟩=some (.int .i64 b):=by rw[hW]; exact Vx w _ _ 3 3
 obtain ⟨n,ex,neg,hn,hc⟩:=JiW w.heap.size (w.heap.size+1) a b W ha hb hp hq;have c:=lim36 _ _ _ _ _ _ hc;have hR:=Zh hn;clear hn hc hp hq;go_enter func26,ntmps26;exact vx63
theorem vx117 {P:Prop}(h:P:=by
  go_enter func52,ntmps52;go_wp2_with (go_at_call 58; refine hc.mono ?_; rintro e w1 ⟨rfl,hb⟩);go_ret
  exact ⟨by rw[hN.out]; rfl,hb⟩):P:=h
theorem lim27 (p q:Nat) (w:World) (n:Int) (ex neg:Bool) (hc:Calls prog 58 #[.pointer (some ⟨p,0,none⟩),.pointer (some ⟨q,0,none⟩)] w (TriPost w n ex neg)) :
  Calls prog 52 #[.func (.func 58) #[] #[.pointer (some ⟨p,0,none⟩),.pointer (some ⟨q,0,none⟩)]] w (IntPost w (limB n ex neg)):=by
 cases ex
 ·cases neg
  ·have hN:Hid (limB n false false=1125899906842624):=rfl;exact vx117
  ·have hN:Hid (limB n false true = -1125899906842624):=rfl;exact vx117
 ·have hN:Hid (limB n true neg=limI n):=rfl;have hL:Hid (limI n=clampI n (-1125899906842624) 1125899906842624):=rfl;go_enter func52,ntmps52;go_wp2_with (first | (go_at_call 58; refine hc.mono ?_; rintro e w1 ⟨rfl,hb⟩) | (go_at_call 97; refine (KV _ _ _ _).mono ?_; rintro e w2 ⟨rfl,rfl⟩));go_ret;exact ⟨by rw[hN.out,hL.out]; rfl,hb⟩
theorem vx118 {P:Prop}(h:P:=by
  go_enter func52,ntmps52;go_wp2_with (go_at_call 59; refine hc.mono ?_; rintro e w1 ⟨rfl,hb⟩);go_ret
  exact ⟨by rw[hN.out]; rfl,hb⟩):P:=h
theorem lim30 (p q:Nat) (w:World) (n:Int) (ex neg:Bool) (hc:Calls prog 59 #[.pointer (some ⟨p,0,none⟩),.pointer (some ⟨q,0,none⟩)] w (TriPost w n ex neg)) :
  Calls prog 52 #[.func (.func 59) #[] #[.pointer (some ⟨p,0,none⟩),.pointer (some ⟨q,0,none⟩)]] w (IntPost w (limB n ex neg)):=by
 cases ex
 ·cases neg
  ·have hN:Hid (limB n false false=1125899906842624):=rfl;exact vx118
  ·have hN:Hid (limB n false true = -1125899906842624):=rfl;exact vx118
 ·have hN:Hid (limB n true neg=limI n):=rfl;have hL:Hid (limI n=clampI n (-1125899906842624) 1125899906842624):=rfl;go_enter func52,ntmps52;go_wp2_with (first | (go_at_call 59; refine hc.mono ?_; rintro e w1 ⟨rfl,hb⟩) | (go_at_call 97; refine (KV _ _ _ _).mono ?_; rintro e w2 ⟨rfl,rfl⟩));go_ret;exact ⟨by rw[hN.out,hL.out]; rfl,hb⟩
theorem Jdh {a b:Int}:-(a.natAbs:Int)≤a.tdiv b∧a.tdiv b≤a.natAbs:=by
 have h:=Int.natAbs_tdiv a b;have h2:(a.tdiv b).natAbs≤a.natAbs:=by rw[h]; exact Nat.div_le_self _ _
 omega
theorem Jdi {a b:Int}:-(a.natAbs:Int)≤a.tmod b∧a.tmod b≤a.natAbs:=by
 have h:=Int.natAbs_tmod a b;have h2:(a.tmod b).natAbs≤a.natAbs:=by rw[h]; exact Nat.mod_le _ _
 omega
theorem JeY {a b:Int} (ha:wf64 a) (h:b≠-1):-9223372036854775808≤a.tdiv b∧a.tdiv b≤9223372036854775807:=by
 unfold wf64 at ha;have h0:=Jdh (a:=a) (b:=b)
 by_cases hm:a = -9223372036854775808
 ·have hn:=Int.natAbs_tdiv a b
  by_cases hb0:b=0
  ·subst hb0; simp
  ·by_cases hb1:b=1
   ·subst hb1; rw[Int.tdiv_one]; omega
   ·have h2:2≤b.natAbs:=by omega
    have h3:a.natAbs.div b.natAbs≤a.natAbs / 2:=Nat.div_le_div_left h2 (by omega);have h4:(a.tdiv b).natAbs≤a.natAbs / 2:=by rw[hn]; exact h3
    omega
 ·omega
theorem JiX (p q:Nat) (a b:Int) (w:World) (ha:wf64 a) (hb:wf64 b) (hb0:b≠0) (hp:w.cell? ⟨p,0,none⟩=some (.int .i64 b)) (hq:w.cell? ⟨q,0,none⟩=some (.int .i64 a)) :
  ∃ n ex,limB n ex false=limI (a.tdiv b)∧Calls prog 58 #[.pointer (some ⟨p,0,none⟩),.pointer (some ⟨q,0,none⟩)] w (TriPost w n ex false):=by
 by_cases h1:b = -1
 ·subst h1;have ht:a.tdiv (-1) = -a:=by rw[Int.tdiv_neg,Int.tdiv_one]
  by_cases hm:a = -9223372036854775808
  ·subst hm;refine ⟨wrap64 9223372036854775808,false,rfl,?_⟩;clear ht;go_enter func58,ntmps58;exact vx31
  ·refine ⟨-a,true,by rw[ht]; rfl,?_⟩;unfold wf64 at ha;have hme2:(a == -9223372036854775808)=false:=by simpa using hm
   have hme3:(a !=-9223372036854775808)=true:=by simpa using hm
   have hr1:-9223372036854775808≤-a:=by omega
   have hr2:-a≤9223372036854775807:=by omega
   have hw:IntKind.i64.wrap (-a) = -a:=by rw[IntKind.wrap_i64]; omega
   clear ht hm;go_enter func58,ntmps58;exact vx31
 ·refine ⟨a.tdiv b,true,rfl,?_⟩;have hr:=JeY ha h1;have hr1:=hr.1;have hr2:=hr.2;have hw:wrap64 (a.tdiv b)=a.tdiv b:=by unfold wrap64; omega
  have d1:(b == -1)=false:=by simpa using h1
  have d2:(b==0)=false:=by simpa using hb0
  clear h1 ha hb hr;go_enter func58,ntmps58;go_wp2;go_ret3;exact ⟨rfl,Below.refl _ _⟩
theorem JiY (p q:Nat) (a b:Int) (w:World) (ha:wf64 a) (hb:wf64 b) (hb0:b≠0) (hp:w.cell? ⟨p,0,none⟩=some (.int .i64 b)) (hq:w.cell? ⟨q,0,none⟩=some (.int .i64 a)) :
  Calls prog 59 #[.pointer (some ⟨p,0,none⟩),.pointer (some ⟨q,0,none⟩)] w (TriPost w (a.tmod b) true false):=by
 by_cases h1:b = -1
 ·subst h1;have ht:a.tmod (-1)=0:=by rw[Int.tmod_neg,Int.tmod_one]
  rw[ht];clear ht;go_enter func59,ntmps59;go_wp2;go_ret3;exact ⟨rfl,Below.refl _ _⟩
 ·have hr:=Jdi (a:=a) (b:=b)
  have hr1:-9223372036854775808≤a.tmod b:=by
   have hn:=Int.natAbs_tmod a b;unfold wf64 at ha hb;have:(a.tmod b).natAbs≤9223372036854775808:=by rw[hn]; have:=Nat.mod_le a.natAbs b.natAbs; omega
   omega
  have hr2:a.tmod b≤9223372036854775807:=by
   have hn:=Int.natAbs_tmod a b;unfold wf64 at ha hb;have hbp:0<b.natAbs:=by omega
   have h5:=Nat.mod_lt a.natAbs hbp;have:(a.tmod b).natAbs<9223372036854775808:=by rw[hn]; omega
   omega
  have hw:wrap64 (a.tmod b)=a.tmod b:=by unfold wrap64; omega
  have d1:(b == -1)=false:=by simpa using h1
  have d2:(b==0)=false:=by simpa using hb0
  clear h1 ha hb hr;go_enter func59,ntmps59;go_wp2;go_ret3;exact ⟨rfl,Below.refl _ _⟩
def NTwoP (w:World) (n:Int) (ok:Bool) (e:Ending) (w':World):Prop:=e=.returned (.tuple #[.int .i64 n,.bool ok])∧Below w.heap.size w w'
theorem vx110 {P:Prop}(h:P:=by
  go_wp2_with fail;rw[← hW];clear hW;refine (Calls.mono c ?_);rintro e w1 ⟨rfl,hb1⟩;go_wp2;go_ret2
  exact ⟨by rfl,hbW.trans (hb1.mono hbW.size)⟩):P:=h
theorem JhX (a b:Int) (w:World) (ha:wf64 a) (hb:wf64 b):Calls prog 27 #[.int .i64 a,.int .i64 b] w (NTwoP w (if b=0 then 0 else limI (a.tdiv b)) (decide (b≠0))):=by
 have hmf:∀ (fn:Fn) (first cap:Array Value) (w:World),(Instr.makeFunc fn first cap).run prog w=.ok (.func fn first cap) w:=fun _ _ _ _=>rfl
 obtain ⟨W,hW⟩:∃ W,W=(w.alloc (.cells #[.int .i64 a] 3)).alloc (.cells #[.int .i64 b] 3):=⟨_,rfl⟩
 have hbW:Below w.heap.size w W:=by rw[hW]; exact ((Below.refl _ _).alloc (Nat.le_refl _) _).alloc (by simp) _
 by_cases h0:b=0
 ·subst h0;clear hW;go_enter func27,ntmps27;go_wp2;go_ret2;exact ⟨rfl,((Below.refl _ _).alloc (Nat.le_refl _) _).alloc (by simp) _⟩
 ·have hp:W.cell? ⟨w.heap.size,0,none⟩=some (.int .i64 a):=by rw[hW]; exact Vw w _ _ 3 3
  have hq:W.cell? ⟨w.heap.size+1,0,none⟩=some (.int .i64 b):=by rw[hW]; exact Vx w _ _ 3 3
  obtain ⟨n,ex,hn,hc⟩:=JiX (w.heap.size+1) w.heap.size a b W ha hb h0 hq hp;have c:=lim27 _ _ _ _ _ _ hc;clear hc hp hq;go_enter func27,ntmps27;exact vx110
theorem JhY (a b:Int) (w:World) (ha:wf64 a) (hb:wf64 b):Calls prog 28 #[.int .i64 a,.int .i64 b] w (NTwoP w (if b=0 then 0 else limI (a.tmod b)) (decide (b≠0))):=by
 have hmf:∀ (fn:Fn) (first cap:Array Value) (w:World),(Instr.makeFunc fn first cap).run prog w=.ok (.func fn first cap) w:=fun _ _ _ _=>rfl
 obtain ⟨W,hW⟩:∃ W,W=(w.alloc (.cells #[.int .i64 a] 3)).alloc (.cells #[.int .i64 b] 3):=⟨_,rfl⟩
 have hbW:Below w.heap.size w W:=by rw[hW]; exact ((Below.refl _ _).alloc (Nat.le_refl _) _).alloc (by simp) _
 by_cases h0:b=0
 ·subst h0;clear hW;go_enter func28,ntmps28;go_wp2;go_ret2;exact ⟨rfl,((Below.refl _ _).alloc (Nat.le_refl _) _).alloc (by simp) _⟩
 ·have hp:W.cell? ⟨w.heap.size,0,none⟩=some (.int .i64 a):=by rw[hW]; exact Vw w _ _ 3 3
  have hq:W.cell? ⟨w.heap.size+1,0,none⟩=some (.int .i64 b):=by rw[hW]; exact Vx w _ _ 3 3
  have hc:=JiY (w.heap.size+1) w.heap.size a b W ha hb h0 hq hp;have c:=lim30 _ _ _ _ _ _ hc;clear hc hp hq;go_enter func28,ntmps28;exact vx110
end Go.Proofs.YtncanmdgdflnpaaGreatDoor
