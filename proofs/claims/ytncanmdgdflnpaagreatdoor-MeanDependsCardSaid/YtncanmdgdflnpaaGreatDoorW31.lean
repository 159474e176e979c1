
import Derived.Test.YtncanmdgdflnpaaGreatDoorW30
namespace Go.Proofs.YtncanmdgdflnpaaGreatDoor
open Go.ChangeShapes Go.WideShapes Go.ChangeAt Go.RowKit Go.Lib
open _root_.Go.Proofs.Tryz
set_option linter.all false
set_option maxRecDepth 100000
set_option maxHeartbeats 32000000
theorem wx110 {P:Prop}(h:P:=by
  go_enter func52,ntmps52;go_wp2_with (go_at_call 58; refine hc.mono ?_; rintro e w1 ⟨rfl,hb⟩);go_ret
  exact ⟨by rw[hN.out]; rfl,hb⟩):P:=h
theorem lim27 (p q:Nat) (w:World) (n:Int) (ex neg:Bool) (hc:Calls prog 58 #[.pointer (some ⟨p,0,none⟩),.pointer (some ⟨q,0,none⟩)] w (TriPost w n ex neg)) :
  Calls prog 52 #[.func (.func 58) #[] #[.pointer (some ⟨p,0,none⟩),.pointer (some ⟨q,0,none⟩)]] w (IntPost w (limB n ex neg)):=by
 cases ex
 ·cases neg
  ·have hN:Hid (limB n false false=1125899906842624):=rfl;exact wx110
  ·have hN:Hid (limB n false true = -1125899906842624):=rfl;exact wx110
 ·have hN:Hid (limB n true neg=limI n):=rfl;have hL:Hid (limI n=clampI n (-1125899906842624) 1125899906842624):=rfl;go_enter func52,ntmps52;go_wp2_with (first | (go_at_call 58; refine hc.mono ?_; rintro e w1 ⟨rfl,hb⟩) | (go_at_call 97; refine (K7 _ _ _ _).mono ?_; rintro e w2 ⟨rfl,rfl⟩));go_ret;exact ⟨by rw[hN.out,hL.out]; rfl,hb⟩
theorem wx111 {P:Prop}(h:P:=by
  go_enter func52,ntmps52;go_wp2_with (go_at_call 59; refine hc.mono ?_; rintro e w1 ⟨rfl,hb⟩);go_ret
  exact ⟨by rw[hN.out]; rfl,hb⟩):P:=h
theorem lim30 (p q:Nat) (w:World) (n:Int) (ex neg:Bool) (hc:Calls prog 59 #[.pointer (some ⟨p,0,none⟩),.pointer (some ⟨q,0,none⟩)] w (TriPost w n ex neg)) :
  Calls prog 52 #[.func (.func 59) #[] #[.pointer (some ⟨p,0,none⟩),.pointer (some ⟨q,0,none⟩)]] w (IntPost w (limB n ex neg)):=by
 cases ex
 ·cases neg
  ·have hN:Hid (limB n false false=1125899906842624):=rfl;exact wx111
  ·have hN:Hid (limB n false true = -1125899906842624):=rfl;exact wx111
 ·have hN:Hid (limB n true neg=limI n):=rfl;have hL:Hid (limI n=clampI n (-1125899906842624) 1125899906842624):=rfl;go_enter func52,ntmps52;go_wp2_with (first | (go_at_call 59; refine hc.mono ?_; rintro e w1 ⟨rfl,hb⟩) | (go_at_call 97; refine (K7 _ _ _ _).mono ?_; rintro e w2 ⟨rfl,rfl⟩));go_ret;exact ⟨by rw[hN.out,hL.out]; rfl,hb⟩
theorem JdW {a b:Int}:-(a.natAbs:Int)≤a.tdiv b∧a.tdiv b≤a.natAbs:=by
 have h:=Int.natAbs_tdiv a b;have h2:(a.tdiv b).natAbs≤a.natAbs:=by rw[h]; exact Nat.div_le_self _ _
 omega
theorem JdX {a b:Int}:-(a.natAbs:Int)≤a.tmod b∧a.tmod b≤a.natAbs:=by
 have h:=Int.natAbs_tmod a b;have h2:(a.tmod b).natAbs≤a.natAbs:=by rw[h]; exact Nat.mod_le _ _
 omega
theorem JfM {a b:Int} (ha:wf64 a) (h:b≠-1):-9223372036854775808≤a.tdiv b∧a.tdiv b≤9223372036854775807:=by
 unfold wf64 at ha;have h0:=JdW (a:=a) (b:=b)
 by_cases hm:a = -9223372036854775808
 ·have hn:=Int.natAbs_tdiv a b
  by_cases hb0:b=0
  ·subst hb0; simp
  ·by_cases hb1:b=1
   ·subst hb1; rw[Int.tdiv_one]; omega
   ·have h2:2≤b.natAbs:=by omega
    have h3:a.natAbs.div b.natAbs≤a.natAbs / 2:=Nat.div_le_div_left h2 (by omega);have h4:(a.tdiv b).natAbs≤a.natAbs / 2:=by rw[hn]; exact h3
    omega
 ·omega
theorem Jki (p q:Nat) (a b:Int) (w:World) (ha:wf64 a) (hb:wf64 b) (hb0:b≠0) (hp:w.cell? ⟨p,0,none⟩=some (.int .i64 b)) (hq:w.cell? ⟨q,0,none⟩=some (.int .i64 a)) :
  ∃ n ex,limB n ex false=limI (a.tdiv b)∧Calls prog 58 #[.pointer (some ⟨p,0,none⟩),.pointer (some ⟨q,0,none⟩)] w (TriPost w n ex false):=by
 by_cases h1:b = -1
 ·subst h1;have ht:a.tdiv (-1) = -a:=by rw[Int.tdiv_neg,Int.tdiv_one]
  by_cases hm:a = -9223372036854775808
  ·subst hm;refine ⟨wrap64 9223372036854775808,false,rfl,?_⟩;clear ht;go_enter func58,ntmps58;exact wx29
  ·refine ⟨-a,true,by rw[ht]; rfl,?_⟩;unfold wf64 at ha;have hme2:(a == -9223372036854775808)=false:=by simpa using hm
   have hme3:(a !=-9223372036854775808)=true:=by simpa using hm
   have hr1:-9223372036854775808≤-a:=by omega
   have hr2:-a≤9223372036854775807:=by omega
   have hw:IntKind.i64.wrap (-a) = -a:=by rw[IntKind.wrap_i64]; omega
   clear ht hm;go_enter func58,ntmps58;exact wx29
 ·refine ⟨a.tdiv b,true,rfl,?_⟩;have hr:=JfM ha h1;have hr1:=hr.1;have hr2:=hr.2;have hw:wrap64 (a.tdiv b)=a.tdiv b:=by unfold wrap64; omega
  have d1:(b == -1)=false:=by simpa using h1
  have d2:(b==0)=false:=by simpa using hb0
  clear h1 ha hb hr;go_enter func58,ntmps58;go_wp2;go_ret3;exact ⟨rfl,Below.refl _ _⟩
theorem Jkj (p q:Nat) (a b:Int) (w:World) (ha:wf64 a) (hb:wf64 b) (hb0:b≠0) (hp:w.cell? ⟨p,0,none⟩=some (.int .i64 b)) (hq:w.cell? ⟨q,0,none⟩=some (.int .i64 a)) :
  Calls prog 59 #[.pointer (some ⟨p,0,none⟩),.pointer (some ⟨q,0,none⟩)] w (TriPost w (a.tmod b) true false):=by
 by_cases h1:b = -1
 ·subst h1;have ht:a.tmod (-1)=0:=by rw[Int.tmod_neg,Int.tmod_one]
  rw[ht];clear ht;go_enter func59,ntmps59;go_wp2;go_ret3;exact ⟨rfl,Below.refl _ _⟩
 ·have hr:=JdX (a:=a) (b:=b)
  have hr1:-9223372036854775808≤a.tmod b:=by
   have hn:=Int.natAbs_tmod a b;unfold wf64 at ha hb;have:(a.tmod b).natAbs≤9223372036854775808:=by rw[hn]; have:=Nat.mod_le a.natAbs b.natAbs; omega
   omega
  have hr2:a.tmod b≤9223372036854775807:=by
   have hn:=Int.natAbs_tmod a b;unfold wf64 at ha hb;have hbp:0<b.natAbs:=by omega
   have h5:=Nat.mod_lt a.natAbs hbp;have:(a.tmod b).natAbs<9223372036854775808:=by rw[hn]; omega
   omega
  have hw:wrap64 (a.tmod b)=a.tmod b:=by unfold wrap64; omega
  have d1:(b == -1)=false:=by simpa using h1
  have d2:(b==0)=false:=by simpa using hb0
  clear h1 ha hb hr;go_enter func59,ntmps59;go_wp2;go_ret3;exact ⟨rfl,Below.refl _ _⟩
def NTwoP (w:World) (n:Int) (ok:Bool) (e:Ending) (w':World):Prop:=e=.returned (.tuple #[.int .i64 n,.bool ok])∧Below w.heap.size w w'
theorem wx103 {P:Prop}(h:P:=by
  go_wp2_with fail;rw[← hW];clear hW;refine (Calls.mono c ?_);rintro e w1 ⟨rfl,hb1⟩;go_wp2;go_ret2
  exact ⟨by rfl,hbW.trans (hb1.mono hbW.size)⟩):P:=h
theorem Jjg (a b:Int) (w:World) (ha:wf64 a) (hb:wf64 b):Calls prog 27 #[.int .i64 a,.int .i64 b] w (NTwoP w (if b=0 then 0 else limI (a.tdiv b)) (decide (b≠0))):=by
 have hmf:∀ (fn:Fn) (first cap:Array Value) (w:World),(Instr.makeFunc fn first cap).run prog w=.ok (.func fn first cap) w:=fun _ _ _ _=>rfl
 obtain ⟨W,hW⟩:∃ W,W=(w.alloc (.cells #[.int .i64 a] 3)).alloc (.cells #[.int .i64 b] 3):=⟨_,rfl⟩
 have hbW:Below w.heap.size w W:=by rw[hW]; exact (zzb.alloc zzl _).alloc (by simp) _
 by_cases h0:b=0
 ·subst h0;clear hW;go_enter func27,ntmps27;go_wp2;go_ret2;exact ⟨rfl,(zzb.alloc zzl _).alloc (by simp) _⟩
 ·have hp:W.cell? ⟨w.heap.size,0,none⟩=some (.int .i64 a):=by rw[hW]; exact VK w _ _ 3 3
  have hq:W.cell? ⟨w.heap.size+1,0,none⟩=some (.int .i64 b):=by rw[hW]; exact VL w _ _ 3 3
  obtain ⟨n,ex,hn,hc⟩:=Jki (w.heap.size+1) w.heap.size a b W ha hb h0 hq hp;have c:=lim27 _ _ _ _ _ _ hc;clear hc hp hq;go_enter func27,ntmps27;exact wx103
theorem Jjh (a b:Int) (w:World) (ha:wf64 a) (hb:wf64 b):Calls prog 28 #[.int .i64 a,.int .i64 b] w (NTwoP w (if b=0 then 0 else limI (a.tmod b)) (decide (b≠0))):=by
 have hmf:∀ (fn:Fn) (first cap:Array Value) (w:World),(Instr.makeFunc fn first cap).run prog w=.ok (.func fn first cap) w:=fun _ _ _ _=>rfl
 obtain ⟨W,hW⟩:∃ W,W=(w.alloc (.cells #[.int .i64 a] 3)).alloc (.cells #[.int .i64 b] 3):=⟨_,rfl⟩
 have hbW:Below w.heap.size w W:=by rw[hW]; exact (zzb.alloc zzl _).alloc (by simp) _
 by_cases h0:b=0
 ·subst h0;clear hW;go_enter func28,ntmps28;go_wp2;go_ret2;exact ⟨rfl,(zzb.alloc zzl _).alloc (by simp) _⟩
 ·have hp:W.cell? ⟨w.heap.size,0,none⟩=some (.int .i64 a):=by rw[hW]; exact VK w _ _ 3 3
  have hq:W.cell? ⟨w.heap.size+1,0,none⟩=some (.int .i64 b):=by rw[hW]; exact VL w _ _ 3 3
  have hc:=Jkj (w.heap.size+1) w.heap.size a b W ha hb h0 hq hp;have c:=lim30 _ _ _ _ _ _ hc;clear hc hp hq;go_enter func28,ntmps28;exact wx103
def LabsAt (W:World) (v:Value) (l:List (List UInt8 × Int)):Prop:=SliceOf W (In W) (fun a c=>c=[.string (bs a.1),.int .i64 a.2]) l v
def WordsAt (W:World) (v:Value) (l:List (List UInt8)):Prop:=SliceOf W (In W) (fun a c=>c=[.string (bs a)]) l v
theorem LabsAt.up {w W:World} {v:Value} {l:List (List UInt8 × Int)} (h:LabsAt w v l) (hb:Below w.heap.size w W):LabsAt W v l:=SliceOf.keep (fun b hP=>hb.block b hP) (fun b hP=>In.up hb hP) (fun a c h=>h) h
theorem WordsAt.up {w W:World} {v:Value} {l:List (List UInt8)} (h:WordsAt w v l) (hb:Below w.heap.size w W):WordsAt W v l:=SliceOf.keep (fun b hP=>hb.block b hP) (fun b hP=>In.up hb hP) (fun a c h=>h) h
theorem LabsAt.form {W:World} {v:Value} {l:List (List UInt8 × Int)} (h:LabsAt W v l):∃ ad cc,v=.slice ad l.length cc∧l.length≤cc:=by
 obtain ⟨ad,cc,h1,h2,_⟩:=SliceOf.get (m:=2) (fun a c h=>by rw[h]; rfl) h;exact ⟨ad,cc,h1,h2⟩
theorem WordsAt.form {W:World} {v:Value} {l:List (List UInt8)} (h:WordsAt W v l):∃ ad cc,v=.slice ad l.length cc∧l.length≤cc:=by
 obtain ⟨ad,cc,h1,h2,_⟩:=SliceOf.get (m:=1) (fun a c h=>by rw[h]; rfl) h;exact ⟨ad,cc,h1,h2⟩
theorem LabsAt.get {W:World} {ad:Option Addr} {m cc:Nat} {l:List (List UInt8 × Int)} (h:LabsAt W (.slice ad m cc) l) {i:Nat} {a:List UInt8 × Int} (hi:l[i]?=some a):∃ b o,ad=some ⟨b,o,none⟩∧b<W.heap.size∧W.cell? ⟨b,o+i*2,none⟩=some (.string (bs a.1))∧W.cell? ⟨b,o+i*2+1,none⟩=some (.int .i64 a.2):=by
 obtain ⟨ad',cc',h1,_,h3⟩:=SliceOf.get (m:=2) (fun a c h=>by rw[h]; rfl) h;injection h1 with e1 e2 e3;subst e1;obtain ⟨b,o,h4,h5,h6⟩:=h3 (List.ne_nil_of_mem (List.mem_of_getElem? hi));obtain ⟨c,rfl,h10⟩:=h6 i a hi;exact ⟨b,o,h4,h5,h10 0 _ rfl,h10 1 _ rfl⟩
theorem WordsAt.get {W:World} {ad:Option Addr} {m cc:Nat} {l:List (List UInt8)} (h:WordsAt W (.slice ad m cc) l) {i:Nat} {a:List UInt8} (hi:l[i]?=some a):∃ b o,ad=some ⟨b,o,none⟩∧b<W.heap.size∧W.cell? ⟨b,o+i,none⟩=some (.string (bs a)):=by
 obtain ⟨ad',cc',h1,_,h3⟩:=SliceOf.get (m:=1) (fun a c h=>by rw[h]; rfl) h;injection h1 with e1 e2 e3;subst e1;obtain ⟨b,o,h4,h5,h6⟩:=h3 (List.ne_nil_of_mem (List.mem_of_getElem? hi));obtain ⟨c,rfl,h10⟩:=h6 i a hi;have:=h10 0 _ rfl;rw[Nat.mul_one] at this;exact ⟨b,o,h4,h5,this⟩
def factsC (F:FactsM) (lv wv:Value):Array Value:=#[lv,.int .i64 F.likes,.int .i64 F.boosts,.int .i64 F.replies,.int .i64 F.reports,.int .i64 F.age,.int .i64 F.home,.int .i64 F.scope,.int .i64 F.length,.bool F.follows,.bool F.reply,wv]
structure RunK where
 w0:World
 p:Nat
 fa:Option Addr
 fc:Nat
 ca:Option Addr
 cc:Nat
 la:Option Addr
 lc:Nat
 wa:Option Addr
 wc:Nat
 r:RuleM
 F:FactsM
def RunK.cells (K:RunK) (u c:Nat):Array Value:=#[.slice K.fa K.r.funcs.length K.fc,.slice K.ca K.r.clauses.length K.cc,.int .i64 K.r.action,
 .slice K.la K.F.labels.length K.lc,.int .i64 K.F.likes,.int .i64 K.F.boosts,.int .i64 K.F.replies,.int .i64 K.F.reports,.int .i64 K.F.age,.int .i64 K.F.home,.int .i64 K.F.scope,.int .i64 K.F.length,.bool K.F.follows,.bool K.F.reply,.slice K.wa K.F.words.length K.wc,
 .int .i64 u,.int .i64 c]
structure FSz (F:FactsM):Prop where
 nl:F.labels.length≤1000000
 nw:F.words.length≤1000000
structure RunK.Ok (K:RunK):Prop where
 fns:FnxAt K.w0 (.slice K.fa K.r.funcs.length K.fc) K.r.funcs
 cls:ClxAt K.w0 (.slice K.ca K.r.clauses.length K.cc) K.r.clauses
 labs:LabsAt K.w0 (.slice K.la K.F.labels.length K.lc) K.F.labels
 words:WordsAt K.w0 (.slice K.wa K.F.words.length K.wc) K.F.words
 rsz:RSz K.r
 fsz:FSz K.F
 tr:treesM K.r=true
 ty:typedM K.r=true
 facts:factsM K.F=true
 num:K.w0.heap.size≤K.p
structure MrAt (K:RunK) (W:World) (u c:Nat):Prop where
 self:W.heap[K.p]?=some (.cells (K.cells u c) 82 (0,0))
 bel:Bel K.w0 W
section
variable {K:RunK} {W W':World} {u c:Nat}
theorem MrAt.lt (h:MrAt K W u c):K.p<W.heap.size:=Jb h.self
theorem MrAt.up (h:MrAt K W u c) (hb:Below W.heap.size W W'):MrAt K W' u c:=⟨(hb.block _ h.lt).trans h.self,Je h.bel hb⟩
theorem MrAt.drew (h:MrAt K W u c):MrAt K W.drew u c:=⟨h.self,h.bel.drew⟩
theorem MrAt.setU (hk:K.Ok) (h:MrAt K W u c) (u':Nat):MrAt K (W.setCell ⟨K.p,15,none⟩ (.int .i64 u')) u' c:=by
 refine ⟨?_,Below.setCell h.bel hk.num _⟩;rw[JC h.self];rfl
theorem MrAt.setC (hk:K.Ok) (h:MrAt K W u c) (c':Nat):MrAt K (W.setCell ⟨K.p,16,none⟩ (.int .i64 c')) u c':=by
 refine ⟨?_,Below.setCell h.bel hk.num _⟩;rw[JC h.self];rfl
end
def EvP (K:RunK) (W:World) (c:Nat):RN Int→Ending→World→Prop
 | .val v u,e,w'=>e=.returned (.int .i64 v)∧MrAt K w' u c∧Chg [K.p] W w'
 | .fault er u,e,w'=>e=.panicked [{ v:=.iface 83 (.int .i64 er),recovered:=false }]∧(∃ c',MrAt K w' u c')∧Chg [K.p] W w'
theorem Jai (b:Bool) (w:World):Calls prog 109 #[.bool b] w (Same (.int .i64 (bitI b)) w):=by
 cases b with
 | false=>
  go_enter func109,ntmps109;go_wp2;go_ret;exact ⟨rfl,rfl⟩
 | true=>
  go_enter func109,ntmps109;go_wp2;go_ret;exact ⟨rfl,rfl⟩
theorem JdY (n:Int) (w:World):Calls prog 110 #[.int .i64 n,.bool true] w (Same (.int .i64 n) w):=by
 go_enter func110,ntmps110;go_wp2;go_ret;exact ⟨rfl,rfl⟩
theorem JdZ (n:Int) (w:World):Calls prog 110 #[.int .i64 n,.bool false] w (fun e w'=>e=.panicked [{ v:=.iface 83 (.int .i64 1),recovered:=false }]∧w'=w):=by
 go_enter func110,ntmps110;go_wp2;exact ⟨rfl,rfl,rfl⟩
def StepP (K:RunK) (W:World) (u c:Nat) (e:Ending) (w':World):Prop:=
 if u=10000 then e=.panicked [{ v:=.iface 83 (.int .i64 14),recovered:=false }]∧w'=W
 else e=.returned (.tuple #[])∧MrAt K w' (u+1) c∧Chg [K.p] W w'
theorem Y2 (K:RunK) (hk:K.Ok) (W:World) (u c:Nat) (h:MrAt K W u c) (hu:u≤10000):Calls prog 41 #[.pointer (some ⟨K.p,0,none⟩)] W (StepP K W u c):=by
 have b15:=Ja h.self 15;have f15:=Jc h.self 15;have hlt:=h.lt;have HS:=Zh (h.setU hk (u+1));have HC:Hid (Chg [K.p] W (W.setCell ⟨K.p,15,none⟩ (.int .i64 ((u+1:Nat):Int)))):=(Chg.refl _ _).setCell (.inl (by simp)) _;rw[show (K.cells u c)[15]?=some (.int .i64 u) from rfl] at b15;rw[Int.natCast_add,Int.natCast_one] at HS HC;clear h
 by_cases h:u=10000
 ·have hq:StepP K W u c=fun e w'=>e=.panicked [{ v:=.iface 83 (.int .i64 14),recovered:=false }]∧w'=W:=by
   funext e w'
   unfold StepP;rw[if_pos h]
  rw[hq];clear hq;subst h;rw[show ((10000:Nat):Int)=10000 from rfl] at b15;clear HS HC;go_enter func41,ntmps41;go_wp2;exact ⟨rfl,rfl,rfl⟩
 ·have hq:StepP K W u c=fun e w'=>e=.returned (.tuple #[])∧MrAt K w' (u+1) c∧Chg [K.p] W w':=by
   funext e w'
   unfold StepP;rw[if_neg h]
  rw[hq];clear hq;have e0:((u:Int)==10000)=false:=zzq (by omega);have e0N:(u==10000)=false:=zzq h;have wu:IntKind.i64.wrap ((u:Int)+1)=(u:Int)+1:=IntWalk.i64_in _ (by omega);clear h;go_enter func41,ntmps41;go_wp2;go_end0;exact ⟨rfl,HS.out,HC.out⟩
theorem Jji (F:FactsM) (s:List UInt8):factV F s=if s=fLikes then F.likes else if s=fBoosts then F.boosts else if s=fReplies then F.replies else if s=fReports then F.reports
 else if s=fAge then F.age else if s=fHome then F.home else if s=fScope then F.scope else if s=fLength then F.length
 else if s=fFollows then bitI F.follows else bitI F.reply:=rfl
theorem JfN (K:RunK) (hk:K.Ok) (W:World) (u c:Nat) (h:MrAt K W u c) (s:List UInt8):Calls prog 78 #[.pointer (some ⟨K.p,0,none⟩),.string (bs s)] W (BelP W (.int .i64 (factV K.F s))):=by
 have u1:=Jk s;rw[Jji];have hb:Below W.heap.size W (W.alloc (.cells (factsC K.F (.slice K.la K.F.labels.length K.lc) (.slice K.wa K.F.words.length K.wc)) 25)):=zzb.alloc zzl _;have HB:=Zh hb;have HCP:=Zh (zzw W (.cells (factsC K.F (.slice K.la K.F.labels.length K.lc) (.slice K.wa K.F.words.length K.wc)) 25));have hrow:=fun j=>Ja h.self j
 unfold factsC at HB HCP;have b3:W.cell? ⟨K.p,3,none⟩=some (.slice K.la K.F.labels.length K.lc):=hrow 3;have b4:W.cell? ⟨K.p,4,none⟩=some (.int .i64 K.F.likes):=hrow 4;have b5:W.cell? ⟨K.p,5,none⟩=some (.int .i64 K.F.boosts):=hrow 5;have b6:W.cell? ⟨K.p,6,none⟩=some (.int .i64 K.F.replies):=hrow 6;have b7:W.cell? ⟨K.p,7,none⟩=some (.int .i64 K.F.reports):=hrow 7;have b8:W.cell? ⟨K.p,8,none⟩=some (.int .i64 K.F.age):=hrow 8;have b9:W.cell? ⟨K.p,9,none⟩=some (.int .i64 K.F.home):=hrow 9;have b10:W.cell? ⟨K.p,10,none⟩=some (.int .i64 K.F.scope):=hrow 10;have b11:W.cell? ⟨K.p,11,none⟩=some (.int .i64 K.F.length):=hrow 11;have b12:W.cell? ⟨K.p,12,none⟩=some (.bool K.F.follows):=hrow 12;have b13:W.cell? ⟨K.p,13,none⟩=some (.bool K.F.reply):=hrow 13;have b14:W.cell? ⟨K.p,14,none⟩=some (.slice K.wa K.F.words.length K.wc):=hrow 14;have cbf:=fun W=>Jai K.F.follows W
 have cbr:=fun W=>Jai K.F.reply W
 generalize bitI K.F.follows=xf at *;generalize bitI K.F.reply=xr at *;generalize K.F.likes=xLikes at *;generalize K.F.boosts=xBoosts at *;generalize K.F.replies=xReplies at *;generalize K.F.reports=xReports at *;generalize K.F.age=xAge at *;generalize K.F.home=xHome at *;generalize K.F.scope=xScope at *;generalize K.F.length=xLength at *;generalize K.F.follows=xFollows at *;generalize K.F.reply=xReply at *;generalize K.F.labels.length=nl at *;generalize K.F.words.length=nw at *;clear hrow h hb
 by_cases h0:s=fLikes
 ·have e0:(s==[108,105,107,101,115])=true:=beq_iff_eq.2 h0;rw[if_pos h0];clear h0;go_enter func78,ntmps78;go_upto_region 2 with fail;clear b3 b4 b5 b6 b7 b8 b9 b10 b11 b12 b13 b14;generalize World.alloc W _=w1 at *;generalize hcb:W.heap.size=cb at *;have c1:=Ja HCP.out 1;simp only[ZD,ZE,ZF] at c1;go_wp2;go_ret;refine ⟨rfl,?_⟩;rw[hcb];exact HB.out
 have e0:(s==[108,105,107,101,115])=false:=zzq h0;rw[if_neg h0]
 by_cases h1:s=fBoosts
 ·have e1:(s==[98,111,111,115,116,115])=true:=beq_iff_eq.2 h1;rw[if_pos h1];clear h0 h1;go_enter func78,ntmps78;go_upto_region 2 with fail;clear b3 b4 b5 b6 b7 b8 b9 b10 b11 b12 b13 b14;generalize World.alloc W _=w1 at *;generalize hcb:W.heap.size=cb at *;have c2:=Ja HCP.out 2;simp only[ZD,ZE,ZF] at c2;go_wp2;go_ret;refine ⟨rfl,?_⟩;rw[hcb];exact HB.out
 have e1:(s==[98,111,111,115,116,115])=false:=zzq h1;rw[if_neg h1]
 by_cases h2:s=fReplies
 ·have e2:(s==[114,101,112,108,105,101,115])=true:=beq_iff_eq.2 h2;rw[if_pos h2];clear h0 h1 h2;go_enter func78,ntmps78;go_upto_region 2 with fail;clear b3 b4 b5 b6 b7 b8 b9 b10 b11 b12 b13 b14;generalize World.alloc W _=w1 at *;generalize hcb:W.heap.size=cb at *;have c3:=Ja HCP.out 3;simp only[ZD,ZE,ZF] at c3;go_wp2;go_ret;refine ⟨rfl,?_⟩;rw[hcb];exact HB.out
 have e2:(s==[114,101,112,108,105,101,115])=false:=zzq h2;rw[if_neg h2]
 by_cases h3:s=fReports
 ·have e3:(s==[114,101,112,111,114,116,115])=true:=beq_iff_eq.2 h3;rw[if_pos h3];clear h0 h1 h2 h3;go_enter func78,ntmps78;go_upto_region 2 with fail;clear b3 b4 b5 b6 b7 b8 b9 b10 b11 b12 b13 b14;generalize World.alloc W _=w1 at *;generalize hcb:W.heap.size=cb at *;have c4:=Ja HCP.out 4;simp only[ZD,ZE,ZF] at c4;go_wp2;go_ret;refine ⟨rfl,?_⟩;rw[hcb];exact HB.out
 have e3:(s==[114,101,112,111,114,116,115])=false:=zzq h3;rw[if_neg h3]
 by_cases h4:s=fAge
 ·have e4:(s==[97,103,101])=true:=beq_iff_eq.2 h4;rw[if_pos h4];clear h0 h1 h2 h3 h4;go_enter func78,ntmps78;go_upto_region 2 with fail;clear b3 b4 b5 b6 b7 b8 b9 b10 b11 b12 b13 b14;generalize World.alloc W _=w1 at *;generalize hcb:W.heap.size=cb at *;have c5:=Ja HCP.out 5;simp only[ZD,ZE,ZF] at c5;go_wp2;go_ret;refine ⟨rfl,?_⟩;rw[hcb];exact HB.out
 have e4:(s==[97,103,101])=false:=zzq h4;rw[if_neg h4]
 by_cases h5:s=fHome
 ·have e5:(s==[104,111,109,101])=true:=beq_iff_eq.2 h5;rw[if_pos h5];clear h0 h1 h2 h3 h4 h5;go_enter func78,ntmps78;go_upto_region 2 with fail;clear b3 b4 b5 b6 b7 b8 b9 b10 b11 b12 b13 b14;generalize World.alloc W _=w1 at *;generalize hcb:W.heap.size=cb at *;have c6:=Ja HCP.out 6;simp only[ZD,ZE,ZF] at c6;go_wp2;go_ret;refine ⟨rfl,?_⟩;rw[hcb];exact HB.out
 have e5:(s==[104,111,109,101])=false:=zzq h5;rw[if_neg h5]
 by_cases h6:s=fScope
 ·have e6:(s==[115,99,111,112,101])=true:=beq_iff_eq.2 h6;rw[if_pos h6];clear h0 h1 h2 h3 h4 h5 h6;go_enter func78,ntmps78;go_upto_region 2 with fail;clear b3 b4 b5 b6 b7 b8 b9 b10 b11 b12 b13 b14;generalize World.alloc W _=w1 at *;generalize hcb:W.heap.size=cb at *;have c7:=Ja HCP.out 7;simp only[ZD,ZE,ZF] at c7;go_wp2;go_ret;refine ⟨rfl,?_⟩;rw[hcb];exact HB.out
 have e6:(s==[115,99,111,112,101])=false:=zzq h6;rw[if_neg h6]
 by_cases h7:s=fLength
 ·have e7:(s==[108,101,110,103,116,104])=true:=beq_iff_eq.2 h7;rw[if_pos h7];clear h0 h1 h2 h3 h4 h5 h6 h7;go_enter func78,ntmps78;go_upto_region 2 with fail;clear b3 b4 b5 b6 b7 b8 b9 b10 b11 b12 b13 b14;generalize World.alloc W _=w1 at *;generalize hcb:W.heap.size=cb at *;have c8:=Ja HCP.out 8;simp only[ZD,ZE,ZF] at c8;go_wp2;go_ret;refine ⟨rfl,?_⟩;rw[hcb];exact HB.out
 have e7:(s==[108,101,110,103,116,104])=false:=zzq h7;rw[if_neg h7]
 by_cases h8:s=fFollows
 ·have e8:(s==[102,111,108,108,111,119,115])=true:=beq_iff_eq.2 h8;rw[if_pos h8];clear h0 h1 h2 h3 h4 h5 h6 h7 h8;go_enter func78,ntmps78;go_upto_region 2 with fail;clear b3 b4 b5 b6 b7 b8 b9 b10 b11 b12 b13 b14;generalize World.alloc W _=w1 at *;generalize hcb:W.heap.size=cb at *;have c9:=Ja HCP.out 9;simp only[ZD,ZE,ZF] at c9;go_wp2_with fail;refine (cbf _).mono ?_;rintro e w3 ⟨rfl,rfl⟩;go_wp2;go_ret;refine ⟨rfl,?_⟩;rw[hcb];exact HB.out
 have e8:(s==[102,111,108,108,111,119,115])=false:=zzq h8;rw[if_neg h8];clear h0 h1 h2 h3 h4 h5 h6 h7 h8;go_enter func78,ntmps78;go_upto_region 2 with fail;clear b3 b4 b5 b6 b7 b8 b9 b10 b11 b12 b13 b14;generalize World.alloc W _=w1 at *;generalize hcb:W.heap.size=cb at *;have c10:=Ja HCP.out 10;simp only[ZD,ZE,ZF] at c10;go_wp2_with fail;refine (cbr _).mono ?_;rintro e w3 ⟨rfl,rfl⟩;go_wp2;go_ret;refine ⟨rfl,?_⟩;rw[hcb];exact HB.out
theorem JfO (a:List UInt8) (l:List (List UInt8)) (s:List UInt8):wordV (a::l) s=if a=s then 1 else wordV l s:=by
 unfold wordV bitI
 by_cases h:a=s
 ·subst h; simp
 ·rw[if_neg h]
  have:(decide (s∈a::l))=decide (s∈l):=by
   have hs:¬ s=a:=fun e=>h e.symm
   simp[hs]
  rw[this]
theorem JfP (K:RunK) (hk:K.Ok) (W:World) (u c:Nat) (h:MrAt K W u c) (s:List UInt8):Calls prog 80 #[.pointer (some ⟨K.p,0,none⟩),.string (bs s)] W (Same (.int .i64 (wordV K.F.words s)) W):=by
 have u1:=Jk s;obtain ⟨q,hq⟩:∃ q,wordV K.F.words s=q:=⟨_,rfl⟩
 rw[hq];have HQ:Hid (wordV (K.F.words.drop 0) s=q):=hq;have hw:=hk.words.up h.bel;have hn:=hk.fsz.nw;have b14:W.cell? ⟨K.p,14,none⟩=some (.slice K.wa K.F.words.length K.wc):=Ja h.self 14;obtain ⟨n,hln⟩:∃ n,K.F.words.length=n:=⟨_,rfl⟩
 rw[hln] at hw hn b14;have HW:=Zh hw;have HL:=Zh hln;have HN:=Zh hn;clear hw hq hln h hn;generalize K.wa=wa at *;generalize K.wc=wc at *;go_enter func80,ntmps80;go_wp2;clear b14;go_loop [13] (fun v=>∃ k:Nat,v=.int .i64 k∧k≤n∧Hid (wordV (K.F.words.drop k) s=q)) (fun v=>n-(intOf v).toNat)
 case atStart=>exact ⟨0,rfl,Nat.zero_le _,HQ⟩
 case round=>
 clear HQ;obtain ⟨k,rfl,hkn,hz⟩:=hrel;have wk:IntKind.i64.wrap ((k:Int)+1)=(k:Int)+1:=IntWalk.i64_in _ (by have:=HN.out; omega)
 by_cases hi:k<n
 ·have hil:(k:Int)<(n:Int):=by omega
  have hlt:k<K.F.words.length:=by rw[HL.out]; exact hi
  obtain ⟨a,ha⟩:∃ a,K.F.words[k]?=some a:=⟨K.F.words[k]'hlt,List.getElem?_eq_getElem _⟩
  obtain ⟨b,o,had,hb,hc⟩:=HW.out.get ha;have hz2:=hz.out;rw[List.drop_eq_getElem_cons hlt,JfO] at hz2;have hae:K.F.words[k]=a:=by rw[List.getElem?_eq_getElem hlt] at ha; exact Option.some.inj ha
  rw[hae] at hz2;have u2:=Jk a;clear ha hae hz hlt hb
  by_cases e:a=s
  ·have ee:(a==s)=true:=beq_iff_eq.2 e;rw[if_pos e] at hz2;subst hz2;subst had;clear e;go_wp2;go_ret;exact ⟨rfl,rfl⟩
  ·have ee:(a==s)=false:=zzq e;rw[if_neg e] at hz2;have HZ:=Zh hz2;subst had;clear e hz2;go_wp2;go_round
   case rel=>exact ⟨k+1,by go_num,hi,HZ⟩
   case measure=>simp[intOf]; omega
 ·have hil:¬ (k:Int)<(n:Int):=by omega
  have hz2:=hz.out;rw[List.drop_of_length_le (by rw[HL.out]; omega)] at hz2;have hq0:q=0:=by rw[← hz2]; rfl
  subst hq0;clear hz hz2 hi hkn;go_wp2;go_ret;exact ⟨rfl,rfl⟩
theorem Jea (K:RunK) (hk:K.Ok) (W:World) (u c:Nat) (h:MrAt K W u c) (s:List UInt8):Calls prog 79 #[.pointer (some ⟨K.p,0,none⟩),.string (bs s)] W (BelP W (.int .i64 (lookC K.F.labels s))):=by
 have u1:=Jk s;obtain ⟨q,hq⟩:∃ q,lookC K.F.labels s=q:=⟨_,rfl⟩
 rw[hq];have HQ:Hid (lookC (K.F.labels.drop 0) s=q):=hq;have hw:=hk.labs.up h.bel;have hn:=hk.fsz.nl;have b3:W.cell? ⟨K.p,3,none⟩=some (.slice K.la K.F.labels.length K.lc):=Ja h.self 3;obtain ⟨n,hln⟩:∃ n,K.F.labels.length=n:=⟨_,rfl⟩
 rw[hln] at hw hn b3;have HW:=Zh hw;have HL:=Zh hln;have HN:=Zh hn;have HB0:Hid (Bel W W):=Below.refl _ _;clear hw hq hln h hn;generalize K.la=la at *;generalize K.lc=lc at *;go_enter func79,ntmps79;go_wp2_with fail;clear b3;go_loopg [13] n (fun g v13 wr=>∃ k:Nat,g+k=n∧v13=.int .i64 k∧Hid (Bel W wr)∧Hid (lookC (K.F.labels.drop k) s=q))
 case atStart=>exact ⟨0,rfl,rfl,HB0,HQ⟩
 case round=>
 clear HQ HB0;obtain ⟨wl,rfl⟩:∃ wl:World,wl=wr:=⟨_,rfl⟩
 obtain ⟨k,hg,rfl,hbw,hz⟩:=hrel;have wk:IntKind.i64.wrap ((k:Int)+1)=(k:Int)+1:=IntWalk.i64_in _ (by have:=HN.out; omega)
 by_cases hi:k<n
 ·have hil:(k:Int)<(n:Int):=by omega
  have hlt:k<K.F.labels.length:=by rw[HL.out]; exact hi
  obtain ⟨a,ha⟩:∃ a,K.F.labels[k]?=some a:=⟨K.F.labels[k]'hlt,List.getElem?_eq_getElem _⟩
  have hwl:LabsAt wl (.slice la n lc) K.F.labels:=HW.out.up hbw.out;obtain ⟨b,o,had,hb,hc,hc2⟩:=hwl.get ha;have hz2:=hz.out;rw[List.drop_eq_getElem_cons hlt] at hz2;have hae:K.F.labels[k]=a:=by rw[List.getElem?_eq_getElem hlt] at ha; exact Option.some.inj ha
  rw[hae] at hz2;obtain ⟨nm,ct⟩:=a;dsimp only at hc hc2;rw[lookC] at hz2;dsimp only at hz2;have u2:=Jk nm;have HB2:Hid (Bel W (wl.alloc (.cells #[.string (bs nm),.int .i64 ct] 91))):=Below.alloc hbw.out hbw.out.size _;have HG:=Zh hg;clear ha hae hz hlt hb hwl hg
  by_cases e:nm=s
  ·have ee:(nm==s)=true:=beq_iff_eq.2 e;rw[if_pos e] at hz2;subst hz2;subst had;clear e;go_wp2;go_ret;exact ⟨rfl,HB2.out⟩
  ·have ee:(nm==s)=false:=zzq e;rw[if_neg e] at hz2;have HZ:=Zh hz2;have HHI:=Zh hi;subst had;clear e hz2 hi;go_wp2;go_roundg (n-(k+1))
   case measure=>have:=HG.out; have:=HHI.out; omega
   case rel=>exact ⟨k+1,by have:=HHI.out; omega,by go_num,HB2,HZ⟩
 ·have hil:¬ (k:Int)<(n:Int):=by omega
  have hz2:=hz.out;rw[List.drop_of_length_le (by rw[HL.out]; omega)] at hz2;have hq0:q=0:=by rw[← hz2]; rfl
  subst hq0;have HB2:=Zh hbw.out;clear hz hz2 hi hg hbw;go_wp2;go_ret;exact ⟨rfl,HB2.out⟩
def MopP (w:World) (x:RN Int) (e:Ending) (w':World):Prop:=
 match x with
 | .val v u=>e=.returned (.int .i64 v)∧Below w.heap.size w w'
 | .fault er u=>e=.panicked [{ v:=.iface 83 (.int .i64 er),recovered:=false }]∧Below w.heap.size w w'
theorem wx51 {P:Prop}(h:P:=by
  clear hq hg ha hb;go_enter func82,ntmps82;go_wp2_with fail;refine cn.mono ?_;rintro e w3 ⟨rfl,hbx⟩;have HX:=Zh hbx;clear cn hbx c0 c1;go_wp2;go_ret
  exact ⟨rfl,HX.out⟩):P:=h
theorem Jjj (vv:Value) (g o n cc:Nat) (a b:Int) (w:World)
  (hp:vv=.slice (some ⟨g,o,none⟩) n cc) (hg:2≤n) (c0:w.cell? ⟨g,o,none⟩=some (.int .i64 a)) (c1:w.cell? ⟨g,o+1,none⟩=some (.int .i64 b)) (ha:wf64 a) (hb:wf64 b) (u:Nat):Calls prog 82 #[.int .i64 8,vv] w (MopP w (operI 8 a b u)):=by
 subst hp;have hq:MopP w (operI 8 a b u)=fun e w'=>e=.returned (.int .i64 (limI (a+b)))∧Below w.heap.size w w':=rfl
 rw[hq];have hn0:(0:Int)<(n:Int):=by omega
 have hn1:(1:Int)<(n:Int):=by omega
 have hn0N:0<n:=by omega
 have hn1N:1<n:=by omega
 have HA:=Zh ha;have HBB:=Zh hb;have cn:=JhA a b w ha hb;exact wx51
theorem Jjk (vv:Value) (g o n cc:Nat) (a b:Int) (w:World)
  (hp:vv=.slice (some ⟨g,o,none⟩) n cc) (hg:2≤n) (c0:w.cell? ⟨g,o,none⟩=some (.int .i64 a)) (c1:w.cell? ⟨g,o+1,none⟩=some (.int .i64 b)) (ha:wf64 a) (hb:wf64 b) (u:Nat):Calls prog 82 #[.int .i64 9,vv] w (MopP w (operI 9 a b u)):=by
 subst hp;have hq:MopP w (operI 9 a b u)=fun e w'=>e=.returned (.int .i64 (limI (a-b)))∧Below w.heap.size w w':=rfl
 rw[hq];have hn0:(0:Int)<(n:Int):=by omega
 have hn1:(1:Int)<(n:Int):=by omega
 have hn0N:0<n:=by omega
 have hn1N:1<n:=by omega
 have HA:=Zh ha;have HBB:=Zh hb;have cn:=JfL a b w ha hb;exact wx51
theorem JhC (vv:Value) (g o n cc:Nat) (a b:Int) (w:World)
  (hp:vv=.slice (some ⟨g,o,none⟩) n cc) (hg:2≤n) (c0:w.cell? ⟨g,o,none⟩=some (.int .i64 a)) (c1:w.cell? ⟨g,o+1,none⟩=some (.int .i64 b)) (ha:wf64 a) (hb:wf64 b) (u:Nat):Calls prog 82 #[.int .i64 10,vv] w (MopP w (operI 10 a b u)):=by
 subst hp;have hq:MopP w (operI 10 a b u)=fun e w'=>e=.returned (.int .i64 (limI (a*b)))∧Below w.heap.size w w':=rfl
 rw[hq];have hn0:(0:Int)<(n:Int):=by omega
 have hn1:(1:Int)<(n:Int):=by omega
 have hn0N:0<n:=by omega
 have hn1N:1<n:=by omega
 have HA:=Zh ha;have HBB:=Zh hb;have cn:=Jjf a b w ha hb;exact wx51
theorem wx52 {P:Prop}(h:P:=by
  rw[hq];rw[if_pos hz,decide_eq_false (fun h=>h hz)] at cn;have cd:=fun W=>JdZ 0 W
  have HZ:=Zh hz;clear hz hq;go_enter func82,ntmps82;go_wp2_with fail;refine cn.mono ?_;rintro e w3 ⟨rfl,hbx⟩;have HX:=Zh hbx;clear cn hbx c0 c1;go_wp2_with fail;refine (cd _).mono ?_;rintro e w4 ⟨rfl,rfl⟩;refine ⟨rfl,?_⟩
  exact ⟨rfl,HX.out⟩):P:=h
theorem wx53 {P:Prop}(h:P:=by
  rw[hq];rw[if_neg hz,decide_eq_true hz] at cn;have cd:=fun n W=>JdY n W
  have HZ:=Zh hz;clear hz hq;go_enter func82,ntmps82;go_wp2_with fail;refine cn.mono ?_;rintro e w3 ⟨rfl,hbx⟩;have HX:=Zh hbx;clear cn hbx c0 c1;go_wp2_with fail;refine (cd _ _).mono ?_;rintro e w4 ⟨rfl,rfl⟩;clear cd;go_wp2;go_ret
  exact ⟨rfl,HX.out⟩):P:=h
theorem JhD (vv:Value) (g o n cc:Nat) (a b:Int) (w:World)
  (hp:vv=.slice (some ⟨g,o,none⟩) n cc) (hg:2≤n) (c0:w.cell? ⟨g,o,none⟩=some (.int .i64 a)) (c1:w.cell? ⟨g,o+1,none⟩=some (.int .i64 b)) (ha:wf64 a) (hb:wf64 b) (u:Nat):Calls prog 82 #[.int .i64 11,vv] w (MopP w (operI 11 a b u)):=by
 subst hp;have hn0:(0:Int)<(n:Int):=by omega
 have hn1:(1:Int)<(n:Int):=by omega
 have hn0N:0<n:=by omega
 have hn1N:1<n:=by omega
 have HA:=Zh ha;have HBB:=Zh hb;have cn:=Jjg a b w ha hb;clear hg ha hb
 by_cases hz:b=0
 ·have hq:operI 11 a b u=.fault 1 u:=by rw[hz]; rfl
  exact wx52
 ·have hq:operI 11 a b u=.val (limI (a.tdiv b)) u:=by
   have:operI 11 a b u=if b=0 then .fault 1 u else .val (clI (a.tdiv b)) u:=rfl;rw[this,if_neg hz];rfl
  exact wx53
theorem JhE (vv:Value) (g o n cc:Nat) (a b:Int) (w:World)
  (hp:vv=.slice (some ⟨g,o,none⟩) n cc) (hg:2≤n) (c0:w.cell? ⟨g,o,none⟩=some (.int .i64 a)) (c1:w.cell? ⟨g,o+1,none⟩=some (.int .i64 b)) (ha:wf64 a) (hb:wf64 b) (u:Nat):Calls prog 82 #[.int .i64 12,vv] w (MopP w (operI 12 a b u)):=by
 subst hp;have hn0:(0:Int)<(n:Int):=by omega
 have hn1:(1:Int)<(n:Int):=by omega
 have hn0N:0<n:=by omega
 have hn1N:1<n:=by omega
 have HA:=Zh ha;have HBB:=Zh hb;have cn:=Jjh a b w ha hb;clear hg ha hb
 by_cases hz:b=0
 ·have hq:operI 12 a b u=.fault 1 u:=by rw[hz]; rfl
  exact wx52
 ·have hq:operI 12 a b u=.val (limI (a.tmod b)) u:=by
   have:operI 12 a b u=if b=0 then .fault 1 u else .val (clI (a.tmod b)) u:=rfl;rw[this,if_neg hz];rfl
  exact wx53
theorem wx46 {P:Prop}(h:P:=by
  have cb:=fun W=>Jai x W
  clear hq hg ha hb;go_enter func82,ntmps82;go_wp2_with fail;refine (cb _).mono ?_;rintro e w3 ⟨rfl,rfl⟩;clear cb c0 c1;go_wp2;go_ret
  exact ⟨rfl,Below.refl _ _⟩):P:=h
theorem wx96 {P:Prop}(h:P:=by
  rw[hq];have hn0:(0:Int)<(n:Int):=by omega
  have hn1:(1:Int)<(n:Int):=by omega
  have hn0N:0<n:=by omega
  have hn1N:1<n:=by omega
  have HA:=Zh ha;have HBB:=Zh hb
  exact wx46):P:=h
theorem JhF (vv:Value) (g o n cc:Nat) (a b:Int) (w:World)
  (hp:vv=.slice (some ⟨g,o,none⟩) n cc) (hg:2≤n) (c0:w.cell? ⟨g,o,none⟩=some (.int .i64 a)) (c1:w.cell? ⟨g,o+1,none⟩=some (.int .i64 b)) (ha:wf64 a) (hb:wf64 b) (u:Nat):Calls prog 82 #[.int .i64 13,vv] w (MopP w (operI 13 a b u)):=by
 subst hp;obtain ⟨x,hx⟩:∃ x,decide (a<b)=x:=⟨_,rfl⟩
 have hq:MopP w (operI 13 a b u)=fun e w'=>e=.returned (.int .i64 (bitI x))∧Below w.heap.size w w':=by rw[← hx]; rfl
 exact wx96
theorem JhG (vv:Value) (g o n cc:Nat) (a b:Int) (w:World)
  (hp:vv=.slice (some ⟨g,o,none⟩) n cc) (hg:2≤n) (c0:w.cell? ⟨g,o,none⟩=some (.int .i64 a)) (c1:w.cell? ⟨g,o+1,none⟩=some (.int .i64 b)) (ha:wf64 a) (hb:wf64 b) (u:Nat):Calls prog 82 #[.int .i64 14,vv] w (MopP w (operI 14 a b u)):=by
 subst hp;obtain ⟨x,hx⟩:∃ x,decide (a≤b)=x:=⟨_,rfl⟩
 have hq:MopP w (operI 14 a b u)=fun e w'=>e=.returned (.int .i64 (bitI x))∧Below w.heap.size w w':=by rw[← hx]; rfl
 exact wx96
theorem JhH (vv:Value) (g o n cc:Nat) (a b:Int) (w:World)
  (hp:vv=.slice (some ⟨g,o,none⟩) n cc) (hg:2≤n) (c0:w.cell? ⟨g,o,none⟩=some (.int .i64 a)) (c1:w.cell? ⟨g,o+1,none⟩=some (.int .i64 b)) (ha:wf64 a) (hb:wf64 b) (u:Nat):Calls prog 82 #[.int .i64 15,vv] w (MopP w (operI 15 a b u)):=by
 subst hp;obtain ⟨x,hx⟩:∃ x,decide (a=b)=x:=⟨_,rfl⟩
 have hq:MopP w (operI 15 a b u)=fun e w'=>e=.returned (.int .i64 (bitI x))∧Below w.heap.size w w':=by rw[← hx]; rfl
 rw[hq];have hn0:(0:Int)<(n:Int):=by omega
 have hn1:(1:Int)<(n:Int):=by omega
 have hn0N:0<n:=by omega
 have hn1N:1<n:=by omega
 have HA:=Zh ha;have HBB:=Zh hb;have hx2:(a==b)=x:=by rw[← hx]; rfl
 exact wx46
theorem Jjl (vv:Value) (g o n cc:Nat) (a b:Int) (w:World) (hp:vv=.slice (some ⟨g,o,none⟩) n cc) (hg:1≤n) (c0:w.cell? ⟨g,o,none⟩=some (.int .i64 a)) (ha:wf64 a) (u:Nat):Calls prog 82 #[.int .i64 6,vv] w (MopP w (operI 6 a b u)):=by
 subst hp;have hq:MopP w (operI 6 a b u)=fun e w'=>e=.returned (.int .i64 (limI (0-a)))∧Below w.heap.size w w':=rfl
 rw[hq];have hn0:(0:Int)<(n:Int):=by omega
 have hn0N:0<n:=by omega
 have cn:=JfL 0 a w (by unfold wf64; omega) ha;rw[Int.zero_sub] at cn ⊢;clear hq hg ha;go_enter func82,ntmps82;go_wp2_with fail;refine cn.mono ?_;rintro e w3 ⟨rfl,hbx⟩;have HX:=Zh hbx;clear cn hbx c0;go_wp2;go_ret;exact ⟨rfl,HX.out⟩
theorem Jjm (vv:Value) (g o n cc:Nat) (a b:Int) (w:World) (hp:vv=.slice (some ⟨g,o,none⟩) n cc) (hg:1≤n) (c0:w.cell? ⟨g,o,none⟩=some (.int .i64 a)) (ha:a=0∨a=1) (u:Nat):Calls prog 82 #[.int .i64 7,vv] w (MopP w (operI 7 a b u)):=by
 subst hp;have hq:MopP w (operI 7 a b u)=fun e w'=>e=.returned (.int .i64 (1-a))∧Below w.heap.size w w':=rfl
 rw[hq];have hn0:(0:Int)<(n:Int):=by omega
 have hn0N:0<n:=by omega
 clear hq hg
 rcases ha with rfl | rfl
 all_goals
  go_enter func82,ntmps82;go_wp2;go_ret;exact ⟨rfl,Below.refl _ _⟩
end Go.Proofs.YtncanmdgdflnpaaGreatDoor
