import Derived.Deep.Slices
import Derived.Deep.Fields
import Derived.SliceStrings
import Derived.ChangeSlices
import Derived.ChangeMaps5
import Derived.Test.YtncanmdgdflnpaaGreatDoorV30
import Derived.Test.YtncanmdgdflnpaaGreatDoorV31
namespace Go.Proofs.YtncanmdgdflnpaaGreatDoor
open Go.ChangeShapes Go.WideShapes Go.ChangeAt Go.RowKit Go.Lib
open _root_.Go.Proofs.Tryz
set_option linter.all false
set_option maxRecDepth 100000
set_option maxHeartbeats 32000000
def LabsAt (W:World) (v:Value) (l:List (List UInt8 × Int)):Prop:=SliceOf W (In W) (fun a c=>c=[.string (bs a.1),.int .i64 a.2]) l v
def WordsAt (W:World) (v:Value) (l:List (List UInt8)):Prop:=SliceOf W (In W) (fun a c=>c=[.string (bs a)]) l v
theorem LabsAt.up {w W:World} {v:Value} {l:List (List UInt8 × Int)} (h:LabsAt w v l) (hb:Below w.heap.size w W):LabsAt W v l:=SliceOf.keep (fun b hP=>hb.block b hP) (fun b hP=>In.up hb hP) (fun a c h=>h) h
theorem WordsAt.up {w W:World} {v:Value} {l:List (List UInt8)} (h:WordsAt w v l) (hb:Below w.heap.size w W):WordsAt W v l:=SliceOf.keep (fun b hP=>hb.block b hP) (fun b hP=>In.up hb hP) (fun a c h=>h) h
theorem LabsAt.form {W:World} {v:Value} {l:List (List UInt8 × Int)} (h:LabsAt W v l):∃ ad cc,v=.slice ad l.length cc∧l.length≤cc:=by
 obtain ⟨ad,cc,h1,h2,_⟩:=SliceOf.get (m:=2) (fun a c h=>by rw[h]; rfl) h;exact ⟨ad,cc,h1,h2⟩
theorem WordsAt.form {W:World} {v:Value} {l:List (List UInt8)} (h:WordsAt W v l):∃ ad cc,v=.slice ad l.length cc∧l.length≤cc:=by
 obtain ⟨ad,cc,h1,h2,_⟩:=SliceOf.get (m:=1) (fun a c h=>by rw[h]; rfl) h;exact ⟨ad,cc,h1,h2⟩
theorem LabsAt.get {W:World} {ad:Option Addr} {m cc:Nat} {l:List (List UInt8 × Int)} (h:LabsAt W (.slice ad m cc) l) {i:Nat} {a:List UInt8 × Int} (hi:l[i]?=some a):∃ b o,ad=some ⟨b,o,none⟩∧b<W.heap.size∧W.cell? ⟨b,o+i*2,none⟩=some (.string (bs a.1))∧W.cell? ⟨b,o+i*2+1,none⟩=some (.int .i64 a.2):=by
 obtain ⟨ad',cc',h1,_,h3⟩:=SliceOf.get (m:=2) (fun a c h=>by rw[h]; rfl) h;injection h1 with e1 e2 e3;subst e1;obtain ⟨b,o,h4,h5,h6⟩:=h3 (List.ne_nil_of_mem (List.mem_of_getElem? hi));obtain ⟨c,rfl,h10⟩:=h6 i a hi;exact ⟨b,o,h4,h5,h10 0 _ rfl,h10 1 _ rfl⟩
theorem WordsAt.get {W:World} {ad:Option Addr} {m cc:Nat} {l:List (List UInt8)} (h:WordsAt W (.slice ad m cc) l) {i:Nat} {a:List UInt8} (hi:l[i]?=some a):∃ b o,ad=some ⟨b,o,none⟩∧b<W.heap.size∧W.cell? ⟨b,o+i,none⟩=some (.string (bs a)):=by
 obtain ⟨ad',cc',h1,_,h3⟩:=SliceOf.get (m:=1) (fun a c h=>by rw[h]; rfl) h;injection h1 with e1 e2 e3;subst e1;obtain ⟨b,o,h4,h5,h6⟩:=h3 (List.ne_nil_of_mem (List.mem_of_getElem? hi));obtain ⟨c,rfl,h10⟩:=h6 i a hi;have:=h10 0 _ rfl;rw[Nat.mul_one] at this;exact ⟨b,o,h4,h5,this⟩
def factsC (F:FactsM) (lv wv:Value):Array Value:=#[lv,.int .i64 F.likes,.int .i64 F.boosts,.int .i64 F.replies,.int .i64 F.reports,.int .i64 F.age,.int .i64 F.home,.int .i64 F.scope,.int .i64 F.length,.bool F.follows,.bool F.reply,wv]
structure RunK where
 w0:World
 p:Nat
 fa:Option Addr
 fc:Nat
 ca:Option Addr
 cc:Nat
 la:Option Addr
 lc:Nat
 wa:Option Addr
 wc:Nat
 r:RuleM
 F:FactsM
def RunK.cells (K:RunK) (u c:Nat):Array Value:=#[.slice K.fa K.r.funcs.length K.fc,.slice K.ca K.r.clauses.length K.cc,.int .i64 K.r.action,
 .slice K.la K.F.labels.length K.lc,.int .i64 K.F.likes,.int .i64 K.F.boosts,.int .i64 K.F.replies,.int .i64 K.F.reports,.int .i64 K.F.age,.int .i64 K.F.home,.int .i64 K.F.scope,.int .i64 K.F.length,.bool K.F.follows,.bool K.F.reply,.slice K.wa K.F.words.length K.wc,
 .int .i64 u,.int .i64 c]
structure FSz (F:FactsM):Prop where
 nl:F.labels.length≤1000000
 nw:F.words.length≤1000000
structure RunK.Ok (K:RunK):Prop where
 fns:FnxAt K.w0 (.slice K.fa K.r.funcs.length K.fc) K.r.funcs
 cls:ClxAt K.w0 (.slice K.ca K.r.clauses.length K.cc) K.r.clauses
 labs:LabsAt K.w0 (.slice K.la K.F.labels.length K.lc) K.F.labels
 words:WordsAt K.w0 (.slice K.wa K.F.words.length K.wc) K.F.words
 rsz:RSz K.r
 fsz:FSz K.F
 tr:treesM K.r=true
 ty:typedM K.r=true
 facts:factsM K.F=true
 num:K.w0.heap.size≤K.p
structure MrAt (K:RunK) (W:World) (u c:Nat):Prop where
 self:W.heap[K.p]?=some (.cells (K.cells u c) 82 (0,0))
 bel:Bel K.w0 W
section
variable {K:RunK} {W W':World} {u c:Nat}
theorem MrAt.lt (h:MrAt K W u c):K.p<W.heap.size:=Jb h.self
theorem MrAt.up (h:MrAt K W u c) (hb:Below W.heap.size W W'):MrAt K W' u c:=⟨(hb.block _ h.lt).trans h.self,Je h.bel hb⟩
theorem MrAt.drew (h:MrAt K W u c):MrAt K W.drew u c:=⟨h.self,h.bel.drew⟩
theorem MrAt.setU (hk:K.Ok) (h:MrAt K W u c) (u':Nat):MrAt K (W.setCell ⟨K.p,15,none⟩ (.int .i64 u')) u' c:=by
 refine ⟨?_,Below.setCell h.bel hk.num _⟩;rw[JA h.self];rfl
theorem MrAt.setC (hk:K.Ok) (h:MrAt K W u c) (c':Nat):MrAt K (W.setCell ⟨K.p,16,none⟩ (.int .i64 c')) u c':=by
 refine ⟨?_,Below.setCell h.bel hk.num _⟩;rw[JA h.self];rfl
end
def EvP (K:RunK) (W:World) (c:Nat):RN Int→Ending→World→Prop
 | .val v u,e,w'=>e=.returned (.int .i64 v)∧MrAt K w' u c∧Chg [K.p] W w'
 | .fault er u,e,w'=>e=.panicked [{ v:=.iface 83 (.int .i64 er),recovered:=false }]∧(∃ c',MrAt K w' u c')∧Chg [K.p] W w'
theorem ZP (b:Bool) (w:World):Calls prog 109 #[.bool b] w (Same (.int .i64 (bitI b)) w):=by
 cases b with
 | false=>
  go_enter func109,ntmps109;go_wp2;go_ret;exact ⟨rfl,rfl⟩
 | true=>
  go_enter func109,ntmps109;go_wp2;go_ret;exact ⟨rfl,rfl⟩
theorem Jdj (n:Int) (w:World):Calls prog 110 #[.int .i64 n,.bool true] w (Same (.int .i64 n) w):=by
 go_enter func110,ntmps110;go_wp2;go_ret;exact ⟨rfl,rfl⟩
theorem Jdk (n:Int) (w:World):Calls prog 110 #[.int .i64 n,.bool false] w (fun e w'=>e=.panicked [{ v:=.iface 83 (.int .i64 1),recovered:=false }]∧w'=w):=by
 go_enter func110,ntmps110;go_wp2;exact ⟨rfl,rfl,rfl⟩
def StepP (K:RunK) (W:World) (u c:Nat) (e:Ending) (w':World):Prop:=
 if u=10000 then e=.panicked [{ v:=.iface 83 (.int .i64 14),recovered:=false }]∧w'=W
 else e=.returned (.tuple #[])∧MrAt K w' (u+1) c∧Chg [K.p] W w'
theorem YM (K:RunK) (hk:K.Ok) (W:World) (u c:Nat) (h:MrAt K W u c) (hu:u≤10000):Calls prog 41 #[.pointer (some ⟨K.p,0,none⟩)] W (StepP K W u c):=by
 have b15:=Ja h.self 15;have f15:=Jc h.self 15;have hlt:=h.lt;have HS:=Zh (h.setU hk (u+1));have HC:Hid (Chg [K.p] W (W.setCell ⟨K.p,15,none⟩ (.int .i64 ((u+1:Nat):Int)))):=(Chg.refl _ _).setCell (.inl (by simp)) _;rw[show (K.cells u c)[15]?=some (.int .i64 u) from rfl] at b15;rw[Int.natCast_add,Int.natCast_one] at HS HC;clear h
 by_cases h:u=10000
 ·have hq:StepP K W u c=fun e w'=>e=.panicked [{ v:=.iface 83 (.int .i64 14),recovered:=false }]∧w'=W:=by
   funext e w'
   unfold StepP;rw[if_pos h]
  rw[hq];clear hq;subst h;rw[show ((10000:Nat):Int)=10000 from rfl] at b15;clear HS HC;go_enter func41,ntmps41;go_wp2;exact ⟨rfl,rfl,rfl⟩
 ·have hq:StepP K W u c=fun e w'=>e=.returned (.tuple #[])∧MrAt K w' (u+1) c∧Chg [K.p] W w':=by
   funext e w'
   unfold StepP;rw[if_neg h]
  rw[hq];clear hq;have e0:((u:Int)==10000)=false:=beq_eq_false_iff_ne.2 (by omega);have e0N:(u==10000)=false:=beq_eq_false_iff_ne.2 h;have wu:IntKind.i64.wrap ((u:Int)+1)=(u:Int)+1:=IntWalk.i64_in _ (by omega);clear h;go_enter func41,ntmps41;go_wp2;go_end0;exact ⟨rfl,HS.out,HC.out⟩
theorem JhZ (F:FactsM) (s:List UInt8):factV F s=if s=fLikes then F.likes else if s=fBoosts then F.boosts else if s=fReplies then F.replies else if s=fReports then F.reports
 else if s=fAge then F.age else if s=fHome then F.home else if s=fScope then F.scope else if s=fLength then F.length
 else if s=fFollows then bitI F.follows else bitI F.reply:=rfl
theorem JeZ (K:RunK) (hk:K.Ok) (W:World) (u c:Nat) (h:MrAt K W u c) (s:List UInt8):Calls prog 78 #[.pointer (some ⟨K.p,0,none⟩),.string (bs s)] W (BelP W (.int .i64 (factV K.F s))):=by
 have u1:=Jk s;rw[JhZ];have hb:Below W.heap.size W (W.alloc (.cells (factsC K.F (.slice K.la K.F.labels.length K.lc) (.slice K.wa K.F.words.length K.wc)) 25)):=(Below.refl _ _).alloc (Nat.le_refl _) _;have HB:=Zh hb;have HCP:=Zh (heap_alloc_new W (.cells (factsC K.F (.slice K.la K.F.labels.length K.lc) (.slice K.wa K.F.words.length K.wc)) 25));have hrow:=fun j=>Ja h.self j
 unfold factsC at HB HCP;have b3:W.cell? ⟨K.p,3,none⟩=some (.slice K.la K.F.labels.length K.lc):=hrow 3;have b4:W.cell? ⟨K.p,4,none⟩=some (.int .i64 K.F.likes):=hrow 4;have b5:W.cell? ⟨K.p,5,none⟩=some (.int .i64 K.F.boosts):=hrow 5;have b6:W.cell? ⟨K.p,6,none⟩=some (.int .i64 K.F.replies):=hrow 6;have b7:W.cell? ⟨K.p,7,none⟩=some (.int .i64 K.F.reports):=hrow 7;have b8:W.cell? ⟨K.p,8,none⟩=some (.int .i64 K.F.age):=hrow 8;have b9:W.cell? ⟨K.p,9,none⟩=some (.int .i64 K.F.home):=hrow 9;have b10:W.cell? ⟨K.p,10,none⟩=some (.int .i64 K.F.scope):=hrow 10;have b11:W.cell? ⟨K.p,11,none⟩=some (.int .i64 K.F.length):=hrow 11;have b12:W.cell? ⟨K.p,12,none⟩=some (.bool K.F.follows):=hrow 12;have b13:W.cell? ⟨K.p,13,none⟩=some (.bool K.F.reply):=hrow 13;have b14:W.cell? ⟨K.p,14,none⟩=some (.slice K.wa K.F.words.length K.wc):=hrow 14;have cbf:=fun W=>ZP K.F.follows W
 have cbr:=fun W=>ZP K.F.reply W
 generalize bitI K.F.follows=xf at *;generalize bitI K.F.reply=xr at *;generalize K.F.likes=xLikes at *;generalize K.F.boosts=xBoosts at *;generalize K.F.replies=xReplies at *;generalize K.F.reports=xReports at *;generalize K.F.age=xAge at *;generalize K.F.home=xHome at *;generalize K.F.scope=xScope at *;generalize K.F.length=xLength at *;generalize K.F.follows=xFollows at *;generalize K.F.reply=xReply at *;generalize K.F.labels.length=nl at *;generalize K.F.words.length=nw at *;clear hrow h hb
 by_cases h0:s=fLikes
 ·have e0:(s==[108,105,107,101,115])=true:=beq_iff_eq.2 h0;rw[if_pos h0];clear h0;go_enter func78,ntmps78;go_upto_region 2 with fail;clear b3 b4 b5 b6 b7 b8 b9 b10 b11 b12 b13 b14;generalize World.alloc W _=w1 at *;generalize hcb:W.heap.size=cb at *;have c1:=Ja HCP.out 1;simp only[ZD,ZE,ZF] at c1;go_wp2;go_ret;refine ⟨rfl,?_⟩;rw[hcb];exact HB.out
 have e0:(s==[108,105,107,101,115])=false:=beq_eq_false_iff_ne.2 h0;rw[if_neg h0]
 by_cases h1:s=fBoosts
 ·have e1:(s==[98,111,111,115,116,115])=true:=beq_iff_eq.2 h1;rw[if_pos h1];clear h0 h1;go_enter func78,ntmps78;go_upto_region 2 with fail;clear b3 b4 b5 b6 b7 b8 b9 b10 b11 b12 b13 b14;generalize World.alloc W _=w1 at *;generalize hcb:W.heap.size=cb at *;have c2:=Ja HCP.out 2;simp only[ZD,ZE,ZF] at c2;go_wp2;go_ret;refine ⟨rfl,?_⟩;rw[hcb];exact HB.out
 have e1:(s==[98,111,111,115,116,115])=false:=beq_eq_false_iff_ne.2 h1;rw[if_neg h1]
 by_cases h2:s=fReplies
 ·have e2:(s==[114,101,112,108,105,101,115])=true:=beq_iff_eq.2 h2;rw[if_pos h2];clear h0 h1 h2;go_enter func78,ntmps78;go_upto_region 2 with fail;clear b3 b4 b5 b6 b7 b8 b9 b10 b11 b12 b13 b14;generalize World.alloc W _=w1 at *;generalize hcb:W.heap.size=cb at *;have c3:=Ja HCP.out 3;simp only[ZD,ZE,ZF] at c3;go_wp2;go_ret;refine ⟨rfl,?_⟩;rw[hcb];exact HB.out
 have e2:(s==[114,101,112,108,105,101,115])=false:=beq_eq_false_iff_ne.2 h2;rw[if_neg h2]
 by_cases h3:s=fReports
 ·have e3:(s==[114,101,112,111,114,116,115])=true:=beq_iff_eq.2 h3;rw[if_pos h3];clear h0 h1 h2 h3;go_enter func78,ntmps78;go_upto_region 2 with fail;clear b3 b4 b5 b6 b7 b8 b9 b10 b11 b12 b13 b14;generalize World.alloc W _=w1 at *;generalize hcb:W.heap.size=cb at *;have c4:=Ja HCP.out 4;simp only[ZD,ZE,ZF] at c4;go_wp2;go_ret;refine ⟨rfl,?_⟩;rw[hcb];exact HB.out
 have e3:(s==[114,101,112,111,114,116,115])=false:=beq_eq_false_iff_ne.2 h3;rw[if_neg h3]
 by_cases h4:s=fAge
 ·have e4:(s==[97,103,101])=true:=beq_iff_eq.2 h4;rw[if_pos h4];clear h0 h1 h2 h3 h4;go_enter func78,ntmps78;go_upto_region 2 with fail;clear b3 b4 b5 b6 b7 b8 b9 b10 b11 b12 b13 b14;generalize World.alloc W _=w1 at *;generalize hcb:W.heap.size=cb at *;have c5:=Ja HCP.out 5;simp only[ZD,ZE,ZF] at c5;go_wp2;go_ret;refine ⟨rfl,?_⟩;rw[hcb];exact HB.out
 have e4:(s==[97,103,101])=false:=beq_eq_false_iff_ne.2 h4;rw[if_neg h4]
 by_cases h5:s=fHome
 ·have e5:(s==[104,111,109,101])=true:=beq_iff_eq.2 h5;rw[if_pos h5];clear h0 h1 h2 h3 h4 h5;go_enter func78,ntmps78;go_upto_region 2 with fail;clear b3 b4 b5 b6 b7 b8 b9 b10 b11 b12 b13 b14;generalize World.alloc W _=w1 at *;generalize hcb:W.heap.size=cb at *;have c6:=Ja HCP.out 6;simp only[ZD,ZE,ZF] at c6;go_wp2;go_ret;refine ⟨rfl,?_⟩;rw[hcb];exact HB.out
 have e5:(s==[104,111,109,101])=false:=beq_eq_false_iff_ne.2 h5;rw[if_neg h5]
 by_cases h6:s=fScope
 ·have e6:(s==[115,99,111,112,101])=true:=beq_iff_eq.2 h6;rw[if_pos h6];clear h0 h1 h2 h3 h4 h5 h6;go_enter func78,ntmps78;go_upto_region 2 with fail;clear b3 b4 b5 b6 b7 b8 b9 b10 b11 b12 b13 b14;generalize World.alloc W _=w1 at *;generalize hcb:W.heap.size=cb at *;have c7:=Ja HCP.out 7;simp only[ZD,ZE,ZF] at c7;go_wp2;go_ret;refine ⟨rfl,?_⟩;rw[hcb];exact HB.out
 have e6:(s==[115,99,111,112,101])=false:=beq_eq_false_iff_ne.2 h6;rw[if_neg h6]
 by_cases h7:s=fLength
 ·have e7:(s==[108,101,110,103,116,104])=true:=beq_iff_eq.2 h7;rw[if_pos h7];clear h0 h1 h2 h3 h4 h5 h6 h7;go_enter func78,ntmps78;go_upto_region 2 with fail;clear b3 b4 b5 b6 b7 b8 b9 b10 b11 b12 b13 b14;generalize World.alloc W _=w1 at *;generalize hcb:W.heap.size=cb at *;have c8:=Ja HCP.out 8;simp only[ZD,ZE,ZF] at c8;go_wp2;go_ret;refine ⟨rfl,?_⟩;rw[hcb];exact HB.out
 have e7:(s==[108,101,110,103,116,104])=false:=beq_eq_false_iff_ne.2 h7;rw[if_neg h7]
 by_cases h8:s=fFollows
 ·have e8:(s==[102,111,108,108,111,119,115])=true:=beq_iff_eq.2 h8;rw[if_pos h8];clear h0 h1 h2 h3 h4 h5 h6 h7 h8;go_enter func78,ntmps78;go_upto_region 2 with fail;clear b3 b4 b5 b6 b7 b8 b9 b10 b11 b12 b13 b14;generalize World.alloc W _=w1 at *;generalize hcb:W.heap.size=cb at *;have c9:=Ja HCP.out 9;simp only[ZD,ZE,ZF] at c9;go_wp2_with fail;refine (cbf _).mono ?_;rintro e w3 ⟨rfl,rfl⟩;go_wp2;go_ret;refine ⟨rfl,?_⟩;rw[hcb];exact HB.out
 have e8:(s==[102,111,108,108,111,119,115])=false:=beq_eq_false_iff_ne.2 h8;rw[if_neg h8];clear h0 h1 h2 h3 h4 h5 h6 h7 h8;go_enter func78,ntmps78;go_upto_region 2 with fail;clear b3 b4 b5 b6 b7 b8 b9 b10 b11 b12 b13 b14;generalize World.alloc W _=w1 at *;generalize hcb:W.heap.size=cb at *;have c10:=Ja HCP.out 10;simp only[ZD,ZE,ZF] at c10;go_wp2_with fail;refine (cbr _).mono ?_;rintro e w3 ⟨rfl,rfl⟩;go_wp2;go_ret;refine ⟨rfl,?_⟩;rw[hcb];exact HB.out
theorem Jfa (a:List UInt8) (l:List (List UInt8)) (s:List UInt8):wordV (a::l) s=if a=s then 1 else wordV l s:=by
 unfold wordV bitI
 by_cases h:a=s
 ·subst h; simp
 ·rw[if_neg h]
  have:(decide (s∈a::l))=decide (s∈l):=by
   have hs:¬ s=a:=fun e=>h e.symm
   simp[hs]
  rw[this]
theorem Jfb (K:RunK) (hk:K.Ok) (W:World) (u c:Nat) (h:MrAt K W u c) (s:List UInt8):Calls prog 80 #[.pointer (some ⟨K.p,0,none⟩),.string (bs s)] W (Same (.int .i64 (wordV K.F.words s)) W):=by
 have u1:=Jk s;obtain ⟨q,hq⟩:∃ q,wordV K.F.words s=q:=⟨_,rfl⟩
 rw[hq];have HQ:Hid (wordV (K.F.words.drop 0) s=q):=hq;have hw:=hk.words.up h.bel;have hn:=hk.fsz.nw;have b14:W.cell? ⟨K.p,14,none⟩=some (.slice K.wa K.F.words.length K.wc):=Ja h.self 14;obtain ⟨n,hln⟩:∃ n,K.F.words.length=n:=⟨_,rfl⟩
 rw[hln] at hw hn b14;have HW:=Zh hw;have HL:=Zh hln;have HN:=Zh hn;clear hw hq hln h hn;generalize K.wa=wa at *;generalize K.wc=wc at *;go_enter func80,ntmps80;go_wp2;clear b14;go_loop [13] (fun v=>∃ k:Nat,v=.int .i64 k∧k≤n∧Hid (wordV (K.F.words.drop k) s=q)) (fun v=>n-(intOf v).toNat)
 case atStart=>exact ⟨0,rfl,Nat.zero_le _,HQ⟩
 case round=>
 clear HQ;obtain ⟨k,rfl,hkn,hz⟩:=hrel;have wk:IntKind.i64.wrap ((k:Int)+1)=(k:Int)+1:=IntWalk.i64_in _ (by have:=HN.out; omega)
 by_cases hi:k<n
 ·have hil:(k:Int)<(n:Int):=by omega
  have hlt:k<K.F.words.length:=by rw[HL.out]; exact hi
  obtain ⟨a,ha⟩:∃ a,K.F.words[k]?=some a:=⟨K.F.words[k]'hlt,List.getElem?_eq_getElem _⟩
  obtain ⟨b,o,had,hb,hc⟩:=HW.out.get ha;have hz2:=hz.out;rw[List.drop_eq_getElem_cons hlt,Jfa] at hz2;have hae:K.F.words[k]=a:=by rw[List.getElem?_eq_getElem hlt] at ha; exact Option.some.inj ha
  rw[hae] at hz2;have u2:=Jk a;clear ha hae hz hlt hb
  by_cases e:a=s
  ·have ee:(a==s)=true:=beq_iff_eq.2 e;rw[if_pos e] at hz2;subst hz2;subst had;clear e;go_wp2;go_ret;exact ⟨rfl,rfl⟩
  ·have ee:(a==s)=false:=beq_eq_false_iff_ne.2 e;rw[if_neg e] at hz2;have HZ:=Zh hz2;subst had;clear e hz2;go_wp2;go_round
   case rel=>exact ⟨k+1,by go_num,hi,HZ⟩
   case measure=>simp[intOf]; omega
 ·have hil:¬ (k:Int)<(n:Int):=by omega
  have hz2:=hz.out;rw[List.drop_of_length_le (by rw[HL.out]; omega)] at hz2;have hq0:q=0:=by rw[← hz2]; rfl
  subst hq0;clear hz hz2 hi hkn;go_wp2;go_ret;exact ⟨rfl,rfl⟩
theorem Jdl (K:RunK) (hk:K.Ok) (W:World) (u c:Nat) (h:MrAt K W u c) (s:List UInt8):Calls prog 79 #[.pointer (some ⟨K.p,0,none⟩),.string (bs s)] W (BelP W (.int .i64 (lookC K.F.labels s))):=by
 have u1:=Jk s;obtain ⟨q,hq⟩:∃ q,lookC K.F.labels s=q:=⟨_,rfl⟩
 rw[hq];have HQ:Hid (lookC (K.F.labels.drop 0) s=q):=hq;have hw:=hk.labs.up h.bel;have hn:=hk.fsz.nl;have b3:W.cell? ⟨K.p,3,none⟩=some (.slice K.la K.F.labels.length K.lc):=Ja h.self 3;obtain ⟨n,hln⟩:∃ n,K.F.labels.length=n:=⟨_,rfl⟩
 rw[hln] at hw hn b3;have HW:=Zh hw;have HL:=Zh hln;have HN:=Zh hn;have HB0:Hid (Bel W W):=Below.refl _ _;clear hw hq hln h hn;generalize K.la=la at *;generalize K.lc=lc at *;go_enter func79,ntmps79;go_wp2_with fail;clear b3;go_loopg [13] n (fun g v13 wr=>∃ k:Nat,g+k=n∧v13=.int .i64 k∧Hid (Bel W wr)∧Hid (lookC (K.F.labels.drop k) s=q))
 case atStart=>exact ⟨0,rfl,rfl,HB0,HQ⟩
 case round=>
 clear HQ HB0;obtain ⟨wl,rfl⟩:∃ wl:World,wl=wr:=⟨_,rfl⟩
 obtain ⟨k,hg,rfl,hbw,hz⟩:=hrel;have wk:IntKind.i64.wrap ((k:Int)+1)=(k:Int)+1:=IntWalk.i64_in _ (by have:=HN.out; omega)
 by_cases hi:k<n
 ·have hil:(k:Int)<(n:Int):=by omega
  have hlt:k<K.F.labels.length:=by rw[HL.out]; exact hi
  obtain ⟨a,ha⟩:∃ a,K.F.labels[k]?=some a:=⟨K.F.labels[k]'hlt,List.getElem?_eq_getElem _⟩
  have hwl:LabsAt wl (.slice la n lc) K.F.labels:=HW.out.up hbw.out;obtain ⟨b,o,had,hb,hc,hc2⟩:=hwl.get ha;have hz2:=hz.out;rw[List.drop_eq_getElem_cons hlt] at hz2;have hae:K.F.labels[k]=a:=by rw[List.getElem?_eq_getElem hlt] at ha; exact Option.some.inj ha
  rw[hae] at hz2;obtain ⟨nm,ct⟩:=a;dsimp only at hc hc2;rw[lookC] at hz2;dsimp only at hz2;have u2:=Jk nm;have HB2:Hid (Bel W (wl.alloc (.cells #[.string (bs nm),.int .i64 ct] 91))):=Below.alloc hbw.out hbw.out.size _;have HG:=Zh hg;clear ha hae hz hlt hb hwl hg
  by_cases e:nm=s
  ·have ee:(nm==s)=true:=beq_iff_eq.2 e;rw[if_pos e] at hz2;subst hz2;subst had;clear e;go_wp2;go_ret;exact ⟨rfl,HB2.out⟩
  ·have ee:(nm==s)=false:=beq_eq_false_iff_ne.2 e;rw[if_neg e] at hz2;have HZ:=Zh hz2;have HHI:=Zh hi;subst had;clear e hz2 hi;go_wp2;go_roundg (n-(k+1))
   case measure=>have:=HG.out; have:=HHI.out; omega
   case rel=>exact ⟨k+1,by have:=HHI.out; omega,by go_num,HB2,HZ⟩
 ·have hil:¬ (k:Int)<(n:Int):=by omega
  have hz2:=hz.out;rw[List.drop_of_length_le (by rw[HL.out]; omega)] at hz2;have hq0:q=0:=by rw[← hz2]; rfl
  subst hq0;have HB2:=Zh hbw.out;clear hz hz2 hi hg hbw;go_wp2;go_ret;exact ⟨rfl,HB2.out⟩
def MopP (w:World) (x:RN Int) (e:Ending) (w':World):Prop:=
 match x with
 | .val v u=>e=.returned (.int .i64 v)∧Below w.heap.size w w'
 | .fault er u=>e=.panicked [{ v:=.iface 83 (.int .i64 er),recovered:=false }]∧Below w.heap.size w w'
theorem vx57 {P:Prop}(h:P:=by
  clear hq hg ha hb;go_enter func82,ntmps82;go_wp2_with fail;refine cn.mono ?_;rintro e w3 ⟨rfl,hbx⟩;have HX:=Zh hbx;clear cn hbx c0 c1;go_wp2;go_ret
  exact ⟨rfl,HX.out⟩):P:=h
theorem Jia (vv:Value) (g o n cc:Nat) (a b:Int) (w:World)
  (hp:vv=.slice (some ⟨g,o,none⟩) n cc) (hg:2≤n) (c0:w.cell? ⟨g,o,none⟩=some (.int .i64 a)) (c1:w.cell? ⟨g,o+1,none⟩=some (.int .i64 b)) (ha:wf64 a) (hb:wf64 b) (u:Nat):Calls prog 82 #[.int .i64 8,vv] w (MopP w (operI 8 a b u)):=by
 subst hp;have hq:MopP w (operI 8 a b u)=fun e w'=>e=.returned (.int .i64 (limI (a+b)))∧Below w.heap.size w w':=rfl
 rw[hq];have hn0:(0:Int)<(n:Int):=by omega
 have hn1:(1:Int)<(n:Int):=by omega
 have hn0N:0<n:=by omega
 have hn1N:1<n:=by omega
 have HA:=Zh ha;have HBB:=Zh hb;have cn:=Jgy a b w ha hb;exact vx57
theorem Jib (vv:Value) (g o n cc:Nat) (a b:Int) (w:World)
  (hp:vv=.slice (some ⟨g,o,none⟩) n cc) (hg:2≤n) (c0:w.cell? ⟨g,o,none⟩=some (.int .i64 a)) (c1:w.cell? ⟨g,o+1,none⟩=some (.int .i64 b)) (ha:wf64 a) (hb:wf64 b) (u:Nat):Calls prog 82 #[.int .i64 9,vv] w (MopP w (operI 9 a b u)):=by
 subst hp;have hq:MopP w (operI 9 a b u)=fun e w'=>e=.returned (.int .i64 (limI (a-b)))∧Below w.heap.size w w':=rfl
 rw[hq];have hn0:(0:Int)<(n:Int):=by omega
 have hn1:(1:Int)<(n:Int):=by omega
 have hn0N:0<n:=by omega
 have hn1N:1<n:=by omega
 have HA:=Zh ha;have HBB:=Zh hb;have cn:=JeX a b w ha hb;exact vx57
theorem JgA (vv:Value) (g o n cc:Nat) (a b:Int) (w:World)
  (hp:vv=.slice (some ⟨g,o,none⟩) n cc) (hg:2≤n) (c0:w.cell? ⟨g,o,none⟩=some (.int .i64 a)) (c1:w.cell? ⟨g,o+1,none⟩=some (.int .i64 b)) (ha:wf64 a) (hb:wf64 b) (u:Nat):Calls prog 82 #[.int .i64 10,vv] w (MopP w (operI 10 a b u)):=by
 subst hp;have hq:MopP w (operI 10 a b u)=fun e w'=>e=.returned (.int .i64 (limI (a*b)))∧Below w.heap.size w w':=rfl
 rw[hq];have hn0:(0:Int)<(n:Int):=by omega
 have hn1:(1:Int)<(n:Int):=by omega
 have hn0N:0<n:=by omega
 have hn1N:1<n:=by omega
 have HA:=Zh ha;have HBB:=Zh hb;have cn:=JhW a b w ha hb;exact vx57
theorem vx58 {P:Prop}(h:P:=by
  rw[hq];rw[if_pos hz,decide_eq_false (fun h=>h hz)] at cn;have cd:=fun W=>Jdk 0 W
  have HZ:=Zh hz;clear hz hq;go_enter func82,ntmps82;go_wp2_with fail;refine cn.mono ?_;rintro e w3 ⟨rfl,hbx⟩;have HX:=Zh hbx;clear cn hbx c0 c1;go_wp2_with fail;refine (cd _).mono ?_;rintro e w4 ⟨rfl,rfl⟩;refine ⟨rfl,?_⟩
  exact ⟨rfl,HX.out⟩):P:=h
theorem vx59 {P:Prop}(h:P:=by
  rw[hq];rw[if_neg hz,decide_eq_true hz] at cn;have cd:=fun n W=>Jdj n W
  have HZ:=Zh hz;clear hz hq;go_enter func82,ntmps82;go_wp2_with fail;refine cn.mono ?_;rintro e w3 ⟨rfl,hbx⟩;have HX:=Zh hbx;clear cn hbx c0 c1;go_wp2_with fail;refine (cd _ _).mono ?_;rintro e w4 ⟨rfl,rfl⟩;clear cd;go_wp2;go_ret
  exact ⟨rfl,HX.out⟩):P:=h
theorem JgB (vv:Value) (g o n cc:Nat) (a b:Int) (w:World)
  (hp:vv=.slice (some ⟨g,o,none⟩) n cc) (hg:2≤n) (c0:w.cell? ⟨g,o,none⟩=some (.int .i64 a)) (c1:w.cell? ⟨g,o+1,none⟩=some (.int .i64 b)) (ha:wf64 a) (hb:wf64 b) (u:Nat):Calls prog 82 #[.int .i64 11,vv] w (MopP w (operI 11 a b u)):=by
 subst hp;have hn0:(0:Int)<(n:Int):=by omega
 have hn1:(1:Int)<(n:Int):=by omega
 have hn0N:0<n:=by omega
 have hn1N:1<n:=by omega
 have HA:=Zh ha;have HBB:=Zh hb;have cn:=JhX a b w ha hb;clear hg ha hb
 by_cases hz:b=0
 ·have hq:operI 11 a b u=.fault 1 u:=by rw[hz]; rfl
  exact vx58
 ·have hq:operI 11 a b u=.val (limI (a.tdiv b)) u:=by
   have:operI 11 a b u=if b=0 then .fault 1 u else .val (clI (a.tdiv b)) u:=rfl;rw[this,if_neg hz];rfl
  exact vx59
theorem JgC (vv:Value) (g o n cc:Nat) (a b:Int) (w:World)
  (hp:vv=.slice (some ⟨g,o,none⟩) n cc) (hg:2≤n) (c0:w.cell? ⟨g,o,none⟩=some (.int .i64 a)) (c1:w.cell? ⟨g,o+1,none⟩=some (.int .i64 b)) (ha:wf64 a) (hb:wf64 b) (u:Nat):Calls prog 82 #[.int .i64 12,vv] w (MopP w (operI 12 a b u)):=by
 subst hp;have hn0:(0:Int)<(n:Int):=by omega
 have hn1:(1:Int)<(n:Int):=by omega
 have hn0N:0<n:=by omega
 have hn1N:1<n:=by omega
 have HA:=Zh ha;have HBB:=Zh hb;have cn:=JhY a b w ha hb;clear hg ha hb
 by_cases hz:b=0
 ·have hq:operI 12 a b u=.fault 1 u:=by rw[hz]; rfl
  exact vx58
 ·have hq:operI 12 a b u=.val (limI (a.tmod b)) u:=by
   have:operI 12 a b u=if b=0 then .fault 1 u else .val (clI (a.tmod b)) u:=rfl;rw[this,if_neg hz];rfl
  exact vx59
theorem vx53 {P:Prop}(h:P:=by
  have cb:=fun W=>ZP x W
  clear hq hg ha hb;go_enter func82,ntmps82;go_wp2_with fail;refine (cb _).mono ?_;rintro e w3 ⟨rfl,rfl⟩;clear cb c0 c1;go_wp2;go_ret
  exact ⟨rfl,Below.refl _ _⟩):P:=h
theorem vx102 {P:Prop}(h:P:=by
  rw[hq];have hn0:(0:Int)<(n:Int):=by omega
  have hn1:(1:Int)<(n:Int):=by omega
  have hn0N:0<n:=by omega
  have hn1N:1<n:=by omega
  have HA:=Zh ha;have HBB:=Zh hb
  exact vx53):P:=h
theorem JgD (vv:Value) (g o n cc:Nat) (a b:Int) (w:World)
  (hp:vv=.slice (some ⟨g,o,none⟩) n cc) (hg:2≤n) (c0:w.cell? ⟨g,o,none⟩=some (.int .i64 a)) (c1:w.cell? ⟨g,o+1,none⟩=some (.int .i64 b)) (ha:wf64 a) (hb:wf64 b) (u:Nat):Calls prog 82 #[.int .i64 13,vv] w (MopP w (operI 13 a b u)):=by
 subst hp;obtain ⟨x,hx⟩:∃ x,decide (a<b)=x:=⟨_,rfl⟩
 have hq:MopP w (operI 13 a b u)=fun e w'=>e=.returned (.int .i64 (bitI x))∧Below w.heap.size w w':=by rw[← hx]; rfl
 exact vx102
theorem JgE (vv:Value) (g o n cc:Nat) (a b:Int) (w:World)
  (hp:vv=.slice (some ⟨g,o,none⟩) n cc) (hg:2≤n) (c0:w.cell? ⟨g,o,none⟩=some (.int .i64 a)) (c1:w.cell? ⟨g,o+1,none⟩=some (.int .i64 b)) (ha:wf64 a) (hb:wf64 b) (u:Nat):Calls prog 82 #[.int .i64 14,vv] w (MopP w (operI 14 a b u)):=by
 subst hp;obtain ⟨x,hx⟩:∃ x,decide (a≤b)=x:=⟨_,rfl⟩
 have hq:MopP w (operI 14 a b u)=fun e w'=>e=.returned (.int .i64 (bitI x))∧Below w.heap.size w w':=by rw[← hx]; rfl
 exact vx102
theorem JgF (vv:Value) (g o n cc:Nat) (a b:Int) (w:World)
  (hp:vv=.slice (some ⟨g,o,none⟩) n cc) (hg:2≤n) (c0:w.cell? ⟨g,o,none⟩=some (.int .i64 a)) (c1:w.cell? ⟨g,o+1,none⟩=some (.int .i64 b)) (ha:wf64 a) (hb:wf64 b) (u:Nat):Calls prog 82 #[.int .i64 15,vv] w (MopP w (operI 15 a b u)):=by
 subst hp;obtain ⟨x,hx⟩:∃ x,decide (a=b)=x:=⟨_,rfl⟩
 have hq:MopP w (operI 15 a b u)=fun e w'=>e=.returned (.int .i64 (bitI x))∧Below w.heap.size w w':=by rw[← hx]; rfl
 rw[hq];have hn0:(0:Int)<(n:Int):=by omega
 have hn1:(1:Int)<(n:Int):=by omega
 have hn0N:0<n:=by omega
 have hn1N:1<n:=by omega
 have HA:=Zh ha;have HBB:=Zh hb;have hx2:(a==b)=x:=by rw[← hx]; rfl
 exact vx53
theorem Jic (vv:Value) (g o n cc:Nat) (a b:Int) (w:World) (hp:vv=.slice (some ⟨g,o,none⟩) n cc) (hg:1≤n) (c0:w.cell? ⟨g,o,none⟩=some (.int .i64 a)) (ha:wf64 a) (u:Nat):Calls prog 82 #[.int .i64 6,vv] w (MopP w (operI 6 a b u)):=by
 subst hp;have hq:MopP w (operI 6 a b u)=fun e w'=>e=.returned (.int .i64 (limI (0-a)))∧Below w.heap.size w w':=rfl
 rw[hq];have hn0:(0:Int)<(n:Int):=by omega
 have hn0N:0<n:=by omega
 have cn:=JeX 0 a w (by unfold wf64; omega) ha;rw[Int.zero_sub] at cn ⊢;clear hq hg ha;go_enter func82,ntmps82;go_wp2_with fail;refine cn.mono ?_;rintro e w3 ⟨rfl,hbx⟩;have HX:=Zh hbx;clear cn hbx c0;go_wp2;go_ret;exact ⟨rfl,HX.out⟩
theorem Jid (vv:Value) (g o n cc:Nat) (a b:Int) (w:World) (hp:vv=.slice (some ⟨g,o,none⟩) n cc) (hg:1≤n) (c0:w.cell? ⟨g,o,none⟩=some (.int .i64 a)) (ha:a=0∨a=1) (u:Nat):Calls prog 82 #[.int .i64 7,vv] w (MopP w (operI 7 a b u)):=by
 subst hp;have hq:MopP w (operI 7 a b u)=fun e w'=>e=.returned (.int .i64 (1-a))∧Below w.heap.size w w':=rfl
 rw[hq];have hn0:(0:Int)<(n:Int):=by omega
 have hn0N:0<n:=by omega
 clear hq hg
 rcases ha with rfl | rfl
 all_goals
  go_enter func82,ntmps82;go_wp2;go_ret;exact ⟨rfl,Below.refl _ _⟩
end Go.Proofs.YtncanmdgdflnpaaGreatDoor
namespace Go.Proofs.YtncanmdgdflnpaaGreatDoor
open Go.ChangeShapes Go.WideShapes Go.RowKit Go.Deep
open Go.Joins
open _root_.Go.Proofs.Tryz
set_option linter.all false
set_option maxRecDepth 100000
set_option maxHeartbeats 32000000
section
variable {H:Type} {enc:TypeId × Value→H} {P:Program} {w:World} {base:Nat} {spare:Nat→Bool} {held:Bool}
theorem VM {t e:TypeId} {fs:Array Field} {fuel:Nat} {cs:List Value} {x:DataW H × List MemPlace} (ht:P.underlying t=some (.slice e)) (he:P.underlying e=some (.struct fs))
  (hone:oneCellFields P fs=true) (hC:P.cellsOf e=fs.size) (h:DataW.trod enc P w base spare held fuel t cs=some x) :
  (cs=[.slice none 0 0]∧x=(.nil,[]))∨
  ∃ (a:Addr) (len cap m:Nat) (D:Nat→DataW H) (Pl:Nat→List MemPlace),cs=[.slice (some a) len cap]∧base≤a.block∧len≤cap∧cap≤maxLen∧m=(if spare a.block then cap else len)∧
   x=(.slice ((List.range len).map D) ((List.range (m-len)).map fun j=>D (len+j)),MemPlace.row a (m*fs.size)++(List.range m).flatMap Pl)∧
   ∀ i,i<m→∃ (ys:List (DataW H × List MemPlace)) (n:Nat),D i=.agg (ys.map (·.1))∧Pl i=ys.flatMap (·.2)∧ys.length=fs.size∧
    ∀ (j:Nat) (f:Field),fs[j]?=some f→∃ (v:Value) (y:DataW H × List MemPlace),w.cell? (a.add (i*fs.size+j))=some v∧ys[j]?=some y∧DataW.trod enc P w base spare held n f.type [v]=some y:=by
 rcases open_slice ht h with h0 | ⟨a,len,cap,m,n,D,Pl,hcs,hb,hl,hm,hmm,hx,hi⟩
 ·exact .inl h0
 ·refine .inr ⟨a,len,cap,m,D,Pl,hcs,hb,hl,hm,hmm,by rw[hC] at hx; exact hx,fun i him=>?_⟩;obtain ⟨cs',hc,ht'⟩:=hi i him;rw[hC] at hc;obtain ⟨ys,n',hn',hy,hlen,hyl,hf⟩:=DataW.trod_struct he ht';obtain ⟨_,hcl,hat⟩:=World.cells?_some hc;simp only[Prod.mk.injEq] at hy;refine ⟨ys,n',hy.1,hy.2,hyl,fun j f hj=>?_⟩;obtain ⟨ho,hk⟩:=hone_of hone j f hj;have hjl:j<fs.size:=(Array.getElem?_eq_some_iff.1 hj).1;have hcell:=hat j hjl;have hv:cs'[j]?=some (cs'[j]'(by omega)):=List.getElem?_eq_getElem (by omega);have h1:=hf j f hj;rw[ho,hk] at h1
  have hone':(cs'.drop j).take 1=[cs'[j]'(by omega)]:=by
   rw[List.drop_eq_getElem_cons (by omega)];rfl
  rw[hone'] at h1;have hys:ys[j]?=some (ys[j]'(by omega)):=List.getElem?_eq_getElem (by omega);refine ⟨_,_,?_,hys,h1.trans hys⟩;rw[← Go.Deep.add_add,hcell,hv]
theorem Jcw {r:Go.Reach} {b0:Nat} {t:TypeId} {fs:Array Field} {v:Value} {d:DataW H} {p:List MemPlace} (hs:P.underlying t=some (.struct fs)) (hone:oneCellFields P fs=true) (hC:P.cellsOf t=fs.size)
  (hv:Value.okWide P w r b0 t v) (h:DataW.Trod enc P w base spare held t v d p) :
  ∃ cs:List Value,v=.agg cs.toArray∧cs.length=fs.size∧∀ (j:Nat) (f:Field),fs[j]?=some f→∃ (v:Value) (y:DataW H × List MemPlace) (n:Nat),cs[j]?=some v∧DataW.trod enc P w base spare held n f.type [v]=some y:=by
 obtain ⟨cs,rfl,hsz⟩:=okWide_struct hs hv;obtain ⟨l⟩:=cs;obtain ⟨fuel,hf⟩:=h;obtain ⟨ys,n,_,hx,_,hlen,hg⟩:=DataW.trod_struct hs hf;have hll:l.length=fs.size:=hsz.trans hC;refine ⟨l,rfl,hll,fun j f hj=>?_⟩;obtain ⟨ho,hk⟩:=hone_of hone j f hj;have hjl:j<fs.size:=(Array.getElem?_eq_some_iff.1 hj).1;have h1:=hg j f hj;rw[ho,hk] at h1;have hcl:(Value.cells (.agg l.toArray)).toList=l:=rfl;rw[hcl] at h1
 have hone':(l.drop j).take 1=[l[j]'(by omega)]:=by
  rw[List.drop_eq_getElem_cons (by omega)];rfl
 rw[hone'] at h1;have hys:ys[j]?=some (ys[j]'(by omega)):=List.getElem?_eq_getElem (by omega);exact ⟨_,_,n,List.getElem?_eq_getElem (by omega),h1.trans hys⟩
end
theorem JaK {α:Type} (z:α) {n:Nat} {P:Nat→α→Prop} (h:∀ i,i<n→∃ x,P i x):∃ f:Nat→α,∀ i,i<n→P i (f i):=
 ⟨fun i=>if hi:i<n then (h i hi).choose else z,fun i hi=>by
  have:=(h i hi).choose_spec
  simpa[hi] using this⟩
theorem Zc {α:Type} (z:α) {n:Nat} {P:Nat→α→Prop} (h:∀ i,i<n→∃ x,P i x):∃ l:List α,l.length=n∧(∀ i x,l[i]?=some x→P i x)∧∀ x,x∈l→∃ i,i<n∧P i x:=by
 obtain ⟨f,hf⟩:=JaK z h;refine ⟨(List.range n).map f,by simp,fun i x hx=>?_,fun x hx=>?_⟩
 ·simp only[List.getElem?_map] at hx
  have hil:i<n:=by
   rcases Nat.lt_or_ge i n with h | h
   ·exact h
   ·rw[List.getElem?_eq_none (by simpa using h)] at hx; simp at hx
  rw[List.getElem?_range hil] at hx;simp only[Option.map_some,Option.some.injEq] at hx;subst hx;exact hf i hil
 ·obtain ⟨i,hi,rfl⟩:=List.mem_map.1 hx;exact ⟨i,by simpa using hi,hf i (by simpa using hi)⟩
theorem JaL {w:World} {a:Addr} {v:Value} (h:w.cell? a=some v):a.spot=none:=by
 unfold World.cell? at h;split at h
 ·cases hs:a.spot with
  | none=>rfl
  | some x=>simp[hs] at h
 ·cases h
theorem Jfc {w:World} {a:Addr} {v:Value} (h:w.cell? a=some v):a.block<w.heap.size:=by
 refine Nat.lt_of_not_le fun hn=>?_
 unfold World.cell? at h;rw[Array.getElem?_eq_none hn] at h;simp at h
theorem Jha {a:Addr} (h:a.spot=none) (n:Nat):a.add n=⟨a.block,a.off+n,none⟩:=by
 unfold Addr.add;split
 ·next e=>subst e; cases a; simp_all
 ·rfl
theorem Vy:maxLen=9223372036854775807:=rfl
theorem Jcx {α:Type} (R:α→List Value→Prop) (g:α→List Value) (hg:∀ a,R a (g a)):∀ l:List α,RowOf R l (l.flatMap g)
 | []=>rfl
 | a::l=>⟨g a,_,hg a,by simp,Jcx R g hg l⟩
theorem vx135 {P:Prop}(h:P:=by
  refine ⟨b,?_,?_⟩
  ·rw[Nat.div_eq_sub_div hm (by omega)];exact h1
  ·rw[Nat.mod_eq_sub_mod (by omega)]
   exact h2):P:=h
theorem YN {α:Type} (g:α→List Value) (m:Nat) (hm:0<m) (hg:∀ a,(g a).length=m):∀ (l:List α) (i:Nat) (u:Value),(l.flatMap g)[i]?=some u→∃ a,l[i / m]?=some a∧(g a)[i % m]?=some u
 | [],i,u,h=>by simp at h
 | a::l,i,u,h=>by
  rw[List.flatMap_cons] at h
  by_cases hi:i<m
  ·rw[List.getElem?_append_left (by rw[hg]; exact hi)] at h;exact ⟨a,by rw[Nat.div_eq_of_lt hi]; rfl,by rw[Nat.mod_eq_of_lt hi]; exact h⟩
  ·rw[List.getElem?_append_right (by rw[hg]; omega),hg] at h;obtain ⟨b,h1,h2⟩:=YN g m hm hg l (i-m) u h;exact vx135
theorem Vz {α:Type} {W:World} {a:Addr} {cap:Nat} {R:α→List Value→Prop} (g:α→List Value) (m:Nat) (hm:0<m) (hgl:∀ a,(g a).length=m) (hg:∀ a,R a (g a)) {l:List α} (hc:l.length≤cap)
  (h:∀ i x,l[i]?=some x→∀ j u,(g x)[j]?=some u→W.cell? (a.add (i*m+j))=some u):SliceOf W (In W) R l (.slice (some a) l.length cap):=by
 refine ⟨some a,cap,l.flatMap g,rfl,hc,Jcx R g hg l,?_⟩
 cases l with
 | nil=>exact .inl rfl
 | cons x0 l0=>
  refine .inr ?_;obtain ⟨u0,hu0⟩:∃ u,(g x0)[0]?=some u:=⟨_,List.getElem?_eq_getElem (by rw[hgl]; exact hm)⟩
  have h0:=h 0 x0 rfl 0 u0 hu0;have h0':W.cell? a=some u0:=by simpa[Addr.add] using h0
  have hsp:=JaL h0';refine ⟨a.block,a.off,by rw[← hsp],Jfc h0',fun j u hj=>?_⟩;obtain ⟨x,hx,hu⟩:=YN g m hm hgl _ _ _ hj;have h1:=h _ x hx _ u hu;rw[Jha hsp,show j / m*m+j % m=j by rw[Nat.mul_comm]; exact Nat.div_add_mod j m] at h1;exact h1
theorem Jfd {H:Type} {enc:TypeId × Value→H} {w:World} {base fuel:Nat} {spare:Nat→Bool} {held:Bool} {v:Value} {x:DataW H × List MemPlace}
  (hf:DataW.trod enc prog w base spare held fuel 22 [v]=some x) :
  ∃ (la:Option Addr) (lc:Nat) (l:List (List UInt8 × Int)),v=.slice la l.length lc∧LabsAt w (.slice la l.length lc) l:=by
 rcases VM underlying22 underlying91 (by kernel_rfl) (by kernel_rfl) hf with ⟨hcs,hx⟩ | ⟨a',len',cap',m,D,Pl,hcs,_,hl,hm,hmm,hx,hi⟩
 ·simp at hcs;subst hcs;exact ⟨none,0,[],rfl,none,0,[],rfl,Nat.le_refl _,rfl,.inl rfl⟩
 ·simp at hcs;subst hcs;have hlm:len'≤m:=by rw[hmm]; split <;> omega
  have key:∀ i,i<len'→∃ x:List UInt8 × Int,w.cell? (a'.add (i*2+0))=some (.string (bs x.1))∧w.cell? (a'.add (i*2+1))=some (.int .i64 x.2):=by
   intro i hil;obtain ⟨ys,n,_,_,hyl,hg⟩:=hi i (by omega);obtain ⟨v0,y0,c0,_,t0⟩:=hg 0 _ rfl;obtain ⟨v1,y1,c1,_,t1⟩:=hg 1 _ rfl;obtain ⟨s0,e0,_,w0⟩:=DataW.trod_string underlying9 t0;obtain ⟨n1,e1,_,w1⟩:=DataW.trod_int underlying3 t1;simp at e0 e1;obtain ⟨l0,rfl⟩:=Zd s0;subst e0 e1;exact ⟨(l0,n1),c0,c1⟩
  obtain ⟨l,hll,hl1,_⟩:=Zc (([],0):List UInt8 × Int) key;subst hll;refine ⟨some a',cap',l,rfl,?_⟩;unfold LabsAt;refine Vz (W:=w) (a:=a') (cap:=cap') (R:=fun (a:List UInt8 × Int) c=>c=[.string (bs a.1),.int .i64 a.2]) (fun x=>[.string (bs x.1),.int .i64 x.2]) 2 (by omega) (fun _=>rfl) (fun _=>rfl) hl fun i x hx j u hu=>?_
  obtain ⟨c0,c1⟩:=hl1 i x hx
  match j,hu with
  | 0,hu=>exact c0.trans hu
  | 1,hu=>exact c1.trans hu
theorem cellsStr:prog.cellsOf 9=1:=by kernel_rfl
theorem Jdm {H:Type} {enc:TypeId × Value→H} {w:World} {base fuel:Nat} {spare:Nat→Bool} {held:Bool} {v:Value} {x:DataW H × List MemPlace}
  (hf:DataW.trod enc prog w base spare held fuel 23 [v]=some x) :
  ∃ (la:Option Addr) (lc:Nat) (l:List (List UInt8)),v=.slice la l.length lc∧WordsAt w (.slice la l.length lc) l:=by
 rcases Go.ChangeShapes.open_strings underlying23 underlying9 cellsStr hf with ⟨hcs,_⟩ | ⟨a,len,cap,zs,hcs,_,hl,hm,hz,_,hc,hwf⟩
 ·simp at hcs;subst hcs;exact ⟨none,0,[],rfl,none,0,[],rfl,Nat.le_refl _,rfl,.inl rfl⟩
 ·simp at hcs;subst hcs;have hzl:len≤zs.length:=by rw[hz]; split <;> omega
  have htl:((zs.take len).map fun s=>s.data.toList).length=len:=by simp; omega
  refine ⟨some a,cap,(zs.take len).map fun s=>s.data.toList,by rw[htl],?_⟩;unfold WordsAt;refine Vz (W:=w) (a:=a) (cap:=cap) (R:=fun (a:List UInt8) c=>c=[.string (bs a)]) (fun x=>[.string (bs x)]) 1 (by omega) (fun _=>rfl) (fun _=>rfl) (by rw[htl]; exact hl) fun i x hx j u hu=>?_
  have hi:i<len:=by
   have:=(List.getElem?_eq_some_iff.1 hx).1;rw[htl] at this;exact this
  match j,hu with
  | 0,hu=>
   rw[Nat.mul_one,Nat.add_zero,hc i (by omega)];have hzi:zs[i]?=some zs[i]:=List.getElem?_eq_getElem (by omega);rw[List.getElem?_map,List.getElem?_take_of_lt hi,hzi] at hx;rw[List.getD_eq_getElem?_getD,hzi];obtain rfl:zs[i].data.toList=x:=by simpa using hx
   exact hu
theorem Jdn {H:Type} {enc:TypeId × Value→H} {w:World} {base:Nat} {spare:Nat→Bool} {held:Bool} {r:Go.Reach} {b0:Nat} {v:Value} {d:DataW H} {p:List MemPlace}
  (hv:Value.okWide prog w r b0 25 v) (h:DataW.Trod enc prog w base spare held 25 v d p) :
  ∃ (F:FactsM) (la wa:Option Addr) (lc wc:Nat),v=.agg (factsC F (.slice la F.labels.length lc) (.slice wa F.words.length wc))∧LabsAt w (.slice la F.labels.length lc) F.labels∧WordsAt w (.slice wa F.words.length wc) F.words:=by
 obtain ⟨cs,rfl,hlen,hg⟩:=Jcw underlying25 (by kernel_rfl) (by kernel_rfl) hv h;obtain ⟨v0,y0,k0,c0,t0⟩:=hg 0 _ rfl;obtain ⟨v1,y1,k1,c1,t1⟩:=hg 1 _ rfl;obtain ⟨v2,y2,k2,c2,t2⟩:=hg 2 _ rfl;obtain ⟨v3,y3,k3,c3,t3⟩:=hg 3 _ rfl;obtain ⟨v4,y4,k4,c4,t4⟩:=hg 4 _ rfl;obtain ⟨v5,y5,k5,c5,t5⟩:=hg 5 _ rfl;obtain ⟨v6,y6,k6,c6,t6⟩:=hg 6 _ rfl;obtain ⟨v7,y7,k7,c7,t7⟩:=hg 7 _ rfl;obtain ⟨v8,y8,k8,c8,t8⟩:=hg 8 _ rfl;obtain ⟨v9,y9,k9,c9,t9⟩:=hg 9 _ rfl;obtain ⟨v10,y10,k10,c10,t10⟩:=hg 10 _ rfl;obtain ⟨v11,y11,k11,c11,t11⟩:=hg 11 _ rfl;clear hg hv h;obtain ⟨la,lc,ll,rfl,hlab⟩:=Jfd t0;obtain ⟨wa,wc,wl,rfl,hwd⟩:=Jdm t11;obtain ⟨n1,e1,_,_⟩:=DataW.trod_int underlying3 t1;obtain ⟨n2,e2,_,_⟩:=DataW.trod_int underlying3 t2;obtain ⟨n3,e3,_,_⟩:=DataW.trod_int underlying3 t3;obtain ⟨n4,e4,_,_⟩:=DataW.trod_int underlying3 t4;obtain ⟨n5,e5,_,_⟩:=DataW.trod_int underlying3 t5;obtain ⟨n6,e6,_,_⟩:=DataW.trod_int underlying3 t6;obtain ⟨n7,e7,_,_⟩:=DataW.trod_int underlying3 t7;obtain ⟨n8,e8,_,_⟩:=DataW.trod_int underlying3 t8;obtain ⟨b9,e9,_⟩:=DataW.trod_bool underlying4 t9;obtain ⟨b10,e10,_⟩:=DataW.trod_bool underlying4 t10;simp only[List.cons.injEq,and_true] at e1 e2 e3 e4 e5 e6 e7 e8 e9 e10;subst e1 e2 e3 e4 e5 e6 e7 e8 e9 e10
 match cs,hlen with
 | [u0,u1,u2,u3,u4,u5,u6,u7,u8,u9,u10,u11],_=>
  simp only[List.getElem?_cons_zero,List.getElem?_cons_succ,Option.some.injEq] at c0 c1 c2 c3 c4 c5 c6 c7 c8 c9 c10 c11;subst c0 c1 c2 c3 c4 c5 c6 c7 c8 c9 c10 c11;exact ⟨⟨ll,n1,n2,n3,n4,n5,n6,n7,n8,b9,b10,wl⟩,la,wa,lc,wc,rfl,hlab,hwd⟩
end Go.Proofs.YtncanmdgdflnpaaGreatDoor
namespace Go.Proofs.YtncanmdgdflnpaaGreatDoor
open _root_.Go.Proofs.Tryz
set_option linter.all false
set_option maxRecDepth 100000
set_option maxHeartbeats 32000000
def ar0 (k:Int):Nat:=if k≤5 then 0 else if k=6∨k=7 then 1 else if k=18 then 3 else 2
theorem needL_cons' (fs:List SigM) (vars:List Int) (t:Int) (a:Nd) (l:List Nd):needL fs vars t (a::l)=(ofN fs vars a).2++(if (ofN fs vars a).1≠t then [a.off] else [])++needL fs vars t l:=by rw[needL]
theorem Jfe (fs:List SigM) (vars:List Int) (b:Bool) (ps:List Int) (a:Nd) (l:List Nd):argL fs vars b ps (a::l)=(ofN fs vars a).2++(if b=true∧(ofN fs vars a).1≠ps.headD 0 then [a.off] else [])++argL fs vars b ps.tail l:=by rw[argL]
def z0 (l:List Int):List Int:=l.map fun _=>0
theorem K7 {fs:List SigM} {vars:List Int} {t:Int}:∀ {l:List Nd},needL fs vars t l=[]→∀ a∈l,(ofN fs vars a).2=[]
 | [],_,a,ha=>by cases ha
 | x::l,h,a,ha=>by
  rw[needL_cons'] at h;simp only[List.append_eq_nil_iff] at h
  rcases List.mem_cons.1 ha with rfl | ha
  ·exact h.1.1
  ·exact K7 h.2 a ha
theorem JaM {fs:List SigM} {vars:List Int} {b:Bool}:∀ {l:List Nd} {ps:List Int},argL fs vars b ps l=[]→∀ a∈l,(ofN fs vars a).2=[]
 | [],_,_,a,ha=>by cases ha
 | x::l,ps,h,a,ha=>by
  rw[Jfe] at h;simp only[List.append_eq_nil_iff] at h
  rcases List.mem_cons.1 ha with rfl | ha
  ·exact h.1.1
  ·exact JaM h.2 a ha
theorem Jie {fs:List SigM} {vars:List Int} {k n:Int} {s:List UInt8} {o:Int} {l:List Nd} (h:(ofN fs vars (.mk k n s o l)).2=[]) (h19:k≠19) (hk:0≤k∧k<21) (hl:k≠20→l.length=ar0 k):∀ a∈l,(ofN fs vars a).2=[]:=by
 by_cases h5:k≤5
 ·have:=hl (by omega);unfold ar0 at this;rw[if_pos h5] at this;obtain rfl:=List.eq_nil_of_length_eq_zero this;intro a ha
  cases ha
 rw[JaA,if_neg (by omega),if_neg (by omega),if_neg (by omega)] at h
 by_cases h4:k=6∨(8≤k∧k≤12)
 ·rw[if_pos h4] at h;exact K7 h
 rw[if_neg h4] at h
 by_cases h6:k=13∨k=14
 ·rw[if_pos h6] at h;exact K7 h
 rw[if_neg h6] at h
 by_cases h7:k=15
 ·subst h7;rw[if_pos rfl] at h
  match l,hl (by decide),h with
  | [a,b],_,h=>
   simp only[List.append_eq_nil_iff] at h;intro x hx;simp at hx
   rcases hx with rfl | rfl
   ·exact h.1.1
   ·exact h.1.2
 rw[if_neg h7] at h
 by_cases h8:k=7∨k=16∨k=17
 ·rw[if_pos h8] at h;exact K7 h
 rw[if_neg h8] at h
 by_cases h9:k=18
 ·subst h9;rw[if_pos rfl] at h
  match l,hl (by decide),h with
  | [c,a,b],_,h=>
   simp only[List.append_eq_nil_iff] at h;intro x hx;simp at hx
   rcases hx with rfl | rfl | rfl
   ·exact h.1.1.1.1
   ·exact h.1.1.2
   ·exact h.1.2
 rw[if_neg h9,if_neg h19,if_pos (by omega)] at h;simp only[List.append_eq_nil_iff] at h;exact JaM h.2
theorem Jjv {pa:List Nat} {k n:Int} (hk:0≤k∧k<21) (h:k≠20):arityM pa k n=ar0 k:=by
 unfold arityM ar0
 by_cases h5:k≤5
 ·rw[if_pos (by omega),if_pos h5]
 ·rw[if_neg (by omega),if_neg h5];split
  ·rfl
  ·split
   ·rfl
   ·rfl
end Go.Proofs.YtncanmdgdflnpaaGreatDoor
