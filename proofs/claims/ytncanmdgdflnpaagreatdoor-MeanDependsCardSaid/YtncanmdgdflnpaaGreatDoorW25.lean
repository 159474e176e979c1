import GoSem.Op.String
import Derived.Test.YtncanmdgdflnpaaGreatDoorW24
namespace Go.Proofs.YtncanmdgdflnpaaGreatDoor
open Go.ChangeShapes Go.WideShapes Go.ChangeAt Go.RowKit Go.Lib
open _root_.Go.Proofs.Tryz
set_option linter.all false
set_option maxRecDepth 100000
set_option maxHeartbeats 32000000
theorem JjZ:∀ (l:List UInt8) (k:Nat) (ts:List Tok),sc k l=.ok ts→ts.length≤l.length+1:=by
 refine ZX (P:=fun k l=>∀ ts,sc k l=.ok ts→ts.length≤l.length+1) ?_ ?_ ?_ ?_
 ·intro k ts h;rw[JcB] at h;injection h with h;subst h;simp
 ·intro k c r hs ih ts h;rw[JgB k r hs] at h;have:=ih ts h;simp;omega
 ·intro k c r hs ht ts h;rw[ZV k r hs ht] at h
  cases h
 ·intro k c r t n hs ht _ _ ih ts h;rw[ZW k r hs ht] at h;obtain ⟨r',h1,rfl⟩:=JbI h;have:=ih _ h1;have hn:=(Jao ht).2;simp only[List.length_drop,List.length_cons] at this ⊢;have h3:n≤r.length+1:=by have:=hn.2.1; simpa using this
  omega
theorem JaY {l:List UInt8} {T:List Tok} {at':Int} (h:scanR l=(T,0,at')):at'=0∧T.length≤4097∧(∀ t∈T,t.text.length≤24)∧0<T.length∧∀ i t,T[i]?=some t→(t.kind=4↔i+1=T.length):=by
 unfold scanR at h;split at h
 ·simp at h
 ·cases hs:sc 0 l with
  | err k=>rw[hs] at h; simp at h
  | ok ts=>
   rw[hs] at h;simp at h;obtain ⟨rfl,rfl⟩:=h;have h1:=JjZ _ _ _ hs;obtain ⟨us,rfl,h2,_⟩:=Jis _ _ _ hs;refine ⟨rfl,by omega,?_,by simp,?_⟩
   ·intro t ht
    rcases List.mem_append.1 ht with ht | ht
    ·exact (h2 t ht).2.2.1
    ·simp at ht; subst ht; simp
   ·intro i t hi
    by_cases hl:i<us.length
    ·rw[List.getElem?_append_left hl] at hi;have:=(h2 t (List.mem_of_getElem? hi)).2.1;simp;omega
    ·rw[List.getElem?_append_right (by omega)] at hi;have:i-us.length=0:=by have:=(List.getElem?_eq_some_iff.1 hi).1; simp at this; omega
     rw[this] at hi;simp at hi;subst hi;simp;omega
theorem JiX {W:World} {base:Nat} {v:Value} {T:List Tok} (h:W.ownsRow base 105 4 v T.length (tokCells T)) (h0:0<T.length):∃ A C,v=.slice A T.length C∧∃ b,A=some ⟨b,0,none⟩∧b<W.heap.size∧∀ i t,T[i]?=some t→∀ j u,(tokZ t).toList[j]?=some u→W.cell? ⟨b,i*4+j,none⟩=some u:=by
 obtain ⟨A,C,hv,hA⟩:=KU h;refine ⟨A,C,hv,Value.blk v,hA h0,?_,fun i t hi j u hj=>?_⟩
 ·have hc:(tokCells T)[0]?≠none:=by
   cases T with
   | nil=>simp at h0
   | cons t r=>simp[tokCells]
  obtain ⟨u,hu⟩:=Option.ne_none_iff_exists'.1 hc;exact Ze (JT h hu)
 ·refine JT h ?_
  have e:∀ T:List Tok,tokCells T=T.flatMap fun t=>(tokZ t).toList:=by
   intro T
   induction T with
   | nil=>rfl
   | cons a r ih=>rw[tokCells,ih,List.flatMap_cons]; rfl
  rw[e];exact Kd (cells:=fun t=>(tokZ t).toList) (size:=4) (fun _=>rfl) T i j t u hi hj
theorem Jka {W:World} {base:Nat} {v:Value} {T:List Tok} (h:W.ownsRow base 105 4 v T.length (tokCells T)) (h0:0<T.length) (hr:T.length≤4097) (hf:∀ i t,T[i]?=some t→(t.kind=4↔i+1=T.length)) :
  ∃ A C,v=.slice A T.length C∧PAt (W.alloc (.cells #[v,.int .i64 0] 73)) W.heap.size A C T 0:=by
 obtain ⟨A,C,rfl,b,rfl,hb,hc⟩:=JiX h h0;refine ⟨_,C,rfl,zzw _ _,⟨b,0,rfl,by omega,fun i t hi j u hj=>?_⟩,h0,hf,by omega⟩;rw[Nat.zero_add];have:=hc i t hi j u hj;exact (World.cell?_of_block (a:=⟨b,i*4+j,none⟩) (Below.heap_alloc _ _ _ hb)).trans this
theorem Res.on {S:List Nat} {w W W':World} {rs:Array Value} {er a:Int} (h:Res w W rs er a) (hc:Chg S W W') (hs:∀ b∈S,w.heap.size+3≤b):Res w W' rs er a:=
 ⟨hc.heap_some (fun hm=>by have:=hs _ hm; omega) h.r,hc.heap_some (fun hm=>by have:=hs _ hm; omega) h.e,hc.heap_some (fun hm=>by have:=hs _ hm; omega) h.a,
  ⟨hc.os.trans h.bel.os,hc.tape.trans h.bel.tape,hc.output.trans h.bel.output,Nat.le_trans h.bel.size hc.size,fun q hq=>(hc.block q (Nat.lt_of_lt_of_le hq h.bel.size) (fun hm=>by have:=hs _ hm; omega)).trans (h.bel.block q hq)⟩⟩
theorem Res.low {w W W':World} {sb:Nat} {rs:Array Value} {er a:Int} (h:Res w W rs er a) (hc:Below sb W W') (hs:w.heap.size+3≤sb):Res w W' rs er a:=
 ⟨(hc.block _ (by omega)).trans h.r,(hc.block _ (by omega)).trans h.e,(hc.block _ (by omega)).trans h.a,
  ⟨hc.os.trans h.bel.os,hc.tape.trans h.bel.tape,hc.output.trans h.bel.output,Nat.le_trans h.bel.size hc.size,fun q hq=>(hc.block q (by omega)).trans (h.bel.block q hq)⟩⟩
theorem Yp {w W:World} {f0 f1 f2:Value} {e0 a0:Int} (er o:Int) (h:Res w W #[f0,f1,f2] e0 a0) (tmps:Array Value) (h2:tmps.getD 2 undef=.pointer (some ⟨w.heap.size,0,none⟩)) (h3:tmps.getD 3 undef=.pointer (some ⟨w.heap.size+1,0,none⟩)) (h4:tmps.getD 4 undef=.pointer (some ⟨w.heap.size+2,0,none⟩)) :
  Leaves prog Tryz.f11 tmps (PsP w (noRule,er,o)) [{ target:=.fn (.func 33) #[.pointer (some ⟨w.heap.size,0,none⟩),.pointer (some ⟨w.heap.size+1,0,none⟩),.pointer (some ⟨w.heap.size+2,0,none⟩)],args:=#[] }] (.panicking [{ v:=failE er o,recovered:=false }]) W:=by
 refine leaves_cons (f:=33) (args:=#[.pointer (some ⟨w.heap.size,0,none⟩),.pointer (some ⟨w.heap.size+1,0,none⟩),.pointer (some ⟨w.heap.size+2,0,none⟩)]) (by simp) (by simp[go_sem]) ?_;refine (Yc _ _ _ er o [] f0 f1 f2 e0 a0 W h.r h.e h.a (by omega) (by omega) (by omega)).mono ?_;rintro e u' w'' ⟨rfl,rfl,g1,g2,g3,hc⟩;have hR:Res w w'' #[.slice none 0 0,.slice none 0 0,.int .i64 0] er o:=⟨g1,g2,g3,⟨hc.os.trans h.bel.os,hc.tape.trans h.bel.tape,hc.output.trans h.bel.output,Nat.le_trans h.bel.size hc.size,fun q hq=>(hc.block q (Nat.lt_of_lt_of_le hq h.bel.size) (by simp; omega)).trans (h.bel.block q hq)⟩⟩
 exact ⟨_,KP hR rfl tmps h2 h3 h4,_,rfl,JcX _ _,hR.bel⟩
theorem JiY {w W:World} {c:Array Value} {e0 a0:Int} {r:RuleM} (h:Res w W c e0 a0) (hs:c.size=3) (hx:RuleX W (fun b=>w.heap.size≤b∧b<W.heap.size) r c) (tmps:Array Value) (h2:tmps.getD 2 undef=.pointer (some ⟨w.heap.size,0,none⟩)) (h3:tmps.getD 3 undef=.pointer (some ⟨w.heap.size+1,0,none⟩)) (h4:tmps.getD 4 undef=.pointer (some ⟨w.heap.size+2,0,none⟩)) :
  Leaves prog Tryz.f11 tmps (PsP w (r,e0,a0)) [{ target:=.fn (.func 33) #[.pointer (some ⟨w.heap.size,0,none⟩),.pointer (some ⟨w.heap.size+1,0,none⟩),.pointer (some ⟨w.heap.size+2,0,none⟩)],args:=#[] }] .returning W:=by
 refine leaves_cons (f:=33) (args:=#[.pointer (some ⟨w.heap.size,0,none⟩),.pointer (some ⟨w.heap.size+1,0,none⟩),.pointer (some ⟨w.heap.size+2,0,none⟩)]) (by simp) (by simp[go_sem]) ?_;refine (Jch _ _ _ W).mono ?_;rintro e u' w'' ⟨rfl,rfl,hb⟩;have hR:=h.up hb;exact ⟨_,KP hR hs tmps h2 h3 h4,c,rfl,hx.keep (fun b hb'=>hb.block b hb'.2) (fun b hb'=>⟨hb'.1,Nat.lt_of_lt_of_le hb'.2 hb.size⟩),hR.bel⟩
def contM (s:Src):RuleM × Int × Int:=
 match limitM s with
 | some o=>(noRule,7,o)
 | none=>
  match least (resolveM s).2 with
  | some o=>(noRule,16,o)
  | none=>
   match least (checkM (resolveM s).1) with
   | some o=>(noRule,15,o)
   | none=>(ruleOf (resolveM s).1,0,0)
theorem ZtZ {f:Nat} {T r:List Tok} {s:Src} (h:srcP f T=.ok s r):parseT f T=some (contM s):=by
 unfold parseT contM;rw[h];simp only
 cases limitM s <;> simp only
 cases least (resolveM s).2 <;> simp only
 cases least (checkM (resolveM s).1) <;> rfl
theorem Jfl {s:Src} {o:Int} (h:limitM s=some o):contM s=(noRule,7,o):=by unfold contM; rw[h]
theorem Jfm {s:Src} {o:Int} (h:limitM s=none) (h2:least (resolveM s).2=some o):contM s=(noRule,16,o):=by unfold contM; rw[h,h2]
theorem Jhn {s:Src} (h:limitM s=none) (h2:least (resolveM s).2=none):contM s=match least (checkM (resolveM s).1) with | some o=>(noRule,15,o) | none=>(ruleOf (resolveM s).1,0,0):=by unfold contM; rw[h,h2]
theorem Jfn:∀ l:List FnS,l.length≤fnsSiz l
 | []=>by simp
 | f::l=>by
  have:=Jfn l;unfold fnsSiz at this ⊢;simp only[List.map_cons,List.sum_cons,List.length_cons];have:1≤f.siz:=by unfold FnS.siz; omega
  omega
theorem Jfo:∀ l:List ClS,l.length≤clsSiz l
 | []=>by simp
 | f::l=>by
  have:=Jfo l;unfold clsSiz at this ⊢;simp only[List.map_cons,List.sum_cons,List.length_cons];have:1≤f.siz:=by unfold ClS.siz; omega
  omega
theorem Jfp {f:FnS}:∀ {l:List FnS},f∈l→f.siz≤fnsSiz l
 | a::l,h=>by
  unfold fnsSiz;simp only[List.map_cons,List.sum_cons]
  rcases List.mem_cons.1 h with rfl | h
  ·omega
  ·have:=Jfp h;unfold fnsSiz at this;omega
theorem Jfq {f:ClS}:∀ {l:List ClS},f∈l→f.siz≤clsSiz l
 | a::l,h=>by
  unfold clsSiz;simp only[List.map_cons,List.sum_cons]
  rcases List.mem_cons.1 h with rfl | h
  ·omega
  ·have:=Jfq h;unfold clsSiz at this;omega
structure SrcB (s:Src):Prop where
 nf:s.funcs.length≤8194
 nc:s.clauses.length≤8194
 f:∀ x∈s.funcs,FnWf x∧siz x.body≤8194∧x.types.length≤8194∧x.params.length=x.types.length
 c:∀ x∈s.clauses,ClWf x∧siz x.cond≤8194
theorem Jkb {f:Nat} {T r:List Tok} {s:Src} (h:srcP f T=.ok s r) (hT:T.length≤4097) (hx:∀ t∈T,t.text.length≤24):SrcB s:=by
 obtain ⟨h1,h2⟩:=JgU h;obtain ⟨h3,h4⟩:=JiW (fun t ht=>Nat.le_trans (hx t ht) (by decide)) h;have q1:=Jfn s.funcs;have q2:=Jfo s.clauses;refine ⟨by omega,by omega,fun x hx=>?_,fun x hx=>?_⟩
 ·have q:=Jfp hx;have e:x.siz=siz x.body+x.params.length+x.types.length+1:=rfl;exact ⟨h3 x hx,by omega,by omega,h2 x hx⟩
 ·have q:=Jfq hx;have e:x.siz=siz x.cond+1:=rfl;exact ⟨h4 x hx,by omega⟩
theorem Jho {S:SrcA} (h:SrcB S.src):∀ r∈S.rootsA,siz r.2.nd≤1000000000:=by
 intro r hr;have hm:r.2.nd∈S.src.roots:=by rw[← JcP]; exact List.mem_map.2 ⟨r,hr,rfl⟩
 unfold Src.roots at hm
 rcases List.mem_append.1 hm with hm | hm
 ·obtain ⟨f,hf,e⟩:=List.mem_map.1 hm;rw[← e];exact Nat.le_trans (h.f f hf).2.1 (by decide)
 ·obtain ⟨f,hf,e⟩:=List.mem_map.1 hm;rw[← e];exact Nat.le_trans (h.c f hf).2 (by decide)
theorem JaZ {S:SrcA}:S.src.funcs.length=S.funcs.length:=by simp[SrcA.src]
theorem Jfr {S:SrcA}:S.src.clauses.length=S.clauses.length:=by simp[SrcA.src]
theorem JiZ {S:SrcA} {f:FnA} (h:f∈S.funcs):f.src∈S.src.funcs:=List.mem_map.2 ⟨f,h,rfl⟩
theorem Jja {S:SrcA} {c:ClA} (h:c∈S.clauses):c.src∈S.src.clauses:=List.mem_map.2 ⟨c,h,rfl⟩
theorem JdR (l:List UInt8) (w:World) (hl:l.length≤281474976710655) (hL:Laid w) (T:List Tok) (at0:Int) (hsc:scanR l=(T,0,at0)) :
  Calls prog 11 #[.string (bs l)] w (PsP w ((parseT (12*(T.length+1)) T).getD (noRule,0,0))):=by
 obtain ⟨X,hX⟩:∃ X,(parseT (12*(T.length+1)) T).getD (noRule,0,0)=X:=⟨_,rfl⟩
 rw[hX];have HX:=Zh hX;obtain ⟨rfl,hT,htx,hT0,hfin⟩:=JaY hsc;obtain ⟨f,hf⟩:∃ f,f=12*(T.length+1):=⟨_,rfl⟩
 rw[← hf] at HX;have HF:=Zh hf;have HT:=Zh (And.intro hT (And.intro htx (And.intro hT0 hfin)))
 have hr0:Res w (((w.alloc (.cells #[.slice none 0 0,.slice none 0 0,.int .i64 0] 30)).alloc (.cells #[.int .i64 0] 31)).alloc (.cells #[.int .i64 0] 3)) #[.slice none 0 0,.slice none 0 0,.int .i64 0] 0 0:=by
  exact wx41
 have HR0:=Zh hr0;have hmf:∀ (fn:Fn) (first cap:Array Value) (w:World),(Instr.makeFunc fn first cap).run prog w=.ok (.func fn first cap) w:=fun _ _ _ _=>rfl
 clear hr0 hX hf hT htx hT0 hfin;go_enter_defers func11,ntmps11;go_wp2_with fail;generalize World.alloc (World.alloc (World.alloc w _) _) _=w1 at *;have hw1:=hL.below HR0.out.bel;refine (JcC l w1 hl hw1).mono ?_;rw[hsc];rintro e w2 ⟨v,rfl,hown,hb⟩;obtain ⟨va,vc,rfl⟩:=Z0 hown;have HL1:Hid (w.heap.size+3≤w1.heap.size):=by have:=Jb HR0.out.a; unfold Hid; omega
 have HR2:=Zh (HR0.out.up hb);have HOW:Hid _:=Zh hown;clear HR0 hown hb hsc hw1 hL;obtain ⟨r0,r1,r2,e0,a0,q0,q1,q2,q3,q4⟩:=HR2.out.cells;have HR3:=Zh ((HR2.out.setE 0).setA 0)
 have HO3:Hid (((w2.setCell ⟨w.heap.size+1,0,none⟩ (.int .i64 0)).setCell ⟨w.heap.size+2,0,none⟩ (.int .i64 0)).ownsRow w1.heap.size 105 4 (.slice va T.length vc) T.length (tokCells T)):=by
  have hst:Chg [w.heap.size+1,w.heap.size+2] w2 ((w2.setCell ⟨w.heap.size+1,0,none⟩ (.int .i64 0)).setCell ⟨w.heap.size+2,0,none⟩ (.int .i64 0)):=((Chg.refl _ _).setCell (.inl (by simp)) _).setCell (.inl (by simp)) _;refine Jx HOW.out hst ?_;intro g hg;have:=HL1.out;simp at hg;omega
 have HS3:Hid (((w2.setCell ⟨w.heap.size+1,0,none⟩ (.int .i64 0)).setCell ⟨w.heap.size+2,0,none⟩ (.int .i64 0)).heap.size=w2.heap.size):=by unfold Hid; simp[World.setCell]
 clear r0 r1 r2 q0 q1 q2 HR2 HOW;go_wp2_with fail;clear e0 a0 q3 q4;generalize World.setCell (World.setCell w2 _ _) _ _=w3 at *;obtain ⟨r0,r1,r2,e0,a0,q0,q1,q2,q3,q4⟩:=HR3.out.cells;clear r0 r1 r2 q0 q1 q2 q3 q4 a0;go_wp2_with fail;rw[← HS3.out];obtain ⟨hT,htx,hT0,hfin⟩:=HT.out;obtain ⟨A,C,hAC,hP⟩:=Jka HO3.out hT0 hT hfin;obtain ⟨rfl,rfl⟩:va=A∧vc=C:=by injection hAC with h1 _ h2; exact ⟨h1,h2⟩
 have hne:srcP f T≠.out:=JeK (by have:=HF.out; omega);have hb4:Below w3.heap.size w3 (w3.alloc (.cells #[.slice va T.length vc,.int .i64 0] 73)):=zzb.alloc zzl _;have HR4:=Zh (HR3.out.up hb4);have hs4:(w3.alloc (.cells #[.slice va T.length vc,.int .i64 0] 73)).heap.size=w3.heap.size+1:=by simp
 have HP3:Hid (w.heap.size+3≤w3.heap.size):=by have:=Jb HR3.out.a; unfold Hid; omega
 have hC:=JgR f w3.heap.size va vc T (by have:=HF.out; omega) (fun t ht=>Nat.le_trans (htx t ht) (by decide)) 0 _ hP (by rw[List.drop_zero]; exact hne);rw[List.drop_zero] at hC;clear e0 HO3 hb4 hAC hP HR3;generalize hw4:w3.alloc (.cells #[.slice va T.length vc,.int .i64 0] 73)=w4 at *;have HS4:=Zh hs4;clear hs4 hw4;refine hC.mono ?_
 cases hsp:srcP f T with
 | out=>exact absurd hsp hne
 | bad o=>
  rintro e w5 ⟨rfl,hc⟩;have hX:X=(noRule,2,o):=by rw[← HX.out]; unfold parseT; rw[hsp]; rfl
  have hR5:Res w w5 _ 0 0:=HR4.out.on hc (by intro b hb; simp at hb; have:=HP3.out; omega);rw[hX];exact Yp 2 o hR5 _ rfl rfl rfl
 | ok s r=>
  rintro e w5 ⟨S,hS,rfl,hok,hc⟩;have HB:Hid (SrcB S.src):=by unfold Hid; rw[hS]; exact Jkb hsp hT htx
  have HR5:=Zh (HR4.out.on hc (by intro b hb; simp at hb; have:=HP3.out; omega));have HSB:Hid (w.heap.size+3≤w4.heap.size):=by have:=HS4.out; have:=HP3.out; unfold Hid; omega
  have HXS:Hid (X=contM S.src):=by rw[hS]; exact HX.out.symm.trans (by rw[ZtZ hsp]; rfl)
  have HOK:=Zh hok;clear hC hc hsp hS hok HR4 HS4 HP3 hne hT htx hT0 hfin HT HF;generalize w4.heap.size=sb at *;go_wp2_with fail;refine (JeO w5 sb S HOK.out (by rw[← JaZ]; exact Nat.le_trans HB.out.nf (by decide)) (by rw[← Jfr]; exact Nat.le_trans HB.out.nc (by decide)) (Jho HB.out)).mono ?_
  cases hlm:limitM S.src with
  | some o=>
   rintro e w6 ⟨rfl,hb6⟩;have hX:X=(noRule,7,o):=HXS.out.trans (Jfl hlm);rw[hX];exact Yp 7 o (HR5.out.up hb6) _ rfl rfl rfl
  | none=>
  rintro e w6 ⟨rfl,hb6⟩;have HR6:=Zh (HR5.out.up hb6);have HOK6:=Zh (HOK.out.on (Chg.of_below hb6 []) (by simp));have HLM:=Zh hlm;clear HR5 HOK hb6 hlm;go_wp2_with fail;refine (Jcf w6 sb S HOK6.out (by rw[← JaZ]; exact Nat.le_trans HB.out.nf (by decide)) (by rw[← Jfr]; exact Nat.le_trans HB.out.nc (by decide)) (fun g hg=>?c1) (fun c hg=>?c2)).mono ?_
  case c1=>
   have q:=HB.out.f _ (JiZ hg);exact ⟨q.1.1,Nat.le_trans q.2.1 (by decide),q.1.2,by have h1:g.params.length=g.types.length:=q.2.2.2; have h2:g.types.length≤8194:=q.2.2.1; show g.params.length≤_; omega⟩
  case c2=>
   have q:=HB.out.c _ (Jja hg);exact ⟨q.1,Nat.le_trans q.2 (by decide)⟩
  intro e w7 h7;unfold RsP at h7
  cases hrs:least (resolveM S.src).2 with
  | some o=>
   rw[hrs] at h7;obtain ⟨rfl,hb7⟩:=h7;have hX:X=(noRule,16,o):=HXS.out.trans (Jfm HLM.out hrs);rw[hX];exact Yp 16 o (HR6.out.low hb7 HSB.out) _ rfl rfl rfl
  | none=>
  rw[hrs] at h7;obtain ⟨rfl,hb7,S',hS',hok7⟩:=h7;have HR7:=Zh (HR6.out.low hb7 HSB.out);replace HXS:Hid (X=match least (checkM (resolveM S.src).1) with | some o=>(noRule,15,o) | none=>(ruleOf (resolveM S.src).1,0,0)):=HXS.out.trans (Jhn HLM.out hrs);have hro:=Zs (m:=8194) (fun g hg=>HB.out.f g hg) (fun c hc=>HB.out.c c hc) hrs;rw[← hS'] at hro;rw[← hS'] at HXS;have HRO:=Zh hro
  have HB7:Hid (S'.funcs.length≤8194∧S'.clauses.length≤8194):=by
   have h1:=hro.2.2;have h2:=HB.out.nf;have h3:=HB.out.nc;rw[JaZ,Jfr] at h1;exact ⟨by omega,by omega⟩
  have HOK7:=Zh hok7;clear HR6 HOK6 hb7 hrs hS' hok7 hro HB HLM;go_wp2_with fail;refine (Jfc w7 sb S' HOK7.out (Nat.le_trans HB7.out.1 (by decide)) (Nat.le_trans HB7.out.2 (by decide)) (fun g hg=>?c3) (fun c hg=>?c4)).mono ?_
  case c3=>
   have q:=HRO.out.1 _ (JiZ hg);rw[JaZ] at q;exact ⟨q.1,Nat.le_trans q.2.1 (by decide),Nat.le_trans q.2.2.1 (by decide),q.2.2.2⟩
  case c4=>
   have q:=HRO.out.2.1 _ (Jja hg);rw[JaZ] at q;exact ⟨q.1,Nat.le_trans q.2.1 (by decide),q.2.2⟩
  cases hck:least (checkM S'.src) with
  | some o=>
   rintro e w8 ⟨rfl,hb8⟩;have hX:X=(noRule,15,o):=by rw[HXS.out,hck]
   rw[hX];exact Yp 15 o (HR7.out.up hb8) _ rfl rfl rfl
  | none=>
  rintro e w8 ⟨rfl,hb8⟩;have HR8:=Zh (HR7.out.up hb8);have HOK8:=Zh (HOK7.out.on (Chg.of_below hb8 []) (by simp));have hX:X=(ruleOf S'.src,0,0):=by rw[HXS.out,hck]
  clear HR7 HOK7 hb8 hck HXS HX;subst hX;go_wp2_with fail;refine (Jfg w8 sb S' HOK8.out (Nat.le_trans HB7.out.1 (by decide)) (Nat.le_trans HB7.out.2 (by decide)) (fun g hg=>Nat.le_trans (HRO.out.1 _ (JiZ hg)).2.1 (by decide)) (fun c hg=>Nat.le_trans (HRO.out.2.1 _ (Jja hg)).2.1 (by decide))).mono ?_;rintro e w9 ⟨c,rfl,hx,hb9⟩;have HX9:=Zh hx;have HR9:=Zh (HR8.out.up hb9);obtain ⟨fv,cv,rfl,⟨fa,fc,fx,rfl,_⟩,⟨ca,cc,cx,rfl,_⟩⟩:=hx;generalize (ruleOf S'.src).funcs.length=fl at *;generalize (ruleOf S'.src).clauses.length=cl at *;obtain ⟨r0,r1,r2,e0,a0,q0,q1,q2,q3,q4⟩:=HR9.out.cells;have HR10:=Zh (((HR9.out.setR (.slice fa fl fc) (.slice ca cl cc) (.int .i64 (ruleOf S'.src).action)).setE 0).setA 0)
  have HXX:Hid (RuleX (((((w9.setCell ⟨w.heap.size,0,none⟩ (.slice fa fl fc)).setCell ⟨w.heap.size,1,none⟩ (.slice ca cl cc)).setCell ⟨w.heap.size,2,none⟩ (.int .i64 (ruleOf S'.src).action)).setCell ⟨w.heap.size+1,0,none⟩ (.int .i64 0)).setCell ⟨w.heap.size+2,0,none⟩ (.int .i64 0)) (fun b=>w.heap.size≤b∧b<(((((w9.setCell ⟨w.heap.size,0,none⟩ (.slice fa fl fc)).setCell ⟨w.heap.size,1,none⟩ (.slice ca cl cc)).setCell ⟨w.heap.size,2,none⟩ (.int .i64 (ruleOf S'.src).action)).setCell ⟨w.heap.size+1,0,none⟩ (.int .i64 0)).setCell ⟨w.heap.size+2,0,none⟩ (.int .i64 0)).heap.size) (ruleOf S'.src) #[.slice fa fl fc,.slice ca cl cc,.int .i64 (ruleOf S'.src).action]):=by
   have hst:Chg [w.heap.size,w.heap.size+1,w.heap.size+2] w9 (((((w9.setCell ⟨w.heap.size,0,none⟩ (.slice fa fl fc)).setCell ⟨w.heap.size,1,none⟩ (.slice ca cl cc)).setCell ⟨w.heap.size,2,none⟩ (.int .i64 (ruleOf S'.src).action)).setCell ⟨w.heap.size+1,0,none⟩ (.int .i64 0)).setCell ⟨w.heap.size+2,0,none⟩ (.int .i64 0)):=(((((Chg.refl _ _).setCell (.inl (by simp)) _).setCell (.inl (by simp)) _).setCell (.inl (by simp)) _).setCell (.inl (by simp)) _).setCell (.inl (by simp)) _;have h1:=HSB.out;exact HX9.out.keep (fun b hb=>hst.block b hb.2 (by have:=hb.1; simp; omega)) (fun b hb=>⟨by have:=hb.1; omega,Nat.lt_of_lt_of_le hb.2 hst.size⟩)
  clear HR8 HOK8 hb9 HR9 HX9 HRO HB7;go_wp2_with fail;exact JiY HR10.out rfl HXX.out _ rfl rfl rfl
theorem parse_any' (l:List UInt8) (w:World) (hl:l.length≤281474976710655) (hL:Laid w):Calls prog 11 #[.string (bs l)] w (PsP w (parseM l)):=by
 unfold parseM
 by_cases h:(scanR l).2.1=0
 ·rw[if_pos h];exact JdR l w hl hL _ (scanR l).2.2 (by rw[← h])
 ·rw[if_neg h];exact JdQ l w hl hL h
end Go.Proofs.YtncanmdgdflnpaaGreatDoor
namespace Go.Proofs.YtncanmdgdflnpaaGreatDoor
open Go Go.Lib
open _root_.Go.Proofs.Tryz
set_option linter.all false
set_option maxRecDepth 100000
set_option maxHeartbeats 32000000
def ltB (a b:List UInt8):Bool:=Op.bytesLess a b
theorem Jfs (a:List UInt8):ltB a []=false:=by cases a <;> rfl
theorem Yq (x y:UInt8) (a b:List UInt8):ltB (x::a) (y::b)=(decide (x<y)||(x==y&&ltB a b)):=rfl
theorem Kq:∀ a:List UInt8,ltB a a=false
 | []=>rfl
 | x::a=>by
  rw[Yq,Kq a];simp
theorem KI:∀ {a b c:List UInt8},ltB a b=true→ltB b c=true→ltB a c=true
 | a,b,[],h1,h2=>by rw[Jfs] at h2; cases h2
 | a,[],c,h1,h2=>by rw[Jfs] at h1; cases h1
 | [],y::b,z::c,h1,h2=>rfl
 | x::a,y::b,z::c,h1,h2=>by
  rw[Yq] at *;simp only[Bool.or_eq_true,Bool.and_eq_true,decide_eq_true_eq,beq_iff_eq,UInt8.lt_iff_toNat_lt,← UInt8.toNat_inj] at *
  rcases h1 with h1 | ⟨h1,h3⟩ <;> rcases h2 with h2 | ⟨h2,h4⟩
  ·left; omega
  ·left; omega
  ·left; omega
  ·exact .inr ⟨by omega,KI h3 h4⟩
theorem Jci:∀ a b:List UInt8,ltB a b=true∨a=b∨ltB b a=true
 | [],[]=>.inr (.inl rfl)
 | [],y::b=>.inl rfl
 | x::a,[]=>.inr (.inr rfl)
 | x::a,y::b=>by
  rw[Yq,Yq];simp only[Bool.or_eq_true,Bool.and_eq_true,decide_eq_true_eq,beq_iff_eq,UInt8.lt_iff_toNat_lt,← UInt8.toNat_inj,List.cons.injEq]
  rcases Nat.lt_trichotomy x.toNat y.toNat with h | h | h
  ·exact .inl (.inl h)
  ·rcases Jci a b with h2 | h2 | h2
   ·exact .inl (.inr ⟨h,h2⟩)
   ·exact .inr (.inl ⟨h,h2⟩)
   ·exact .inr (.inr (.inr ⟨h.symm,h2⟩))
  ·exact .inr (.inr (.inl h))
theorem Jjb (a b:List UInt8):(ltB a b||a==b)=!ltB b a:=by
 rcases Jci a b with h | h | h
 ·have:ltB b a=false:=by
   cases h2:ltB b a with
   | false=>rfl
   | true=>have:=KI h h2; rw[Kq] at this; cases this
  rw[h,this]; rfl
 ·subst h;rw[Kq]; simp
 ·have h1:ltB a b=false:=by
   cases h2:ltB a b with
   | false=>rfl
   | true=>have:=KI h h2; rw[Kq] at this; cases this
  have h3:(a==b)=false:=by
   cases h2:a==b with
   | false=>rfl
   | true=>rw[eq_of_beq h2,Kq] at h; cases h
  rw[h,h1,h3]; rfl
end Go.Proofs.YtncanmdgdflnpaaGreatDoor
namespace Go.Proofs.YtncanmdgdflnpaaGreatDoor
open _root_.Go.Proofs.Tryz
set_option linter.all false
set_option maxRecDepth 100000
set_option maxHeartbeats 32000000
mutual
def utN:Exp→Nd
 | .mk k n s l=>.mk k n s 0 (utL l)
def utL:List Exp→List Nd
 | []=>[]
 | a::l=>utN a::utL l
end
def fieldsB (nf vars:Nat) (k n:Int) (s:List UInt8):Bool:=
 (if k=0 then decide (0≤n)&&decide (n≤1125899906842624)
  else if k=1 then n==0||n==1
  else if k=2 then decide (0≤n)&&decide (n<(vars:Int))
  else if k=19 then n==(vars:Int)
  else if k=20 then decide (0≤n)&&decide (n<(nf:Int))
  else n==0) &&
 (if k=3 then (factI s).isSome else if k=4∨k=5 then textB s else s==[])&&decide (0≤k)&&decide (k<21)
def arityM (pa:List Nat) (k n:Int):Nat:=
 if k=0∨k=1∨k=2∨k=3∨k=4∨k=5 then 0
 else if k=6∨k=7 then 1
 else if k=18 then 3
 else if k=20 then pa.getD n.toNat 0
 else 2
mutual
def fitsN (pa:List Nat):Nat→Nat→Exp→Bool
 | vars,nest,.mk k n s l=>decide (1≤nest)&&fieldsB pa.length vars k n s&&l.length==arityM pa k n&&fitsL pa vars (nest-1) k 0 l
def fitsL (pa:List Nat):Nat→Nat→Int→Nat→List Exp→Bool
 | _,_,_,_,[]=>true
 | vars,nest,k,i,a::l=>fitsN pa (if k=19∧i=1 then vars+1 else vars) nest a&&fitsL pa vars nest k (i+1) l
end
def RuleM.pa (r:RuleM):List Nat:=r.funcs.map (·.params.length)
def RuleM.sigs (r:RuleM):List SigM:=r.funcs.map fun f=>⟨f.params,f.result⟩
def treesM (r:RuleM):Bool:=r.funcs.all (fun f=>fitsN r.pa f.params.length 40 f.body)&&r.clauses.all (fun c=>fitsN r.pa 0 40 c.cond)
def typedM (r:RuleM):Bool:=r.funcs.all (fun f=>needN r.sigs f.params f.result (utN f.body)==[])&&r.clauses.all (fun c=>needN r.sigs [] 1 (utN c.cond)==[])
def typeB (t:Int):Bool:=t==0||t==1
def namesM:List (List UInt8)→List FnM→Bool
 | _,[]=>true
 | seen,f::l=>identB f.name&&!decide (f.name∈seen)&&typeB f.result&&f.params.all typeB&&namesM (seen++[f.name]) l
def actB (n:Int):Bool:=decide (0≤n)&&decide (n≤3)
def clsM (l:List ClM):Bool:=l.all fun c=>actB c.action&&textB c.reason
def rightM (r:RuleM):Bool:=namesM [] r.funcs&&clsM r.clauses&&actB r.action&&treesM r&&typedM r
structure FactsM where
 labels:List (List UInt8 × Int)
 likes:Int
 boosts:Int
 replies:Int
 reports:Int
 age:Int
 home:Int
 scope:Int
 length:Int
 follows:Bool
 reply:Bool
 words:List (List UInt8)
def numB (n:Int):Bool:=decide (0≤n)&&decide (n≤1125899906842624)
def FactsM.nums (f:FactsM):List Int:=[f.likes,f.boosts,f.replies,f.reports,f.age,f.home,f.scope,f.length]
def labelsB:Option (List UInt8)→List (List UInt8 × Int)→Bool
 | _,[]=>true
 | p,c::l=>decide (1≤c.2)&&decide (c.2≤1125899906842624)&&(match p with | none=>true | some q=>ltB q c.1)&&labelsB (some c.1) l
def wordsB:Option (List UInt8)→List (List UInt8)→Bool
 | _,[]=>true
 | p,c::l=>(match p with | none=>true | some q=>ltB q c)&&wordsB (some c) l
def factsM (f:FactsM):Bool:=f.nums.all numB&&labelsB none f.labels&&wordsB none f.words
def bitI (b:Bool):Int:=if b=true then 1 else 0
def factV (f:FactsM) (s:List UInt8):Int:=
 if s=fLikes then f.likes else if s=fBoosts then f.boosts else if s=fReplies then f.replies else if s=fReports then f.reports
 else if s=fAge then f.age else if s=fHome then f.home else if s=fScope then f.scope else if s=fLength then f.length
 else if s=fFollows then bitI f.follows else bitI f.reply
def lookC:List (List UInt8 × Int)→List UInt8→Int
 | [],_=>0
 | c::l,s=>if c.1=s then c.2 else lookC l s
def wordV (l:List (List UInt8)) (s:List UInt8):Int:=bitI (decide (s∈l))
inductive RN (α:Type) where
 | fault (er:Int) (used:Nat)
 | val (a:α) (used:Nat)
def RN.bind {α β:Type} (x:RN α) (f:α→Nat→RN β):RN β:=match x with | .fault e u=>.fault e u | .val a u=>f a u
def clI (n:Int):Int:=if n < -1125899906842624 then -1125899906842624 else if 1125899906842624<n then 1125899906842624 else n
def operI (k a b:Int) (u:Nat):RN Int:=
 if k=6 then .val (clI (0-a)) u
 else if k=7 then .val (1-a) u
 else if k=8 then .val (clI (a+b)) u
 else if k=9 then .val (clI (a-b)) u
 else if k=10 then .val (clI (a*b)) u
 else if k=11 then (if b=0 then .fault 1 u else .val (clI (a.tdiv b)) u)
 else if k=12 then (if b=0 then .fault 1 u else .val (clI (a.tmod b)) u)
 else if k=13 then .val (bitI (decide (a<b))) u
 else if k=14 then .val (bitI (decide (a≤b))) u
 else .val (bitI (decide (a=b))) u
mutual
def evN (call:Int→List Int→Nat→RN Int) (F:FactsM):List Int→Nat→Exp→RN Int
 | vars,u,.mk k n s l=>
  if k=0∨k=1 then .val n u
  else if k=2 then .val (vars.getD n.toNat 0) u
  else if k=3 then .val (factV F s) u
  else if k=4 then .val (lookC F.labels s) u
  else if k=5 then .val (wordV F.words s) u
  else if k=16 then
   match l with
   | [a,b]=>(evN call F vars u a).bind fun v u'=>if v=0 then .val 0 u' else evN call F vars u' b
   | _=>.val 0 u
  else if k=17 then
   match l with
   | [a,b]=>(evN call F vars u a).bind fun v u'=>if v=0 then evN call F vars u' b else .val 1 u'
   | _=>.val 0 u
  else if k=18 then
   match l with
   | [c,a,b]=>(evN call F vars u c).bind fun v u'=>if v=0 then evN call F vars u' b else evN call F vars u' a
   | _=>.val 0 u
  else if k=19 then
   match l with
   | [a,b]=>(evN call F vars u a).bind fun v u'=>evN call F (vars++[v]) u' b
   | _=>.val 0 u
  else (evL call F vars u l).bind fun vs u'=>if k=20 then call n vs u' else operI k (vs.getD 0 0) (vs.getD 1 0) u'
def evL (call:Int→List Int→Nat→RN Int) (F:FactsM):List Int→Nat→List Exp→RN (List Int)
 | _,u,[]=>.val [] u
 | vars,u,a::l=>(evN call F vars u a).bind fun v u'=>(evL call F vars u' l).bind fun vs u''=>.val (v::vs) u''
end
theorem Ku (call:Int→List Int→Nat→RN Int) (F:FactsM) (vars:List Int) (u:Nat) (k n:Int) (s:List UInt8) (l:List Exp):evN call F vars u (.mk k n s l) =
  if k=0∨k=1 then .val n u
  else if k=2 then .val (vars.getD n.toNat 0) u
  else if k=3 then .val (factV F s) u
  else if k=4 then .val (lookC F.labels s) u
  else if k=5 then .val (wordV F.words s) u
  else if k=16 then
   match l with
   | [a,b]=>(evN call F vars u a).bind fun v u'=>if v=0 then .val 0 u' else evN call F vars u' b
   | _=>.val 0 u
  else if k=17 then
   match l with
   | [a,b]=>(evN call F vars u a).bind fun v u'=>if v=0 then evN call F vars u' b else .val 1 u'
   | _=>.val 0 u
  else if k=18 then
   match l with
   | [c,a,b]=>(evN call F vars u c).bind fun v u'=>if v=0 then evN call F vars u' b else evN call F vars u' a
   | _=>.val 0 u
  else if k=19 then
   match l with
   | [a,b]=>(evN call F vars u a).bind fun v u'=>evN call F (vars++[v]) u' b
   | _=>.val 0 u
  else (evL call F vars u l).bind fun vs u'=>if k=20 then call n vs u' else operI k (vs.getD 0 0) (vs.getD 1 0) u':=by
 conv=>lhs; unfold evN
theorem YX (fs:List SigM) (vars:List Int) (k n:Int) (s:List UInt8) (o:Int) (l:List Nd):ofN fs vars (.mk k n s o l) =
  if k=1∨k=5 then (1,[])
  else if k=2 then (vars.getD n.toNat 0,[])
  else if k=3 then ((factI s).getD 0,[])
  else if k=6∨(8≤k∧k≤12) then (0,needL fs vars 0 l)
  else if k=13∨k=14 then (1,needL fs vars 0 l)
  else if k=15 then
   match l with
   | [a,b]=>let x:=ofN fs vars a; let y:=ofN fs vars b; (1,x.2++y.2++if y.1≠x.1 then [b.off] else [])
   | _=>(1,[])
  else if k=7∨k=16∨k=17 then (1,needL fs vars 1 l)
  else if k=18 then
   match l with
   | [c,a,b]=>let z:=ofN fs vars c; let x:=ofN fs vars a; let y:=ofN fs vars b; (x.1,z.2++(if z.1≠1 then [c.off] else [])++x.2++y.2++if y.1≠x.1 then [b.off] else [])
   | _=>(0,[])
  else if k=19 then
   match l with
   | [a,b]=>let x:=ofN fs vars a; let y:=ofN fs (vars++[x.1]) b; (y.1,x.2++y.2)
   | _=>(0,[])
  else if k=20 then
   let f:=fs.getD n.toNat ⟨[],0⟩
   (f.result,(if l.length≠f.params.length then [o] else [])++argL fs vars (l.length==f.params.length) f.params l)
  else (0,[]):=by
 conv=>lhs; unfold ofN
 rfl
def noExp:Exp:=.mk 0 0 [] []
def noFn:FnM:=⟨[],[],0,noExp⟩
def callD (fs:List FnM) (F:FactsM):Nat→Int→List Int→Nat→RN Int
 | 0,_,_,u=>if u=10000 then .fault 14 u else .fault 7 (u+1)
 | d+1,n,args,u=>if u=10000 then .fault 14 u else evN (callD fs F d) F args (u+1) (fs.getD n.toNat noFn).body
structure OutM where
 action:Int
 reason:List UInt8
 used:Nat
 fault:Int
deriving DecidableEq
def runC (r:RuleM) (F:FactsM):Nat→List ClM→OutM
 | u,[]=>⟨r.action,[],u,0⟩
 | u,c::l=>
  if u=10000 then ⟨0,[],u,14⟩
  else match evN (callD r.funcs F 100) F [] (u+1) c.cond with
   | .fault e u'=>⟨0,[],u',e⟩
   | .val v u'=>if v=0 then runC r F u' l else ⟨c.action,c.reason,u',0⟩
def runM (r:RuleM) (F:FactsM):OutM:=if rightM r=true∧factsM F=true then runC r F 0 r.clauses else ⟨0,[],0,1⟩
end Go.Proofs.YtncanmdgdflnpaaGreatDoor
