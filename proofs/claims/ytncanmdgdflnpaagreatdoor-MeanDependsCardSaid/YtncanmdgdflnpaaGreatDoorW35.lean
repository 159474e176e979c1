import Derived.KernelRfl
import Derived.Test.YtncanmdgdflnpaaGreatDoorW34
namespace Go.Proofs.YtncanmdgdflnpaaGreatDoor
open Go.ChangeShapes Go.WideShapes Go.ChangeAt Go.RowKit Go.Lib
open _root_.Go.Proofs.Tryz
set_option linter.all false
set_option maxRecDepth 100000
set_option maxHeartbeats 32000000
def Past (w:World) (b:Nat):Prop:=w.heap.size≤b
def outC (X:OutM):Array Value:=#[.int .i64 X.action,.string (bs X.reason),.int .i64 X.used,.int .i64 X.fault]
def RunP (w:World) (X:OutM) (e:Ending) (w':World):Prop:=e=.returned (.agg (outC X))∧Below w.heap.size w w'
theorem infoOut:(prog.info? 36).map (·.size)=some 4:=by kernel_rfl
theorem blk4O {w:World} {T t:Nat} {a0 a1 a2 a3:Value} (v0 v1 v2 v3:Value) (h:w.heap[T]?=some (.cells #[a0,a1,a2,a3] t (0,0))) :
  ((((w.setCell ⟨T,0,none⟩ v0).setCell ⟨T,1,none⟩ v1).setCell ⟨T,2,none⟩ v2).setCell ⟨T,3,none⟩ v3).heap[T]?=some (.cells #[v0,v1,v2,v3] t (0,0)):=by
 rw[JC (JC (JC (JC h 0 v0) 1 v1) 2 v2) 3 v3];rfl
theorem KS {W:World} {ob:Nat} {cs:Array Value} (h:W.heap[ob]?=some (.cells cs 36 (0,0))) (hs:cs.size=4) (tmps:Array Value) (h4:tmps.getD 4 undef=.pointer (some ⟨ob,0,none⟩)) :
  (results Tryz.f13 tmps).run prog W=.ok (.agg cs) W:=by
 have q4:tmps[4]?.getD undef=.pointer (some ⟨ob,0,none⟩):=by simpa using h4
 have l1:=run_loadVar_row (P:=prog) W ob 36 36 cs (0,0) _ h underlying36 rfl (by rw[hs]; exact infoOut);simp[results,Tryz.results13,q4,asAddr,l1]
theorem Jcu (p q:Addr) (w:World) :
  CallsD prog 40 #[.pointer (some p),.pointer (some q)] .returning w fun e u' w'=>e=.returned (.tuple #[])∧u'=.returning∧Below w.heap.size w w':=by
 have ta:∀ w,(Instr.typeAssert .nilIface 20 83 true).run prog w=.ok (.tuple #[.int .i64 0,.bool false]) w:=fun _=>by kernel_rfl
 refine callsD_of_wpS func40 rfl fun c₀ cs hu=>?_
 apply wpS_seq;apply wpS_region;simp[wpOpsS,go_sem,recoverD,hu,ntmps40,Exit.thenS,ta];apply wpS_seq;apply wpS_region;simp[wpOpsS,go_sem,Exit.thenS];refine wpS_cond (t:=false) (by simp[Act.eval,Array.replicate]) ?_;simp only[Bool.false_eq_true,if_false];refine wpS_of_wp (wp_skip ?_)
 cases c₀
 simp only[bodyPostS,results,Tryz.results40];refine ⟨by simp,.returning,by simp_all,.tuple #[],by simp[go_sem],rfl,rfl,Below.refl _ _⟩
theorem Yd (K:RunK) (u c pm ob:Nat) (er:Int) (older:List PanicEntry) (w:World) (hm:MrAt K w u c) (hp:w.heap[pm]?=some (.cells #[.pointer (some ⟨K.p,0,none⟩)] 80 (0,0))) (ho:w.heap[ob]?=some (.cells #[.int .i64 0,.string ⟨#[]⟩,.int .i64 0,.int .i64 0] 36 (0,0))) :
  CallsD prog 40 #[.pointer (some ⟨pm,0,none⟩),.pointer (some ⟨ob,0,none⟩)] (.panicking ({ v:=.iface 83 (.int .i64 er),recovered:=false }::older)) w fun en u' w'=>
   en=.returned (.tuple #[])∧u'=.panicking ({ v:=.iface 83 (.int .i64 er),recovered:=true }::older)∧w'.heap[ob]?=some (.cells (outC ⟨0,[],u,er⟩) 36 (0,0))∧Chg [ob] w w':=by
 have ta:∀ w,(Instr.typeAssert (.iface 83 (.int .i64 er)) 20 83 true).run prog w=.ok (.tuple #[.int .i64 er,.bool true]) w:=fun _=>by kernel_rfl
 refine callsD_of_wpS func40 rfl fun c₀ cs hu=>?_
 apply wpS_seq;apply wpS_region;simp[wpOpsS,go_sem,recoverD,hu,ntmps40,Exit.thenS,ta];apply wpS_seq;apply wpS_region;simp[wpOpsS,go_sem,Exit.thenS];refine wpS_cond (t:=true) (by simp[Act.eval,Array.replicate]) ?_;simp only[if_true];refine wpS_of_wp ?_;have p0:=Ja hp 0;have b15:w.cell? ⟨K.p,15,none⟩=some (.int .i64 u):=Ja hm.self 15;have o0:=Ja ho 0;have o1:=Ja ho 1;have o2:=Ja ho 2;have o3:=Ja ho 3;have f0:=Jc ho 0;have f1:=Jc ho 1;have f2:=Jc ho 2;have f3:=Jc ho 3;have hlo:=Jb ho;simp only[ZD,ZE,ZF] at p0 o0 o1 o2 o3;have hb1:=blk4O (.int .i64 0) (.string ⟨#[]⟩) (.int .i64 u) (.int .i64 er) ho;have hcg:Chg [ob] w ((((w.setCell ⟨ob,0,none⟩ (.int .i64 0)).setCell ⟨ob,1,none⟩ (.string ⟨#[]⟩)).setCell ⟨ob,2,none⟩ (.int .i64 u)).setCell ⟨ob,3,none⟩ (.int .i64 er)):=((((Chg.refl _ _).setCell (.inl (by simp)) _).setCell (.inl (by simp)) _).setCell (.inl (by simp)) _).setCell (.inl (by simp)) _;have HB1:=Zh hb1;have HCG:=Zh hcg;clear hb1 hcg hm hp ho;go_wp2
 cases c₀
 simp only[bodyPostS,results,Tryz.results40];exact ⟨by trivial,_,rfl,.tuple #[],by simp[go_sem],rfl,rfl,HB1.out,HCG.out⟩
structure RrI (K:RunK) (ob pm:Nat) (W:World) (u:Nat):Prop where
 mr:MrAt K W u 0
 pmb:W.heap[pm]?=some (.cells #[.pointer (some ⟨K.p,0,none⟩)] 80 (0,0))
 res:W.heap[ob]?=some (.cells #[.int .i64 0,.string ⟨#[]⟩,.int .i64 0,.int .i64 0] 36 (0,0))
 low:K.w0.heap.size≤ob∧K.w0.heap.size≤pm∧ob≠K.p∧pm≠K.p
theorem RrI.on {K:RunK} {ob pm:Nat} {W W':World} {u u' c:Nat} (h:RrI K ob pm W u) (hc:Chg [K.p] W W') (hm:MrAt K W' u' 0):RrI K ob pm W' u':=
 ⟨hm,hc.heap_some (by simpa using h.low.2.2.2) h.pmb,hc.heap_some (by simpa using h.low.2.2.1) h.res,h.low⟩
theorem Jbr {K:RunK} {ob pm:Nat} {W W':World} {u:Nat} (er:Int) {u' c:Nat} (h:RrI K ob pm W u) (hc:Chg [K.p] W W') (hm:MrAt K W' u' c) (tmps:Array Value) (h4:tmps.getD 4 undef=.pointer (some ⟨ob,0,none⟩)) :
  Leaves prog Tryz.f13 tmps (RunP K.w0 ⟨0,[],u',er⟩) [{ target:=.fn (.func 40) #[.pointer (some ⟨pm,0,none⟩),.pointer (some ⟨ob,0,none⟩)],args:=#[] }] (.panicking [{ v:=.iface 83 (.int .i64 er),recovered:=false }]) W':=by
 refine leaves_cons (f:=40) (args:=#[.pointer (some ⟨pm,0,none⟩),.pointer (some ⟨ob,0,none⟩)]) (by simp) (by simp[go_sem]) ?_;refine (Yd K u' c pm ob er [] W' hm (hc.heap_some (by simpa using h.low.2.2.2) h.pmb) (hc.heap_some (by simpa using h.low.2.2.1) h.res)).mono ?_;rintro e u2 w'' ⟨rfl,rfl,g1,hc2⟩;exact ⟨_,KS g1 rfl tmps h4,rfl,AtMv hm.bel h.low.1 hc2⟩
theorem JhR {K:RunK} {ob pm:Nat} {W:World} {X:OutM} (h:W.heap[ob]?=some (.cells (outC X) 36 (0,0))) (hb:Bel K.w0 W) (tmps:Array Value) (h4:tmps.getD 4 undef=.pointer (some ⟨ob,0,none⟩)) :
  Leaves prog Tryz.f13 tmps (RunP K.w0 X) [{ target:=.fn (.func 40) #[.pointer (some ⟨pm,0,none⟩),.pointer (some ⟨ob,0,none⟩)],args:=#[] }] .returning W:=by
 refine leaves_cons (f:=40) (args:=#[.pointer (some ⟨pm,0,none⟩),.pointer (some ⟨ob,0,none⟩)]) (by simp) (by simp[go_sem]) ?_;refine (Jcu _ _ W).mono ?_;rintro e u' w'' ⟨rfl,rfl,hb2⟩;exact ⟨_,KS ((hb2.block _ (Jb h)).trans h) rfl tmps h4,rfl,Je hb hb2⟩
theorem RrI.out {K:RunK} {ob pm:Nat} {W:World} {u:Nat} (h:RrI K ob pm W u) (X:OutM):(∀ j,W.frozen? ⟨ob,j,none⟩=false)∧ob<W.heap.size∧
  (((((W.setCell ⟨ob,0,none⟩ (.int .i64 X.action)).setCell ⟨ob,1,none⟩ (.string (bs X.reason))).setCell ⟨ob,2,none⟩ (.int .i64 X.used)).setCell ⟨ob,3,none⟩ (.int .i64 X.fault)).heap[ob]?=some (.cells (outC X) 36 (0,0)))∧
  Bel K.w0 ((((W.setCell ⟨ob,0,none⟩ (.int .i64 X.action)).setCell ⟨ob,1,none⟩ (.string (bs X.reason))).setCell ⟨ob,2,none⟩ (.int .i64 X.used)).setCell ⟨ob,3,none⟩ (.int .i64 X.fault)):=
 ⟨fun j=>Jc h.res j,Jb h.res,blk4O _ _ _ _ h.res,Below.setCell (Below.setCell (Below.setCell (Below.setCell h.mr.bel h.low.1 _) h.low.1 _) h.low.1 _) h.low.1 _⟩
theorem wx122 {P:Prop}(h:P:=by
  clear hfr;go_region;clear f0 f1 f2 f3 o0 o1 o2 o3 hlo;go_wp2;rw[← HKI.out.1]
  exact JhR HFO.out.2.2.1 HFO.out.2.2.2 _ rfl):P:=h
theorem V4 (r:RuleM) (F:FactsM) (c:Array Value) (lv wv:Value) (w:World) (hx:RuleX w (In w) r c) (hz:RSz r) (hF:FSz F) (hl:LabsAt w lv F.labels) (hw:WordsAt w wv F.words) :
  Calls prog 13 #[.agg c,.agg (factsC F lv wv)] w (RunP w (runM r F)):=by
 obtain ⟨fa,fc,ca,cc,rfl,hfn,hcl⟩:=hx.parts;obtain ⟨la,lc,rfl,_⟩:=hl.form;obtain ⟨wa,wc,rfl,_⟩:=hw.form;obtain ⟨X,hX⟩:∃ X,runM r F=X:=⟨_,rfl⟩
 rw[hX];have hq:X=if rightM r=true∧factsM F=true then runC r F 0 r.clauses else ⟨0,[],0,1⟩:=hX.symm;have HX:=Zh hq;have hbA:Below w.heap.size w (((w.alloc (.cells #[.slice fa r.funcs.length fc,.slice ca r.clauses.length cc,.int .i64 r.action] 30)).alloc (.cells #[.slice la F.labels.length lc,.int .i64 F.likes,.int .i64 F.boosts,.int .i64 F.replies,.int .i64 F.reports,.int .i64 F.age,.int .i64 F.home,.int .i64 F.scope,.int .i64 F.length,.bool F.follows,.bool F.reply,.slice wa F.words.length wc] 25)).alloc (.cells #[.int .i64 0,.string ⟨#[]⟩,.int .i64 0,.int .i64 0] 36)):=((zzb.alloc zzl _).alloc (by simp) _).alloc (by simp; omega) _;have HKX:Hid (∀ W,Below (((w.alloc (.cells #[.slice fa r.funcs.length fc,.slice ca r.clauses.length cc,.int .i64 r.action] 30)).alloc (.cells #[.slice la F.labels.length lc,.int .i64 F.likes,.int .i64 F.boosts,.int .i64 F.replies,.int .i64 F.reports,.int .i64 F.age,.int .i64 F.home,.int .i64 F.scope,.int .i64 F.length,.bool F.follows,.bool F.reply,.slice wa F.words.length wc] 25)).alloc (.cells #[.int .i64 0,.string ⟨#[]⟩,.int .i64 0,.int .i64 0] 36)).heap.size (((w.alloc (.cells #[.slice fa r.funcs.length fc,.slice ca r.clauses.length cc,.int .i64 r.action] 30)).alloc (.cells #[.slice la F.labels.length lc,.int .i64 F.likes,.int .i64 F.boosts,.int .i64 F.replies,.int .i64 F.reports,.int .i64 F.age,.int .i64 F.home,.int .i64 F.scope,.int .i64 F.length,.bool F.follows,.bool F.reply,.slice wa F.words.length wc] 25)).alloc (.cells #[.int .i64 0,.string ⟨#[]⟩,.int .i64 0,.int .i64 0] 36)) W→Bel w W):=fun W hW=>Je hbA hW
 have HRB:Hid ((((w.alloc (.cells #[.slice fa r.funcs.length fc,.slice ca r.clauses.length cc,.int .i64 r.action] 30)).alloc (.cells #[.slice la F.labels.length lc,.int .i64 F.likes,.int .i64 F.boosts,.int .i64 F.replies,.int .i64 F.reports,.int .i64 F.age,.int .i64 F.home,.int .i64 F.scope,.int .i64 F.length,.bool F.follows,.bool F.reply,.slice wa F.words.length wc] 25)).alloc (.cells #[.int .i64 0,.string ⟨#[]⟩,.int .i64 0,.int .i64 0] 36)).heap[w.heap.size]?=some (.cells #[.slice fa r.funcs.length fc,.slice ca r.clauses.length cc,.int .i64 r.action] 30 (0,0))):=Jf (Jf (zzw _ _))
 have HFB:Hid ((((w.alloc (.cells #[.slice fa r.funcs.length fc,.slice ca r.clauses.length cc,.int .i64 r.action] 30)).alloc (.cells #[.slice la F.labels.length lc,.int .i64 F.likes,.int .i64 F.boosts,.int .i64 F.replies,.int .i64 F.reports,.int .i64 F.age,.int .i64 F.home,.int .i64 F.scope,.int .i64 F.length,.bool F.follows,.bool F.reply,.slice wa F.words.length wc] 25)).alloc (.cells #[.int .i64 0,.string ⟨#[]⟩,.int .i64 0,.int .i64 0] 36)).heap[w.heap.size+1]?=some (.cells #[.slice la F.labels.length lc,.int .i64 F.likes,.int .i64 F.boosts,.int .i64 F.replies,.int .i64 F.reports,.int .i64 F.age,.int .i64 F.home,.int .i64 F.scope,.int .i64 F.length,.bool F.follows,.bool F.reply,.slice wa F.words.length wc] 25 (0,0))):=by
  have e1:=zzw (w.alloc (.cells #[.slice fa r.funcs.length fc,.slice ca r.clauses.length cc,.int .i64 r.action] 30)) (.cells #[.slice la F.labels.length lc,.int .i64 F.likes,.int .i64 F.boosts,.int .i64 F.replies,.int .i64 F.reports,.int .i64 F.age,.int .i64 F.home,.int .i64 F.scope,.int .i64 F.length,.bool F.follows,.bool F.reply,.slice wa F.words.length wc] 25);simp only[World.size_alloc] at e1;exact Jf e1
 have HOB:Hid ((((w.alloc (.cells #[.slice fa r.funcs.length fc,.slice ca r.clauses.length cc,.int .i64 r.action] 30)).alloc (.cells #[.slice la F.labels.length lc,.int .i64 F.likes,.int .i64 F.boosts,.int .i64 F.replies,.int .i64 F.reports,.int .i64 F.age,.int .i64 F.home,.int .i64 F.scope,.int .i64 F.length,.bool F.follows,.bool F.reply,.slice wa F.words.length wc] 25)).alloc (.cells #[.int .i64 0,.string ⟨#[]⟩,.int .i64 0,.int .i64 0] 36)).heap[w.heap.size+1+1]?=some (.cells #[.int .i64 0,.string ⟨#[]⟩,.int .i64 0,.int .i64 0] 36 (0,0))):=by
  have e2:=zzw ((w.alloc (.cells #[.slice fa r.funcs.length fc,.slice ca r.clauses.length cc,.int .i64 r.action] 30)).alloc (.cells #[.slice la F.labels.length lc,.int .i64 F.likes,.int .i64 F.boosts,.int .i64 F.replies,.int .i64 F.reports,.int .i64 F.age,.int .i64 F.home,.int .i64 F.scope,.int .i64 F.length,.bool F.follows,.bool F.reply,.slice wa F.words.length wc] 25)) (.cells #[.int .i64 0,.string ⟨#[]⟩,.int .i64 0,.int .i64 0] 36);simp only[World.size_alloc] at e2;exact e2
 have HXX:=Zh hx;have HFN:=Zh hfn;have HCL:=Zh hcl;have HLL:=Zh hl;have HWW:=Zh hw;have HZ:=Zh hz;have HFZ:=Zh hF;have HSZ:Hid ((((w.alloc (.cells #[.slice fa r.funcs.length fc,.slice ca r.clauses.length cc,.int .i64 r.action] 30)).alloc (.cells #[.slice la F.labels.length lc,.int .i64 F.likes,.int .i64 F.boosts,.int .i64 F.replies,.int .i64 F.reports,.int .i64 F.age,.int .i64 F.home,.int .i64 F.scope,.int .i64 F.length,.bool F.follows,.bool F.reply,.slice wa F.words.length wc] 25)).alloc (.cells #[.int .i64 0,.string ⟨#[]⟩,.int .i64 0,.int .i64 0] 36)).heap.size=w.heap.size+1+1+1):=by unfold Hid; simp
 have hnc:=hz.nc;have hmf:∀ (fn:Fn) (first cap:Array Value) (w:World),(Instr.makeFunc fn first cap).run prog w=.ok (.func fn first cap) w:=fun _ _ _ _=>rfl
 have HMF:=Zh hmf;unfold factsC;clear hbA hx hfn hcl hl hw hz hF hX hq hmf;go_enter_defers func13,ntmps13;go_upto_region 1 with fail
 have HNB:Hid (Past w (w.heap.size+1+1)∧w.heap.size+1+1<(((w.alloc (.cells #[.slice fa r.funcs.length fc,.slice ca r.clauses.length cc,.int .i64 r.action] 30)).alloc (.cells #[.slice la F.labels.length lc,.int .i64 F.likes,.int .i64 F.boosts,.int .i64 F.replies,.int .i64 F.reports,.int .i64 F.age,.int .i64 F.home,.int .i64 F.scope,.int .i64 F.length,.bool F.follows,.bool F.reply,.slice wa F.words.length wc] 25)).alloc (.cells #[.int .i64 0,.string ⟨#[]⟩,.int .i64 0,.int .i64 0] 36)).heap.size∧w.heap.size+1<(((w.alloc (.cells #[.slice fa r.funcs.length fc,.slice ca r.clauses.length cc,.int .i64 r.action] 30)).alloc (.cells #[.slice la F.labels.length lc,.int .i64 F.likes,.int .i64 F.boosts,.int .i64 F.replies,.int .i64 F.reports,.int .i64 F.age,.int .i64 F.home,.int .i64 F.scope,.int .i64 F.length,.bool F.follows,.bool F.reply,.slice wa F.words.length wc] 25)).alloc (.cells #[.int .i64 0,.string ⟨#[]⟩,.int .i64 0,.int .i64 0] 36)).heap.size∧w.heap.size<(((w.alloc (.cells #[.slice fa r.funcs.length fc,.slice ca r.clauses.length cc,.int .i64 r.action] 30)).alloc (.cells #[.slice la F.labels.length lc,.int .i64 F.likes,.int .i64 F.boosts,.int .i64 F.replies,.int .i64 F.reports,.int .i64 F.age,.int .i64 F.home,.int .i64 F.scope,.int .i64 F.length,.bool F.follows,.bool F.reply,.slice wa F.words.length wc] 25)).alloc (.cells #[.int .i64 0,.string ⟨#[]⟩,.int .i64 0,.int .i64 0] 36)).heap.size):=by
  have:=HSZ.out;unfold Hid Past;omega
 clear HSZ;generalize World.alloc (World.alloc (World.alloc w _) _) _=w1 at *;generalize w.heap.size+1+1=ob at *;generalize w.heap.size+1=fb at *;generalize w.heap.size=eb at *
 have FF:Hid (∀ W,Below w1.heap.size w1 W→(W.cell? ⟨eb,0,none⟩=some (.slice fa r.funcs.length fc)∧W.cell? ⟨eb,1,none⟩=some (.slice ca r.clauses.length cc)∧W.cell? ⟨eb,2,none⟩=some (.int .i64 r.action))∧W.cell? ⟨fb,0,none⟩=some (.slice la F.labels.length lc)∧W.cell? ⟨fb,1,none⟩=some (.int .i64 F.likes)∧W.cell? ⟨fb,2,none⟩=some (.int .i64 F.boosts)∧W.cell? ⟨fb,3,none⟩=some (.int .i64 F.replies)∧W.cell? ⟨fb,4,none⟩=some (.int .i64 F.reports)∧W.cell? ⟨fb,5,none⟩=some (.int .i64 F.age)∧W.cell? ⟨fb,6,none⟩=some (.int .i64 F.home)∧W.cell? ⟨fb,7,none⟩=some (.int .i64 F.scope)∧W.cell? ⟨fb,8,none⟩=some (.int .i64 F.length)∧W.cell? ⟨fb,9,none⟩=some (.bool F.follows)∧W.cell? ⟨fb,10,none⟩=some (.bool F.reply)∧W.cell? ⟨fb,11,none⟩=some (.slice wa F.words.length wc)):=by
  intro W hW;have hr:=(hW.block _ HNB.out.2.2.2).trans HRB.out;have hf:=(hW.block _ HNB.out.2.2.1).trans HFB.out;refine ⟨⟨?_,?_,?_⟩,?_,?_,?_,?_,?_,?_,?_,?_,?_,?_,?_,?_⟩
  all_goals first | (rw[Ja hr]; rfl) | (rw[Ja hf]; rfl)
 obtain ⟨⟨r0,r1,r2⟩,b0,b1,b2,b3,b4,b5,b6,b7,b8,b9,b10,b11⟩:=FF.out _ zzb;have cr:=JfK r _ w1 (HXX.out.up (HKX.out _ zzb)) HZ.out;go_wp2_with fail;refine cr.mono ?_;rintro e w2 ⟨rfl,hb2⟩;clear cr r0 r1 r2 b0 b1 b2 b3 b4 b5 b6 b7 b8 b9 b10 b11;have HB2:=Zh hb2;clear hb2
 cases hrr:rightM r with
 | false=>
  have hXf:X=⟨0,[],0,1⟩:=by rw[HX.out,if_neg (fun h=>by rw[hrr] at h; exact absurd h.1 (by simp))]
  subst hXf;have hob2:=(HB2.out.block _ HNB.out.2.1).trans HOB.out;have f0:=Jc hob2 0;have f1:=Jc hob2 1;have f2:=Jc hob2 2;have f3:=Jc hob2 3;have o0:=Ja hob2 0;have o1:=Ja hob2 1;have o2:=Ja hob2 2;have o3:=Ja hob2 3;simp only[ZD,ZE,ZF] at o0 o1 o2 o3;have hlo:=Jb hob2;have HFB2:=Zh (blk4O (.int .i64 0) (.string ⟨#[]⟩) (.int .i64 0) (.int .i64 1) hob2);have HFBL:Hid (Bel w (((((w2.setCell ⟨ob,0,none⟩ (.int .i64 0)).setCell ⟨ob,1,none⟩ (.string ⟨#[]⟩)).setCell ⟨ob,2,none⟩ (.int .i64 0)).setCell ⟨ob,3,none⟩ (.int .i64 1)))):=Below.setCell (p:=⟨ob,3,none⟩) (Below.setCell (p:=⟨ob,2,none⟩) (Below.setCell (p:=⟨ob,1,none⟩) (Below.setCell (p:=⟨ob,0,none⟩) (HKX.out _ HB2.out) HNB.out.1 _) HNB.out.1 _) HNB.out.1 _) HNB.out.1 _;clear hob2 hrr;go_wp2;exact ⟨_,KS HFB2.out rfl _ rfl,rfl,HFBL.out⟩
 | true=>
 obtain ⟨⟨r0,r1,r2⟩,b0,b1,b2,b3,b4,b5,b6,b7,b8,b9,b10,b11⟩:=FF.out _ HB2.out;have cf:=Vi F (.slice la F.labels.length lc) (.slice wa F.words.length wc) w2 HFZ.out (HLL.out.up (HKX.out _ HB2.out)) (HWW.out.up (HKX.out _ HB2.out));unfold factsC at cf;go_wp2_with fail;refine cf.mono ?_;rintro e w3 ⟨rfl,hb3⟩;clear cf r0 r1 r2 b0 b1 b2 b3 b4 b5 b6 b7 b8 b9 b10 b11;have HB3:=Zh (Je HB2.out hb3);clear hb3
 cases hff:factsM F with
 | false=>
  have hXf:X=⟨0,[],0,1⟩:=by rw[HX.out,if_neg (fun h=>by rw[hff] at h; exact absurd h.2 (by simp))]
  subst hXf;have hob2:=(HB3.out.block _ HNB.out.2.1).trans HOB.out;have f0:=Jc hob2 0;have f1:=Jc hob2 1;have f2:=Jc hob2 2;have f3:=Jc hob2 3;have o0:=Ja hob2 0;have o1:=Ja hob2 1;have o2:=Ja hob2 2;have o3:=Ja hob2 3;simp only[ZD,ZE,ZF] at o0 o1 o2 o3;have hlo:=Jb hob2;have HFB2:=Zh (blk4O (.int .i64 0) (.string ⟨#[]⟩) (.int .i64 0) (.int .i64 1) hob2);have HFBL:Hid (Bel w (((((w3.setCell ⟨ob,0,none⟩ (.int .i64 0)).setCell ⟨ob,1,none⟩ (.string ⟨#[]⟩)).setCell ⟨ob,2,none⟩ (.int .i64 0)).setCell ⟨ob,3,none⟩ (.int .i64 1)))):=Below.setCell (p:=⟨ob,3,none⟩) (Below.setCell (p:=⟨ob,2,none⟩) (Below.setCell (p:=⟨ob,1,none⟩) (Below.setCell (p:=⟨ob,0,none⟩) (HKX.out _ HB3.out) HNB.out.1 _) HNB.out.1 _) HNB.out.1 _) HNB.out.1 _;clear hob2 hrr hff;go_wp2;exact ⟨_,KS HFB2.out rfl _ rfl,rfl,HFBL.out⟩
 | true=>
 replace HX:Hid (X=runC r F 0 (r.clauses.drop 0)):=by rw[Hid,HX.out,if_pos ⟨hrr,hff⟩]; rfl
 obtain ⟨htr,hty,_⟩:=Jco hrr;have HTT:=Zh (And.intro htr (And.intro hty hff));clear hrr hff htr hty;obtain ⟨⟨r0,r1,r2⟩,b0,b1,b2,b3,b4,b5,b6,b7,b8,b9,b10,b11⟩:=FF.out _ HB3.out;have HW3:Hid (w1.heap.size≤w3.heap.size):=HB3.out.size;obtain ⟨K,hK⟩:∃ K:RunK,K=⟨w,w3.heap.size,fa,fc,ca,cc,la,lc,wa,wc,r,F⟩:=⟨_,rfl⟩
 have hmf:=HMF.out;have hb4:Below w3.heap.size w3 ((w3.alloc (.cells (K.cells 0 0) 82)).alloc (.cells #[.pointer (some ⟨w3.heap.size,0,none⟩)] 80)):=(zzb.alloc zzl _).alloc (by simp) _;have HB4:=Zh (Je HB3.out hb4);have hwk:Bel w w3:=HKX.out _ HB3.out
 have HKO:Hid K.Ok:=by
  subst hK;exact ⟨HFN.out,HCL.out,HLL.out,HWW.out,HZ.out,HFZ.out,HTT.out.1,HTT.out.2.1,HTT.out.2.2,hwk.size⟩
 have HRI:Hid (RrI K ob (w3.heap.size+1) ((w3.alloc (.cells (K.cells 0 0) 82)).alloc (.cells #[.pointer (some ⟨w3.heap.size,0,none⟩)] 80)) 0):=by
  have hob3:=(HB3.out.block _ HNB.out.2.1).trans HOB.out;have e1:=zzw (w3.alloc (.cells (K.cells 0 0) 82)) (.cells #[.pointer (some ⟨w3.heap.size,0,none⟩)] 80);simp only[World.size_alloc] at e1;have hlt:=Jb hob3;have hws:w.heap.size≤w3.heap.size:=hwk.size;have hKp:K.p=w3.heap.size:=by rw[hK]
  have hKw:K.w0=w:=by rw[hK]
  refine ⟨⟨by rw[hKp]; exact Jf (zzw _ _),by rw[hKw]; exact Je hwk hb4⟩,by rw[hKp]; exact e1,(hb4.block _ hlt).trans hob3,?_,?_,?_,?_⟩
  ·rw[hKw]; exact HNB.out.1
  ·rw[hKw]; omega
  ·rw[hKp]; omega
  ·rw[hKp]; omega
 have HKK:=Zh hK;have hKc:K.cells 0 0=#[.slice fa r.funcs.length fc,.slice ca r.clauses.length cc,.int .i64 r.action,.slice la F.labels.length lc,.int .i64 F.likes,.int .i64 F.boosts,.int .i64 F.replies,.int .i64 F.reports,.int .i64 F.age,.int .i64 F.home,.int .i64 F.scope,.int .i64 F.length,.bool F.follows,.bool F.reply,.slice wa F.words.length wc,.int .i64 0,.int .i64 0]:=by rw[hK]; rfl
 rw[hKc] at HB4 HRI;clear hb4 hwk hK hKc;go_upto_region 5 with fail;clear r0 r1 r2 b0 b1 b2 b3 b4 b5 b6 b7 b8 b9 b10 b11 hmf HMF HB3 HB2
 (try simp only[World.size_alloc])
 generalize World.alloc (World.alloc w3 _) _=w4 at *;obtain ⟨pm,hpm⟩:∃ pm,w3.heap.size+1=pm:=⟨_,rfl⟩
 rw[hpm] at HRI;simp only[hpm];clear hpm;have hKp:w3.heap.size=K.p:=by rw[HKK.out]
 have hKw:K.w0=w:=by rw[HKK.out]
 have hKr:K.r=r:=by rw[HKK.out]
 have hKF:K.F=F:=by rw[HKK.out]
 have HKI:=Zh (And.intro hKw (And.intro hKr hKF))
 have HEB:Hid (eb≠K.p∧eb<w4.heap.size):=by
  have h1:=HNB.out.2.2.2;have h2:=HB4.out.size;unfold Hid;refine ⟨?_,by omega⟩;rw[← hKp];have h3:=HW3.out;omega
 simp only[hKp];clear hKp hKw hKr hKF HKX HFB HOB
 have FC4:Hid (∀ W,Chg [K.p] w4 W→W.cell? ⟨eb,1,none⟩=some (.slice ca r.clauses.length cc)∧W.cell? ⟨eb,2,none⟩=some (.int .i64 r.action)):=by
  intro W hW;obtain ⟨⟨_,q1,q2⟩,_⟩:=FF.out _ HB4.out;exact ⟨hW.cell_some (p:=⟨eb,1,none⟩) (by simpa using HEB.out.1) q1,hW.cell_some (p:=⟨eb,2,none⟩) (by simpa using HEB.out.1) q2⟩
 obtain ⟨q1,q2⟩:=FC4.out _ (Chg.refl _ _);go_wp2_with fail;clear q1 q2;go_loopg [25] r.clauses.length (fun g v25 wr=>∃ i u:Nat,g+i=r.clauses.length∧v25=.int .i64 i∧Hid (RrI K ob pm wr u)∧Hid (Chg [K.p] w4 wr)∧Hid (u≤10000)∧Hid (X=runC r F u (r.clauses.drop i)))
 case atStart=>exact ⟨0,0,rfl,rfl,HRI,Chg.refl _ _,by unfold Hid; omega,HX⟩
 case round=>
 clear HRI HX;obtain ⟨wl,rfl⟩:∃ wl:World,wl=wr:=⟨_,rfl⟩
 obtain ⟨i,u,hg,rfl,hri,hcw,hu,hXi⟩:=hrel
 by_cases hi:i<r.clauses.length
 ·have hil:(i:Int)<(r.clauses.length:Int):=by omega
  have wk:IntKind.i64.wrap ((i:Int)+1)=(i:Int)+1:=IntWalk.i64_in _ (by omega);obtain ⟨m,hm⟩:∃ m,r.clauses[i]?=some m:=⟨r.clauses[i],List.getElem?_eq_getElem hi⟩
  have hmem:=List.mem_of_getElem? hm;obtain ⟨b,o,da,dc,hca,hfc⟩:=HCL.out.get hm;obtain ⟨hnm,hsz,_⟩:=HZ.out.cl m hmem;have hbw:Bel w wl:=by have:=hri.out.mr.bel; rw[HKI.out.1] at this; exact this
  have hk6:∀ j v,w.cell? ⟨b,o+i*6+j,none⟩=some v→wl.cell? ⟨b,o+i*6+j,none⟩=some v:=fun j v hv=>(hbw.cell (p:=⟨b,o+i*6+j,none⟩) hfc.blt).trans hv
  have c0:=hk6 0 _ hfc.c0;have c1:=hk6 1 _ hfc.c1;have c2:=hk6 2 _ hfc.c2;have c3:=hk6 3 _ hfc.c3;have c4:=hk6 4 _ hfc.c4;have c5:=hk6 5 _ hfc.c5;rw[Nat.add_zero] at c0
  have hXc:X=if u=10000 then ⟨0,[],u,14⟩ else match evN (callD r.funcs F 100) F [] (u+1) m.cond with | .fault e u'=>⟨0,[],u',e⟩ | .val v u'=>if v=0 then runC r F u' (r.clauses.drop (i+1)) else ⟨m.action,m.reason,u',0⟩:=by
   have h1:=hXi.out;have h2:r.clauses[i]=m:=(List.getElem?_eq_some_iff.1 hm).2;rw[List.drop_eq_getElem_cons hi,h2,runC] at h1;exact h1
  have HXC:=Zh hXc;have hb5:Below wl.heap.size wl (wl.alloc (.cells #[.int .i64 m.cond.kind,.int .i64 m.cond.num,.string (bs m.cond.name),.slice da m.cond.kids.length dc,.int .i64 m.action,.string (bs m.reason)] 62)):=zzb.alloc zzl _;have HM5:=Zh (hri.out.mr.up hb5);have HC5:Hid (Chg [K.p] wl (wl.alloc (.cells #[.int .i64 m.cond.kind,.int .i64 m.cond.num,.string (bs m.cond.name),.slice da m.cond.kids.length dc,.int .i64 m.action,.string (bs m.reason)] 62))):=Chg.of_below hb5 [K.p];have HNB5:=Zh (zzw wl (.cells #[.int .i64 m.cond.kind,.int .i64 m.cond.num,.string (bs m.cond.name),.slice da m.cond.kids.length dc,.int .i64 m.action,.string (bs m.reason)] 62));have HRI:=hri;have HCW:=hcw;have HU:=hu;have HG:=Zh hg;have HHI:=Zh hi
  have hpm5:(wl.alloc (.cells #[.int .i64 m.cond.kind,.int .i64 m.cond.num,.string (bs m.cond.name),.slice da m.cond.kids.length dc,.int .i64 m.action,.string (bs m.reason)] 62)).cell? ⟨pm,0,none⟩=some (.pointer (some ⟨K.p,0,none⟩)):=by
   have:=(hb5.block _ (Jb hri.out.pmb)).trans hri.out.pmb;rw[Ja this]; rfl
  have hev:∀ W',MrAt K W' (u+1) 0→u+1≤10000→EvH K 0 m.cond #[.int .i64 m.cond.kind,.int .i64 m.cond.num,.string (bs m.cond.name),.slice da m.cond.kids.length dc] [] [] (.slice none 0 0) 40 1 W' (u+1):=fun W' h1 h2=>by
   have hr:=HKI.out;refine ⟨hnm,by simp; omega,by rw[hr.1]; exact hfc.cond,?_,?_,VsOk.nil,h2,h1,.inl ⟨rfl,none,0,rfl⟩⟩
   ·rw[hr.2.1]; exact Jje HTT.out.1 hmem
   ·rw[hr.2.1]; exact Jhy HTT.out.2.1 hmem
  have HEV:=Zh hev;have HMW:Hid (w.heap.size≤wl.heap.size):=hbw.size;subst hca;clear hb5 hmem hfc hbw hk6 hXc hXi hri hcw hu hg hi hm hev hnm hsz;go_upto_region 8 with fail;clear c0 c1 c2 c3 c4 c5;have HCB:Hid (wl.heap.size≠K.p∧wl.heap.size<(wl.alloc (.cells #[.int .i64 m.cond.kind,.int .i64 m.cond.num,.string (bs m.cond.name),.slice da m.cond.kids.length dc,.int .i64 m.action,.string (bs m.reason)] 62)).heap.size):=⟨by have:=HRI.out.mr.lt; omega,by simp⟩
  generalize World.alloc wl _=w5 at *;generalize wl.heap.size=cb at *;have cs:=Y2 K HKO.out w5 u 0 HM5.out HU.out;go_wp2_with fail;refine cs.mono ?_;intro e w6 h6;unfold StepP at h6;clear cs hpm5
  by_cases hu1:u=10000
  ·rw[if_pos hu1] at h6;obtain ⟨rfl,rfl⟩:=h6;have hXf:X=⟨0,[],u,14⟩:=by rw[HXC.out,if_pos hu1]
   rw[hXf];rw[← HKI.out.1];exact Jbr 14 HRI.out HC5.out HM5.out _ rfl
  rw[if_neg hu1] at h6;obtain ⟨rfl,hm6,hc6⟩:=h6;have HM6:=Zh hm6;have HC6:=Zh (HC5.out.trans hc6)
  have hk7:∀ W,Chg [K.p] w5 W→W.cell? ⟨cb,0,none⟩=some (.int .i64 m.cond.kind)∧W.cell? ⟨cb,1,none⟩=some (.int .i64 m.cond.num)∧W.cell? ⟨cb,2,none⟩=some (.string (bs m.cond.name))∧W.cell? ⟨cb,3,none⟩=some (.slice da m.cond.kids.length dc)∧W.cell? ⟨cb,4,none⟩=some (.int .i64 m.action)∧W.cell? ⟨cb,5,none⟩=some (.string (bs m.reason)):=by
   intro W hW;have hh:=hW.heap_some (by simpa using HCB.out.1) HNB5.out;refine ⟨?_,?_,?_,?_,?_,?_⟩ <;> (rw[Ja hh]; rfl)
  have HK7:=Zh hk7;have HC56:=Zh hc6
  have hpmb:∀ W,Chg [K.p] wl W→W.cell? ⟨pm,0,none⟩=some (.pointer (some ⟨K.p,0,none⟩)):=fun W hW=>by
   have:=hW.heap_some (by simpa using HRI.out.low.2.2.2) HRI.out.pmb;rw[Ja this]; rfl
  have HPM:=Zh hpmb;obtain ⟨k0,k1,k2,k3,k4,k5⟩:=hk7 _ hc6;have hp6:=hpmb _ HC6.out;have hu2:u+1≤10000:=by have:=HU.out; omega
  have hH:=HEV.out w6 hm6 hu2;have HOK:=Zh (hH.ok HKO.out 100);have ci:=Jgg K HKO.out m.cond _ [] [] _ _ _ w6 (u+1) hH;rw[HKI.out.2.1,HKI.out.2.2] at ci;replace HXC:Hid (X=match evN (callD r.funcs F 100) F [] (u+1) m.cond with | .fault e u'=>⟨0,[],u',e⟩ | .val v u'=>if v=0 then runC r F u' (r.clauses.drop (i+1)) else ⟨m.action,m.reason,u',0⟩):=by rw[Hid,HXC.out,if_neg hu1]
  clear hm6 hc6 hk7 hpmb hu1 hu2 hH HEV;go_wp2_with fail;refine ci.mono ?_;clear ci k0 k1 k2 k3 k4 k5 hp6;have hok:=HOK.out;unfold evK at hok;rw[HKI.out.2.1,HKI.out.2.2] at hok
  cases hev:evN (callD r.funcs F 100) F [] (u+1) m.cond with
  | fault er u'=>
   rintro e w7 ⟨rfl,⟨c7,hm7⟩,hc7⟩;have hXf:X=⟨0,[],u',er⟩:=by rw[HXC.out,hev]
   rw[hXf];rw[← HKI.out.1];exact Jbr er HRI.out (HC6.out.trans hc7) hm7 _ rfl
  | val v u'=>
   rw[hev] at hok;obtain ⟨_,hu7,hv7⟩:=hok;rintro e w7 ⟨rfl,hm7,hc7⟩;have HRI7:=Zh (RrI.on (c:=0) HRI.out (HC6.out.trans hc7) hm7);have HC47:Hid (Chg [K.p] w4 w7):=HCW.out.trans (HC6.out.trans hc7);have HU7:=Zh hu7;obtain ⟨k0,k1,k2,k3,k4,k5⟩:=HK7.out _ (HC56.out.trans hc7);have hp7:=HPM.out _ (HC6.out.trans hc7)
   by_cases hv:v=0
   ·have HXN:Hid (X=runC r F u' (r.clauses.drop (i+1))):=by rw[Hid,HXC.out,hev]; dsimp only; rw[if_pos hv]
    subst hv;clear hev hu7 hv7 hm7 hc7 HOK HXC;go_wp2;go_roundg (r.clauses.length-(i+1))
    case measure=>have:=HG.out; have:=HHI.out; omega
    case rel=>exact ⟨i+1,u',by have:=HHI.out; omega,by go_num,HRI7,HC47,HU7,HXN⟩
   ·have hXv:X=⟨m.action,m.reason,u',0⟩:=by rw[HXC.out,hev]; dsimp only; rw[if_neg hv]
    subst hXv;have e0:(v==0)=false:=zzq hv;have e1:(v !=0)=true:=by rw[bne,e0]; rfl
    have b15:w7.cell? ⟨K.p,15,none⟩=some (.int .i64 u'):=Ja hm7.self 15;have hres:=HRI7.out.res;clear hev hu7 hv7 hm7 hc7 HOK HXC hv;go_upto_region 10 with fail;have hfr:=HRI7.out.res;have f0:=Jc hfr 0;have f1:=Jc hfr 1;have f2:=Jc hfr 2;have f3:=Jc hfr 3;have o0:=Ja hfr 0;have o1:=Ja hfr 1;have o2:=Ja hfr 2;have o3:=Ja hfr 3;simp only[ZD,ZE,ZF] at o0 o1 o2 o3;have hlo:=Jb hfr;have HD7:=Zh (RrI.on (c:=0) HRI7.out (Chg.of_below (Below.refl w7.heap.size w7).drew [K.p]) HRI7.out.mr.drew);have HFO:=Zh (HD7.out.out ⟨m.action,m.reason,u',0⟩);exact wx122
 have hil:¬ (i:Int)<(r.clauses.length:Int):=by omega
 obtain rfl:i=r.clauses.length:=by omega
 have hXe:X=⟨r.action,[],u,0⟩:=by
  have h1:=hXi.out;rw[List.drop_length,runC] at h1;exact h1
 subst hXe;obtain ⟨q1,q2⟩:=FC4.out _ hcw.out
 have hp7:wl.cell? ⟨pm,0,none⟩=some (.pointer (some ⟨K.p,0,none⟩)):=by
  rw[Ja hri.out.pmb]; rfl
 have b15:wl.cell? ⟨K.p,15,none⟩=some (.int .i64 u):=Ja hri.out.mr.self 15;have HRI7:=hri;clear hXi hg hi hcw hu hri;go_upto_region 12 with fail;have hfr:=HRI7.out.res;have f0:=Jc hfr 0;have f1:=Jc hfr 1;have f2:=Jc hfr 2;have f3:=Jc hfr 3;have o0:=Ja hfr 0;have o1:=Ja hfr 1;have o2:=Ja hfr 2;have o3:=Ja hfr 3;simp only[ZD,ZE,ZF] at o0 o1 o2 o3;have hlo:=Jb hfr;have HD7:=Zh (RrI.on (c:=0) HRI7.out (Chg.of_below (Below.refl wl.heap.size wl).drew [K.p]) HRI7.out.mr.drew);have HFO:=Zh (HD7.out.out ⟨r.action,[],u,0⟩);exact wx122
def ex1:RuleM:=⟨[],[⟨.mk 13 0 [] [.mk 0 3 [] [],.mk 3 0 fLikes []],3,[120]⟩],0⟩
def ex2:RuleM:=⟨[⟨[102],[0],1,.mk 20 0 [] [.mk 2 0 [] []]⟩],[⟨.mk 20 0 [] [.mk 0 1 [] []],3,[120]⟩],0⟩
def ex3:RuleM:=⟨[],[⟨.mk 15 0 [] [.mk 11 0 [] [.mk 0 1 [] [],.mk 3 0 fLikes []],.mk 0 1 [] []],3,[120]⟩],0⟩
def FZ:FactsM:=⟨[],0,0,0,0,0,0,0,0,false,false,[]⟩
def tx1:List UInt8:=[119,104,101,110,32,108,105,107,101,115,32,62,32,51,32,116,104,101,110,32,104,105,100,101,32,34,120,34,32,100,101,102,97,117,108,116,32,115,104,111,119]
theorem JhS:parseM tx1=(ex1,0,0):=by kernel_rfl
def tx2:List UInt8:=[100,101,102,32,102,40,110,58,32,105,110,116,41,58,32,98,111,111,108,32,61,32,102,40,110,41,32,119,104,101,110,32,102,40,49,41,32,116,104,101,110,32,104,105,100,101,32,34,120,34,32,100,101,102,97,117,108,116,32,115,104,111,119]
theorem JhT:parseM tx2=(ex2,0,0):=by kernel_rfl
def tx3:List UInt8:=[119,104,101,110,32,49,32,47,32,108,105,107,101,115,32,61,61,32,49,32,116,104,101,110,32,104,105,100,101,32,34,120,34,32,100,101,102,97,117,108,116,32,115,104,111,119]
theorem JhU:parseM tx3=(ex3,0,0):=by kernel_rfl
theorem JjA:runM ex1 { FZ with likes:=4 }=⟨3,[120],1,0⟩:=by decide +kernel
theorem JjB:runM ex2 FZ=⟨0,[],102,7⟩:=by decide +kernel
theorem JjC:runM ex3 FZ=⟨0,[],1,1⟩:=by decide +kernel
theorem JjD:runM ex1 { FZ with likes:=-1 }=⟨0,[],0,1⟩:=by decide +kernel
theorem Jak {r:RuleM} (h1:r.funcs.length≤1) (h2:r.clauses.length≤1) (h3:∀ f∈r.funcs,f.name.length≤9223372036854775807∧f.params.length≤1000000∧NmN f.body∧siz (utN f.body)≤1000000) (h4:∀ c∈r.clauses,NmN c.cond∧siz (utN c.cond)≤1000000∧c.reason.length≤9223372036854775807):RSz r:=⟨by omega,by omega,h3,h4⟩
theorem Jii:RSz ex1:=by
 refine Jak (by decide) (by decide) (by simp[ex1]) (fun c hc=>?_);simp[ex1] at hc;subst hc;exact ⟨by simp[NmN,NmL,fLikes],by simp[utN,utL,JA,Ju,JG],by simp⟩
theorem Jkr:RSz ex2:=by
 refine Jak (by decide) (by decide) (fun f hf=>?_) (fun c hc=>?_)
 ·simp[ex2] at hf;subst hf;exact ⟨by simp,by simp,by simp[NmN,NmL],by simp[utN,utL,JA,Ju,JG]⟩
 ·simp[ex2] at hc;subst hc;exact ⟨by simp[NmN,NmL],by simp[utN,utL,JA,Ju,JG],by simp⟩
theorem Jks:RSz ex3:=by
 refine Jak (by decide) (by decide) (by simp[ex3]) (fun c hc=>?_);simp[ex3] at hc;subst hc;exact ⟨by simp[NmN,NmL,fLikes],by simp[utN,utL,JA,Ju,JG],by simp⟩
theorem Yt (W:World):LabsAt W (.slice none 0 0) []:=⟨none,0,[],rfl,Nat.le_refl _,rfl,.inl rfl⟩
theorem VP (W:World):WordsAt W (.slice none 0 0) []:=⟨none,0,[],rfl,Nat.le_refl _,rfl,.inl rfl⟩
theorem JjE (X Y:OutM) (W:World):(binOp .eql 36 (.agg (outC X)) (.agg (outC Y))).run prog W=.ok (.bool (decide (X=Y))) W:=by
 have hu:prog.underlying 36=some (.struct (prog.fieldsOf 36)):=by kernel_rfl
 have hp:prog.stoodInHeld 36=false:=by kernel_rfl
 rw[run_eql_struct,run_equalIn_agg _ _ _ _ _ hu hp];unfold Program.fieldsOf;rw[underlying36];obtain ⟨a,b,x,y⟩:=X;obtain ⟨a',b',x',y'⟩:=Y;have u3:=underlying3;have u9:=underlying9;have u31:=underlying31;simp[Op.eqFields,outC,go_sem];simp only[Jk]
 by_cases h1:a=a'
 ·by_cases h2:b=b'
  ·by_cases h3:x=x'
   ·by_cases h4:y=y'
    ·simp[h1,h2,h3,h4]
    ·simp[h1,h2,h3,h4]
   ·simp[h1,h2,h3];intro h;exact absurd (Int.ofNat_inj.1 h) h3
  ·simp[h1,h2]
 ·simp[h1]
theorem PsP.inw {w:World} {X:RuleM × Int × Int} {e:Ending} {w':World} (h:PsP w X e w'):∃ c,e=.returned (.tuple #[.agg c,.int .i64 X.2.1,.int .i64 X.2.2])∧RuleX w' (In w') X.1 c∧Below w.heap.size w w':=by
 obtain ⟨c,h1,h2,h3⟩:=h;exact ⟨c,h1,h2.keep (fun _ _=>rfl) (fun b hb=>hb.2),h3⟩
theorem Jbs (W:World) (hL:Laid W):Calls prog 11 #[.string ⟨#[119,104,101,110,32,108,105,107,101,115,32,62,32,51,32,116,104,101,110,32,104,105,100,101,32,34,120,34,32,100,101,102,97,117,108,116,32,115,104,111,119]⟩] W (fun e w'=>∃ c,e=.returned (.tuple #[.agg c,.int .i64 0,.int .i64 0])∧RuleX w' (In w') ex1 c∧Below W.heap.size W w'):=by
 have h:=parse_any' tx1 W (by decide) hL;rw[JhS] at h;exact h.mono fun e w' hp=>hp.inw
theorem Jbt (W:World) (hL:Laid W):Calls prog 11 #[.string ⟨#[100,101,102,32,102,40,110,58,32,105,110,116,41,58,32,98,111,111,108,32,61,32,102,40,110,41,32,119,104,101,110,32,102,40,49,41,32,116,104,101,110,32,104,105,100,101,32,34,120,34,32,100,101,102,97,117,108,116,32,115,104,111,119]⟩] W (fun e w'=>∃ c,e=.returned (.tuple #[.agg c,.int .i64 0,.int .i64 0])∧RuleX w' (In w') ex2 c∧Below W.heap.size W w'):=by
 have h:=parse_any' tx2 W (by decide) hL;rw[JhT] at h;exact h.mono fun e w' hp=>hp.inw
theorem Jbu (W:World) (hL:Laid W):Calls prog 11 #[.string ⟨#[119,104,101,110,32,49,32,47,32,108,105,107,101,115,32,61,61,32,49,32,116,104,101,110,32,104,105,100,101,32,34,120,34,32,100,101,102,97,117,108,116,32,115,104,111,119]⟩] W (fun e w'=>∃ c,e=.returned (.tuple #[.agg c,.int .i64 0,.int .i64 0])∧RuleX w' (In w') ex3 c∧Below W.heap.size W w'):=by
 have h:=parse_any' tx3 W (by decide) hL;rw[JhU] at h;exact h.mono fun e w' hp=>hp.inw
theorem Jei (W:World) (c:Array Value) (h:RuleX W (In W) ex1 c):Calls prog 13 #[.agg c,.agg #[.slice none 0 0,.int .i64 4,.int .i64 0,.int .i64 0,.int .i64 0,.int .i64 0,.int .i64 0,.int .i64 0,.int .i64 0,.bool false,.bool false,.slice none 0 0]] W (fun e w'=>e=.returned (.agg #[.int .i64 3,.string ⟨#[120]⟩,.int .i64 1,.int .i64 0])∧Below W.heap.size W w'):=by
 have h1:=V4 ex1 { FZ with likes:=4 } c (.slice none 0 0) (.slice none 0 0) W h Jii ⟨by decide,by decide⟩ (Yt W) (VP W);rw[JjA] at h1;exact h1
theorem Jgi (W:World):(binOp .eql 36 (.agg #[.int .i64 3,.string ⟨#[120]⟩,.int .i64 1,.int .i64 0]) (.agg #[.int .i64 3,.string ⟨#[120]⟩,.int .i64 1,.int .i64 0])).run prog W=.ok (.bool true) W:=by kernel_rfl
theorem Jej (W:World) (c:Array Value) (h:RuleX W (In W) ex2 c):Calls prog 13 #[.agg c,.agg #[.slice none 0 0,.int .i64 0,.int .i64 0,.int .i64 0,.int .i64 0,.int .i64 0,.int .i64 0,.int .i64 0,.int .i64 0,.bool false,.bool false,.slice none 0 0]] W (fun e w'=>e=.returned (.agg #[.int .i64 0,.string ⟨#[]⟩,.int .i64 102,.int .i64 7])∧Below W.heap.size W w'):=by
 have h1:=V4 ex2 FZ c (.slice none 0 0) (.slice none 0 0) W h Jkr ⟨by decide,by decide⟩ (Yt W) (VP W);rw[JjB] at h1;exact h1
theorem Jgj (W:World):(binOp .eql 36 (.agg #[.int .i64 0,.string ⟨#[]⟩,.int .i64 102,.int .i64 7]) (.agg #[.int .i64 0,.string ⟨#[]⟩,.int .i64 102,.int .i64 7])).run prog W=.ok (.bool true) W:=by kernel_rfl
theorem Jek (W:World) (c:Array Value) (h:RuleX W (In W) ex3 c):Calls prog 13 #[.agg c,.agg #[.slice none 0 0,.int .i64 0,.int .i64 0,.int .i64 0,.int .i64 0,.int .i64 0,.int .i64 0,.int .i64 0,.int .i64 0,.bool false,.bool false,.slice none 0 0]] W (fun e w'=>e=.returned (.agg #[.int .i64 0,.string ⟨#[]⟩,.int .i64 1,.int .i64 1])∧Below W.heap.size W w'):=by
 have h1:=V4 ex3 FZ c (.slice none 0 0) (.slice none 0 0) W h Jks ⟨by decide,by decide⟩ (Yt W) (VP W);rw[JjC] at h1;exact h1
theorem Jgk (W:World):(binOp .eql 36 (.agg #[.int .i64 0,.string ⟨#[]⟩,.int .i64 1,.int .i64 1]) (.agg #[.int .i64 0,.string ⟨#[]⟩,.int .i64 1,.int .i64 1])).run prog W=.ok (.bool true) W:=by kernel_rfl
theorem Jel (W:World) (c:Array Value) (h:RuleX W (In W) ex1 c):Calls prog 13 #[.agg c,.agg #[.slice none 0 0,.int .i64 (-1),.int .i64 0,.int .i64 0,.int .i64 0,.int .i64 0,.int .i64 0,.int .i64 0,.int .i64 0,.bool false,.bool false,.slice none 0 0]] W (fun e w'=>e=.returned (.agg #[.int .i64 0,.string ⟨#[]⟩,.int .i64 0,.int .i64 1])∧Below W.heap.size W w'):=by
 have h1:=V4 ex1 { FZ with likes:=-1 } c (.slice none 0 0) (.slice none 0 0) W h Jii ⟨by decide,by decide⟩ (Yt W) (VP W);rw[JjD] at h1;exact h1
theorem Jgl (W:World):(binOp .eql 36 (.agg #[.int .i64 0,.string ⟨#[]⟩,.int .i64 0,.int .i64 1]) (.agg #[.int .i64 0,.string ⟨#[]⟩,.int .i64 0,.int .i64 1])).run prog W=.ok (.bool true) W:=by kernel_rfl
theorem Jgm (w:World) (hL:Laid w):Calls prog 10 #[] w (BoolPost w true):=by
 have HL:=Zh hL;have HB0:Hid (Bel w w):=Below.refl _ _;clear hL;go_enter func10,ntmps10;go_wp2_with fail;refine (Jbs w (HL.out.below HB0.out)).mono ?_;rintro e u1 ⟨c1,rfl,hx1,hb1⟩;obtain ⟨fa1,fc1,ca1,cc1,rfl,_,_⟩:=hx1.parts;have hq1:Below u1.heap.size u1 (u1.alloc (.cells #[.slice fa1 ex1.funcs.length fc1,.slice ca1 ex1.clauses.length cc1,.int .i64 ex1.action] 30)):=zzb.alloc zzl _;have HB1:Hid (Bel w (u1.alloc (.cells #[.slice fa1 ex1.funcs.length fc1,.slice ca1 ex1.clauses.length cc1,.int .i64 ex1.action] 30))):=Je HB0.out (Je hb1 hq1);have HN1:=Zh (zzw u1 (.cells #[.slice fa1 ex1.funcs.length fc1,.slice ca1 ex1.clauses.length cc1,.int .i64 ex1.action] 30));have HY1:=Zh (hx1.up hq1);have HP1:Hid (Below w.heap.size w (u1.alloc (.cells #[.slice fa1 ex1.funcs.length fc1,.slice ca1 ex1.clauses.length cc1,.int .i64 ex1.action] 30))):=Je hb1 hq1;clear hx1 hb1 hq1;go_upto_region 2 with fail;generalize World.alloc u1 _=v1 at *;generalize u1.heap.size=k1 at *;go_wp2_with fail;refine (Jbt v1 (HL.out.below HB1.out)).mono ?_;rintro e u2 ⟨c2,rfl,hx2,hb2⟩;obtain ⟨fa2,fc2,ca2,cc2,rfl,_,_⟩:=hx2.parts;have hq2:Below u2.heap.size u2 (u2.alloc (.cells #[.slice fa2 ex2.funcs.length fc2,.slice ca2 ex2.clauses.length cc2,.int .i64 ex2.action] 30)):=zzb.alloc zzl _;have HB2:Hid (Bel w (u2.alloc (.cells #[.slice fa2 ex2.funcs.length fc2,.slice ca2 ex2.clauses.length cc2,.int .i64 ex2.action] 30))):=Je HB1.out (Je hb2 hq2);have HN2:=Zh (zzw u2 (.cells #[.slice fa2 ex2.funcs.length fc2,.slice ca2 ex2.clauses.length cc2,.int .i64 ex2.action] 30));have HY2:=Zh (hx2.up hq2);have HP2:Hid (Below v1.heap.size v1 (u2.alloc (.cells #[.slice fa2 ex2.funcs.length fc2,.slice ca2 ex2.clauses.length cc2,.int .i64 ex2.action] 30))):=Je hb2 hq2;clear hx2 hb2 hq2;go_upto_region 3 with fail;generalize World.alloc u2 _=v2 at *;generalize u2.heap.size=k2 at *;go_wp2_with fail;refine (Jbu v2 (HL.out.below HB2.out)).mono ?_;rintro e u3 ⟨c3,rfl,hx3,hb3⟩;obtain ⟨fa3,fc3,ca3,cc3,rfl,_,_⟩:=hx3.parts;have hq3:Below u3.heap.size u3 (u3.alloc (.cells #[.slice fa3 ex3.funcs.length fc3,.slice ca3 ex3.clauses.length cc3,.int .i64 ex3.action] 30)):=zzb.alloc zzl _;have HB3:Hid (Bel w (u3.alloc (.cells #[.slice fa3 ex3.funcs.length fc3,.slice ca3 ex3.clauses.length cc3,.int .i64 ex3.action] 30))):=Je HB2.out (Je hb3 hq3);have HN3:=Zh (zzw u3 (.cells #[.slice fa3 ex3.funcs.length fc3,.slice ca3 ex3.clauses.length cc3,.int .i64 ex3.action] 30));have HY3:=Zh (hx3.up hq3);have HP3:Hid (Below v2.heap.size v2 (u3.alloc (.cells #[.slice fa3 ex3.funcs.length fc3,.slice ca3 ex3.clauses.length cc3,.int .i64 ex3.action] 30))):=Je hb3 hq3;clear hx3 hb3 hq3;go_upto_region 4 with fail;generalize World.alloc u3 _=v3 at *;generalize u3.heap.size=k3 at *
 have F1:Hid (∀ W,Below v1.heap.size v1 W→W.cell? ⟨k1,0,none⟩=some (.slice fa1 ex1.funcs.length fc1)∧W.cell? ⟨k1,1,none⟩=some (.slice ca1 ex1.clauses.length cc1)∧W.cell? ⟨k1,2,none⟩=some (.int .i64 ex1.action)):=by
  intro W hW;have hh:=(hW.block _ (Jb HN1.out)).trans HN1.out;refine ⟨?_,?_,?_⟩ <;> (rw[Ja hh]; rfl)
 have F2:Hid (∀ W,Below v2.heap.size v2 W→W.cell? ⟨k2,0,none⟩=some (.slice fa2 ex2.funcs.length fc2)∧W.cell? ⟨k2,1,none⟩=some (.slice ca2 ex2.clauses.length cc2)∧W.cell? ⟨k2,2,none⟩=some (.int .i64 ex2.action)):=by
  intro W hW;have hh:=(hW.block _ (Jb HN2.out)).trans HN2.out;refine ⟨?_,?_,?_⟩ <;> (rw[Ja hh]; rfl)
 have F3:Hid (∀ W,Below v3.heap.size v3 W→W.cell? ⟨k3,0,none⟩=some (.slice fa3 ex3.funcs.length fc3)∧W.cell? ⟨k3,1,none⟩=some (.slice ca3 ex3.clauses.length cc3)∧W.cell? ⟨k3,2,none⟩=some (.int .i64 ex3.action)):=by
  intro W hW;have hh:=(hW.block _ (Jb HN3.out)).trans HN3.out;refine ⟨?_,?_,?_⟩ <;> (rw[Ja hh]; rfl)
 have H23:Hid (∀ W,Below v3.heap.size v3 W→Below v2.heap.size v2 W):=fun W hW=>Je HP3.out hW
 have H13:Hid (∀ W,Below v3.heap.size v3 W→Below v1.heap.size v1 W):=fun W hW=>Je HP2.out (Je HP3.out hW)
 have HW0:Hid (Below v3.heap.size v3 v3):=Below.refl _ _;obtain ⟨r0,r1,r2⟩:=F1.out _ (H13.out _ HW0.out);have cr:=Jei v3 _ (HY1.out.up (H13.out _ HW0.out));have he:=Jgi;go_wp2_with fail;refine cr.mono ?_;rintro e z1 ⟨rfl,hb⟩;have HW1:=Zh (Je HW0.out hb);clear cr hb r0 r1 r2;go_upto_region 7 with fail;clear he;obtain ⟨r0,r1,r2⟩:=F2.out _ (H23.out _ HW1.out);have cr:=Jej z1 _ (HY2.out.up (H23.out _ HW1.out));have he:=Jgj;go_wp2_with fail;refine cr.mono ?_;rintro e z2 ⟨rfl,hb⟩;have HW2:=Zh (Je HW1.out hb);clear cr hb r0 r1 r2;go_upto_region 8 with fail;clear he;obtain ⟨r0,r1,r2⟩:=F3.out _ HW2.out;have cr:=Jek z2 _ (HY3.out.up HW2.out);have he:=Jgk;go_wp2_with fail;refine cr.mono ?_;rintro e z3 ⟨rfl,hb⟩;have HW3:=Zh (Je HW2.out hb);clear cr hb r0 r1 r2;go_upto_region 9 with fail;clear he;obtain ⟨r0,r1,r2⟩:=F1.out _ (H13.out _ HW3.out);have cr:=Jel z3 _ (HY1.out.up (H13.out _ HW3.out));have he:=Jgl;go_wp2_with fail;refine cr.mono ?_;rintro e z4 ⟨rfl,hb⟩;have HW4:=Zh (Je HW3.out hb);clear cr hb r0 r1 r2;have HF:Hid (Bel w z4):=Je HB3.out HW4.out;go_wp2;go_ret;exact ⟨rfl,HF.out⟩
end Go.Proofs.YtncanmdgdflnpaaGreatDoor
