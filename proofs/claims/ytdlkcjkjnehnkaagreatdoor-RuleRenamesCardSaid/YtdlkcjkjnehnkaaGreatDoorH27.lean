import Derived.Defers
import Derived.Recover
import Derived.Test.YtdlkcjkjnehnkaaGreatDoorH26
open List(map_congr_left map_cons map_map sum_cons)
open Nat(le_trans)
namespace Go.Proofs.YtdlkcjkjnehnkaaGreatDoor
open Go.ChangeShapes Go.WideShapes Go.ChangeAt Go.RowKit Go.Lib
open _root_.Go.Proofs.Tryz
set_option linter.all false
set_option maxRecDepth 100000
set_option maxHeartbeats 32000000
theorem JcM(p q s:Addr)(w:World) :
  CallsD prog 36 #[.pointer (some p),.pointer (some q),.pointer (some s)] .returning w fun e u' w'=>e=.returned (.tuple #[])/\u'=.returning/\Below w.heap.size w w':=by
 have ta:∀ w,(Instr.typeAssert .nilIface 20 77 true).run prog w=.ok (.tuple #[.agg #[.int .i64 0,.int .i64 0],.bool false]) w:=fun _=>by kernel_rfl
 refine callsD_of_wpS func36 rfl fun c₀ cs hu=>?_
 apply wpS_seq;apply wpS_region;simp[wpOpsS,go_sem,recoverD,hu,ntmps36,Exit.thenS,ta];apply wpS_seq;apply wpS_region;simp[wpOpsS,go_sem,Exit.thenS];refine wpS_cond (t:=false) (by simp[Act.eval,Array.replicate]) ?_;simp only[Bool.false_eq_true,if_false];refine wpS_of_wp (wp_skip ?_)
 cases c₀
 simp only[bodyPostS,results,Tryz.results36];refine⟨by simp,.returning,by simp_all,.tuple #[],by simp[go_sem],rfl,rfl,zzb.alloc zzl _⟩
theorem Jgh{r e a:Nat}(er o:Int){f0 f1 f2 e0 a0:Value}{w:World}{tr te ta:Nat}(hr:w.heap[r]?=some (.cells #[f0,f1,f2] tr (0,0)))(he:w.heap[e]?=some (.cells #[e0] te (0,0)))(ha:w.heap[a]?=some (.cells #[a0] ta (0,0)))(h1:r≠e)(h2:r≠a)(h3:e≠a)(X:Obj) :
  ∀ W,W=((((((w.setCell ⟨r,0,none⟩ (.slice none 0 0)).setCell ⟨r,1,none⟩ (.slice none 0 0)).setCell ⟨r,2,none⟩ (.int .i64 0)).setCell ⟨e,0,none⟩ (.int .i64 er)).setCell ⟨a,0,none⟩ (.int .i64 o)).alloc X).drew->
  W.heap[r]?=some (.cells #[.slice none 0 0,.slice none 0 0,.int .i64 0] tr (0,0))/\W.heap[e]?=some (.cells #[.int .i64 er] te (0,0))/\W.heap[a]?=some (.cells #[.int .i64 o] ta (0,0))/\Chg [r,e,a] w W:=by
 rintro W rfl;have g1:=QhX (.slice none 0 0) (.slice none 0 0) (.int .i64 0) hr
 have g2:((((w.setCell ⟨r,0,none⟩ (.slice none 0 0)).setCell ⟨r,1,none⟩ (.slice none 0 0)).setCell ⟨r,2,none⟩ (.int .i64 0)).setCell ⟨e,0,none⟩ (.int .i64 er)).heap[e]?=some (.cells #[.int .i64 er] te (0,0)):=
  heap_setCell_same _ _ 0 _ _ _ (Jk (Jk (Jk he (fun h=>h1 h.symm) _) (fun h=>h1 h.symm) _) (fun h=>h1 h.symm) _)
 refine⟨?_,?_,?_,?_⟩
 ·show ((World.alloc _ X).heap)[r]?=_
  exact Jg (Jk (Jk g1 h1 _) h2 _)
 ·show ((World.alloc _ X).heap)[e]?=_
  exact Jg (Jk g2 h3 _)
 ·show ((World.alloc _ X).heap)[a]?=_
  refine Jg (heap_setCell_same _ _ 0 _ _ _ (Jk (Jk (Jk (Jk ha (fun h=>h2 h.symm) _) (fun h=>h2 h.symm) _) (fun h=>h2 h.symm) _) (fun h=>h3 h.symm) _))
 ·exact((((((Chg.refl _ _).setCell (.inl (by simp)) _).setCell (.inl (by simp)) _).setCell (.inl (by simp)) _).setCell (.inl (by simp)) _).setCell (.inl (by simp)) _).alloc _ |>.drew
theorem Yu(r e a:Nat)(er o:Int)(older:List PanicEntry)(f0 f1 f2:Value)(e0 a0:Int)(w:World)(hr:w.heap[r]?=some (.cells #[f0,f1,f2] 25 (0,0)))(he:w.heap[e]?=some (.cells #[.int .i64 e0] 39 (0,0)))(ha:w.heap[a]?=some (.cells #[.int .i64 a0] 3 (0,0)))(h1:r≠e)(h2:r≠a)(h3:e≠a) :
  CallsD prog 36 #[.pointer (some ⟨r,0,none⟩),.pointer (some ⟨e,0,none⟩),.pointer (some ⟨a,0,none⟩)] (.panicking ({ v:=Qgl er o,recovered:=false }::older)) w fun en u' w'=>
   en=.returned (.tuple #[])/\u'=.panicking ({ v:=Qgl er o,recovered:=true }::older)/\w'.heap[r]?=some (.cells #[.slice none 0 0,.slice none 0 0,.int .i64 0] 25 (0,0))/\w'.heap[e]?=some (.cells #[.int .i64 er] 39 (0,0))/\w'.heap[a]?=some (.cells #[.int .i64 o] 3 (0,0))/\Chg [r,e,a] w w':=by
 have ta:∀ w,(Instr.typeAssert (Qgl er o) 20 77 true).run prog w=.ok (.tuple #[.agg #[.int .i64 er,.int .i64 o],.bool true]) w:=fun _=>by kernel_rfl
 refine callsD_of_wpS func36 rfl fun c₀ cs hu=>?_
 apply wpS_seq;apply wpS_region;simp[wpOpsS,go_sem,recoverD,hu,ntmps36,Exit.thenS,ta];apply wpS_seq;apply wpS_region;simp[wpOpsS,go_sem,Exit.thenS];refine wpS_cond (t:=true) (by simp[Act.eval,Array.replicate]) ?_;simp only[if_true];refine wpS_of_wp ?_;have hl:=Jb hr;have hle:=Jb he;have hla:=Jb ha;have r0:=Ja hr 0;have r1:=Ja hr 1;have r2:=Ja hr 2;have e1:=Ja he 0;have a1:=Ja ha 0;have q0:=Jc hr 0;have q1:=Jc hr 1;have q2:=Jc hr 2;have q3:=Jc he 0;have q4:=Jc ha 0;simp only[ZD,ZE,ZF]at r0 r1 r2 e1 a1;have n1:=Ne.symm h1;have n2:=Ne.symm h2;have n3:=Ne.symm h3;go_region
 all_goals have fin:=Jgh er o hr he ha h1 h2 h3 (.cells #[.int .i64 er,.int .i64 o] 77)
 all_goals clear hr he ha r0 r1 r2 e1 a1 q0 q1 q2 q3 q4 hl hle hla ta
 all_goals (cases c₀;simp only[bodyPostS,results,Tryz.results36];refine⟨by trivial,_,rfl,.tuple #[],by simp[go_sem],rfl,rfl,fin _ rfl⟩)
def Qbr(l:List UInt8):Qaq × Int × Int:=
 if (QaA l).2.1=0 then (QaW (12*((QaA l).1.length+1)) (QaA l).1).getD (Qag,0,0) else (Qag,(QaA l).2.1,(QaA l).2.2)
def PsP(w:World)(X:Qaq × Int × Int)(e:Ending)(w':World):Prop:=
 ∃ c,e=.returned (.tuple #[.agg c,.int .i64 X.2.1,.int .i64 X.2.2])/\QaZ w' (fun b=>w.heap.size<=b/\b<w'.heap.size) X.1 c/\Below w.heap.size w w'
theorem JdP(W:World)(P:Nat->Prop):QaZ W P Qag #[.slice none 0 0,.slice none 0 0,.int .i64 0]:=
 ⟨_,_,rfl,⟨none,0,[],rfl,Nat.le_refl _,rfl,.inl rfl⟩,⟨none,0,[],rfl,Nat.le_refl _,rfl,.inl rfl⟩⟩
structure Res(w W:World)(rs:Array Value)(er a:Int):Prop where
 r:W.heap[w.heap.size]?=some (.cells rs 25 (0,0))
 e:W.heap[w.heap.size+1]?=some (.cells #[.int .i64 er] 39 (0,0))
 a:W.heap[w.heap.size+2]?=some (.cells #[.int .i64 a] 3 (0,0))
 bel:Below w.heap.size w W
theorem K6{w W:World}{rs:Array Value}{er a:Int}(h:Res w W rs er a)(hs:rs.size=3)(tmps:Array Value)(h2:tmps.getD 2 undef=.pointer (some ⟨w.heap.size,0,none⟩))(h3:tmps.getD 3 undef=.pointer (some ⟨w.heap.size+1,0,none⟩))(h4:tmps.getD 4 undef=.pointer (some ⟨w.heap.size+2,0,none⟩)) :
  (results Tryz.f16 tmps).run prog W=.ok (.tuple #[.agg rs,.int .i64 er,.int .i64 a]) W:=by
 have q2:tmps[2]?.getD undef=.pointer (some ⟨w.heap.size,0,none⟩):=by simpa using h2
 have q3:tmps[3]?.getD undef=.pointer (some ⟨w.heap.size+1,0,none⟩):=by simpa using h3
 have q4:tmps[4]?.getD undef=.pointer (some ⟨w.heap.size+2,0,none⟩):=by simpa using h4
 have c1:W.cell? ⟨w.heap.size+1,0,none⟩=some (.int .i64 er):=Ja h.e 0;have c2:W.cell? ⟨w.heap.size+2,0,none⟩=some (.int .i64 a):=Ja h.a 0;have l1:=run_loadVar_row (P:=prog) W w.heap.size 25 25 rs (0,0) _ h.r underlying25 rfl (by rw[hs];exact QfH);have l2:(loadVar 39 ⟨w.heap.size+1,0,none⟩).run prog W=.ok (.int .i64 er) W:=by simp[go_sem,c1]
 have l3:(loadVar 3 ⟨w.heap.size+2,0,none⟩).run prog W=.ok (.int .i64 a) W:=by simp[go_sem,c2]
 simp[results,Tryz.results16,q2,q3,q4,asAddr,l1,l2,l3]
theorem Res.up{w W W':World}{rs:Array Value}{er a:Int}(h:Res w W rs er a)(hb:Below W.heap.size W W'):Res w W' rs er a:=
 ⟨(hb.block _ (Jb h.r)).trans h.r,(hb.block _ (Jb h.e)).trans h.e,(hb.block _ (Jb h.a)).trans h.a,Jd h.bel hb⟩
theorem Res.setE{w W:World}{rs:Array Value}{er a:Int}(h:Res w W rs er a)(n:Int):Res w (W.setCell ⟨w.heap.size+1,0,none⟩ (.int .i64 n)) rs n a:=
 ⟨Jk h.r (by simp) _,heap_setCell_same _ _ 0 _ _ _ h.e,Jk h.a (by simp) _,h.bel.setCell (by simp) _⟩
theorem Res.setA{w W:World}{rs:Array Value}{er a:Int}(h:Res w W rs er a)(n:Int):Res w (W.setCell ⟨w.heap.size+2,0,none⟩ (.int .i64 n)) rs er n:=
 ⟨Jk h.r (by simp) _,Jk h.e (by simp) _,heap_setCell_same _ _ 0 _ _ _ h.a,h.bel.setCell (by simp) _⟩
theorem Res.setR{w W:World}{f0 f1 f2:Value}{er a:Int}(h:Res w W #[f0,f1,f2] er a)(v0 v1 v2:Value):Res w (((W.setCell ⟨w.heap.size,0,none⟩ v0).setCell ⟨w.heap.size,1,none⟩ v1).setCell ⟨w.heap.size,2,none⟩ v2) #[v0,v1,v2] er a:=
 ⟨QhX v0 v1 v2 h.r,Jk (Jk (Jk h.e (by simp) _) (by simp) _) (by simp) _,Jk (Jk (Jk h.a (by simp) _) (by simp) _) (by simp) _,((h.bel.setCell (by simp) _).setCell (by simp) _).setCell (by simp) _⟩
theorem Res.drew{w W:World}{rs:Array Value}{er a:Int}(h:Res w W rs er a):Res w W.drew rs er a:=⟨h.r,h.e,h.a,h.bel.drew⟩
structure Qnc(w W:World)(f0 f1 f2:Value)(er a:Int):Prop where
 r0:W.cell? ⟨w.heap.size,0,none⟩=some f0
 r1:W.cell? ⟨w.heap.size,1,none⟩=some f1
 r2:W.cell? ⟨w.heap.size,2,none⟩=some f2
 e0:W.cell? ⟨w.heap.size+1,0,none⟩=some (.int .i64 er)
 a0:W.cell? ⟨w.heap.size+2,0,none⟩=some (.int .i64 a)
 q0:W.frozen? ⟨w.heap.size,0,none⟩=false
 q1:W.frozen? ⟨w.heap.size,1,none⟩=false
 q2:W.frozen? ⟨w.heap.size,2,none⟩=false
 q3:W.frozen? ⟨w.heap.size+1,0,none⟩=false
 q4:W.frozen? ⟨w.heap.size+2,0,none⟩=false
theorem Res.cells{w W:World}{f0 f1 f2:Value}{er a:Int}(h:Res w W #[f0,f1,f2] er a):Qnc w W f0 f1 f2 er a:=
 ⟨Ja h.r 0,Ja h.r 1,Ja h.r 2,Ja h.e 0,Ja h.a 0,Jc h.r 0,Jc h.r 1,Jc h.r 2,Jc h.e 0,Jc h.a 0⟩
theorem Qmz{P:Prop}(h:P:=by
  have e1:=zzw (w.alloc (.cells #[.slice none 0 0,.slice none 0 0,.int .i64 0] 25)) (.cells #[.int .i64 0] 39);have e2:=zzw ((w.alloc (.cells #[.slice none 0 0,.slice none 0 0,.int .i64 0] 25)).alloc (.cells #[.int .i64 0] 39)) (.cells #[.int .i64 0] 3);simp only[World.size_alloc]at e1 e2
  exact⟨Jg (Jg (zzw _ _)),Jg e1,e2,((zzb.alloc zzl _).alloc (by simp) _).alloc (by simp;omega) _⟩):P:=h
theorem JeD(l:List UInt8)(w:World)(hl:l.length<=281474976710655)(hL:Laid w)(h:(QaA l).2.1≠0) :
  Calls prog 16 #[.string (bs l)] w (PsP w (Qag,(QaA l).2.1,(QaA l).2.2)):=by
 obtain⟨T,er,at',hsc⟩:∃ T er at',QaA l=(T,er,at'):=⟨_,_,_,rfl⟩
 rw[hsc]at h |-;simp only at h |-;have hne:(er==(0:Int))=false:=by simpa using h
 have hr0:Res w (((w.alloc (.cells #[.slice none 0 0,.slice none 0 0,.int .i64 0] 25)).alloc (.cells #[.int .i64 0] 39)).alloc (.cells #[.int .i64 0] 3)) #[.slice none 0 0,.slice none 0 0,.int .i64 0] 0 0:=by
  exact Qmz
 have HR0:=Zh hr0;clear hr0 h;go_enter_defers func16,ntmps16;go_wp2_with fail;generalize World.alloc (World.alloc (World.alloc w _) _) _=w1 at *;have hw1:=hL.below HR0.out.bel;refine(Jdh l w1 hl hw1).mono ?_;rw[hsc];rintro e w2 ⟨v,rfl,hown,hb⟩;obtain⟨va,vc,rfl⟩:=Jan hown;have HR2:=Zh (HR0.out.up hb);clear HR0 hown hb hsc hw1 hL;obtain⟨r0,r1,r2,e0,a0,q0,q1,q2,q3,q4⟩:=HR2.out.cells;have HR3:=Zh ((HR2.out.setE er).setA at');clear r0 r1 r2 q0 q1 q2 HR2;go_wp2_with fail;clear e0 a0 q3 q4;generalize World.setCell (World.setCell w2 _ _) _ _=w3 at *;obtain⟨r0,r1,r2,e0,a0,q0,q1,q2,q3,q4⟩:=HR3.out.cells;have HR4:=Zh ((((HR3.out.setR (.slice none 0 0) (.slice none 0 0) (.int .i64 0)).setE er).setA at').drew);clear HR3;go_wp2_with fail;go_region
 all_goals clear r0 r1 r2 e0 a0 q0 q1 q2 q3 q4
 all_goals go_wp2
 all_goals (refine⟨_,K6 HR4.out rfl _ rfl rfl rfl,?_⟩;exact⟨_,rfl,JdP _ _,HR4.out.bel⟩)
open Go Go.Lib
mutual
theorem Jjf:∀ (a:Nd),QaC (zN a)=QaC a
 |.mk k n s o l=>by rw[Kt,QaC,QaC,Jgi l]
theorem Jgi:∀ (l:List Nd),Qbs (zL l)=Qbs l
 |[]=>by rw[JS]
 |a::l=>by rw[JN,Qbs,Qbs,Jjf a,Jgi l]
end
mutual
theorem Jgj:∀ (a:Nd),Qab (zN a)=Qab a
 |.mk k n s o l=>by rw[Kt,Qab,Qab,Jgk l]
theorem Jgk:∀ (l:List Nd),QaJ (zL l)=QaJ l
 |[]=>by rw[JS]
 |a::l=>by rw[JN,QaJ,QaJ,Jgj a,Jgk l]
end
mutual
theorem JbC(fs:List (List UInt8)):∀ (a:Nd) (vars:List (List UInt8)),Qcl fs vars (zN a)=(zN (Qcl fs vars a).1,z0 (Qcl fs vars a).2)
 |.mk k n s o l,vars=>by
  have hl:=Jjg fs l vars;rw[Kt,ZW,ZW]
  by_cases e2:k=2
  ·rw[if_pos e2,if_pos e2];simp only[hl,Kt,KF,JaI]
  rw[if_neg e2,if_neg e2]
  by_cases e20:k=20
  ·rw[if_pos e20,if_pos e20];simp only[hl,Kt,KF,JaI]
  rw[if_neg e20,if_neg e20]
  by_cases e19:k=19
  ·rw[if_pos e19,if_pos e19]
   match l with
   |[]=>rw[JS,Kt,JS];rfl
   |[a]=>rw[JN,JS];simp only[Kt,JN,JS];rfl
   |[a,b]=>
    have ea:=JbC fs a vars;have eb:=JbC fs b (vars++[s]);rw[JN,JN,JS];simp only[ea,eb,Kt,JN,JS,KF]
   |a::b::c::r=>simp only[Kt,JN];rfl
  rw[if_neg e19,if_neg e19];simp only[hl,Kt]
theorem Jjg(fs:List (List UInt8)):∀ (l:List Nd) (vars:List (List UInt8)),QbE fs vars (zL l)=(zL (QbE fs vars l).1,z0 (QbE fs vars l).2)
 |[],vars=>by rw[JS,Jcn,JS];rfl
 |a::l,vars=>by
  rw[JN,Jaq,Jaq,JbC fs a vars,Jjg fs l vars];simp only[JN,KF]
end
theorem Jgl:∀ (l:List (List UInt8 × Int)) (seen:List (List UInt8)),Qcr (l.map zP) seen=z0 (Qcr l seen)
 |[],seen=>by rw[List.map_nil,Qcr];rfl
 |(s,o)::l,seen=>by
  rw[map_cons];change Qcr ((s,0)::l.map zP) seen=_;rw[Qcr,Qcr,Jgl l,KF,JaI]
theorem Jjh(fs:List (List UInt8))(f:FnS):resF fs (zF f)=(zF (resF fs f).1,z0 (resF fs f).2):=by
 have e:(f.params.map zP).map (·.1)=f.params.map (·.1):=by rw[map_map];rfl
 unfold resF zF;simp only[e,JbC,Jgl,KF]
theorem Jji(fs:List (List UInt8))(c:ClS):resC fs (zC c)=(zC (resC fs c).1,z0 (resC fs c).2):=by
 unfold resC zC;simp only[JbC]
theorem JaJ{α:Type}(l:List α)(f:α->List Int):(l.map fun x=>z0 (f x)).flatten=z0 (l.map f).flatten:=by
 induction l with
 |nil=>rfl
 |cons a l ih=>rw[map_cons,List.flatten_cons,ih,map_cons,List.flatten_cons,KF]
theorem Jgm(s:Src):Qac (zS s)=(zS (Qac s).1,z0 (Qac s).2):=by
 have e:(zS s).funcs.map (·.name.1)=s.funcs.map (·.name.1):=by unfold zS;rw[map_map];rfl
 have en:(zS s).funcs.map (·.name)=(s.funcs.map (·.name)).map zP:=by unfold zS;rw[map_map,map_map];rfl
 unfold Qac;simp only[e,en,Jgl];unfold zS;simp only[map_map,KF]
 have f1:(s.funcs.map ((fun x=>x.2)∘resF (s.funcs.map fun x=>x.name.1)∘zF)).flatten=z0 (s.funcs.map ((fun x=>x.2)∘resF (s.funcs.map fun x=>x.name.1))).flatten:=by
  rw[<- JaJ];exact congrArg List.flatten (map_congr_left fun x _=>by simp only[Function.comp,Jjh])
 have f2:(s.clauses.map ((fun x=>x.2)∘resC (s.funcs.map fun x=>x.name.1)∘zC)).flatten=z0 (s.clauses.map ((fun x=>x.2)∘resC (s.funcs.map fun x=>x.name.1))).flatten:=by
  rw[<- JaJ];exact congrArg List.flatten (map_congr_left fun x _=>by simp only[Function.comp,Jji])
 have g1:s.funcs.map ((fun x=>x.1)∘resF (s.funcs.map fun x=>x.name.1)∘zF)=s.funcs.map (zF∘(fun x=>x.1)∘resF (s.funcs.map fun x=>x.name.1)):=
  map_congr_left fun x _=>by simp only[Function.comp,Jjh]
 have g2:s.clauses.map ((fun x=>x.1)∘resC (s.funcs.map fun x=>x.name.1)∘zC)=s.clauses.map (zC∘(fun x=>x.1)∘resC (s.funcs.map fun x=>x.name.1)):=
  map_congr_left fun x _=>by simp only[Function.comp,Jji]
 rw[f1,f2,g1,g2]
theorem Jgn(fs:List Qbn)(vars:List Int)(t:Int)(a:Nd):QcP fs vars t (zN a)=z0 (QcP fs vars t a):=by
 unfold QcP zN;simp only[Vw,Zl,KF,JaI]
theorem Jkv(s:Src):QaY (zS s)=z0 (QaY s):=by
 have e:(zS s).funcs.map (fun f=>(⟨f.types,f.result⟩:Qbn))=s.funcs.map fun f=>(⟨f.types,f.result⟩:Qbn):=by unfold zS;rw[map_map];rfl
 unfold QaY;simp only[e];unfold zS;simp only[map_map,KF];rw[<- JaJ,<- JaJ]
 congr 1
 ·exact congrArg List.flatten (map_congr_left fun x _=>by simp only[Function.comp,zF,Jgn])
 ·exact congrArg List.flatten (map_congr_left fun x _=>by simp only[Function.comp,zC,Jgn])
theorem Jip(s:Src):QaN (zS s)=QaN s:=by
 unfold QaN zS;simp only[map_map]
 congr 1
 ·exact map_congr_left fun x _=>by simp only[Function.comp,zF,zP,Jgj]
 ·exact map_congr_left fun x _=>by simp only[Function.comp,zC,Jgj]
theorem JcN:∀ l:List Int,QaG (z0 l)=(QaG l).map fun _=>0
 |[]=>rfl
 |a::l=>by
  change QaG (0::z0 l)=_;rw[QaG,JcN l,QaG]
  cases QaG l<;>rfl
theorem Jkw(s:Src):Qbd (zS s)=(Qbd s).map fun _=>0:=by
 have e:(zS s).roots=s.roots.map zN:=by
  unfold Src.roots zS;simp only[map_map,List.map_append];rfl
 unfold Qbd;rw[e,List.find?_map];have:((fun n=>decide (40<QaC n))∘zN)=fun n=>decide (40<QaC n):=by funext n;simp only[Function.comp,Jjf]
 rw[this]
 cases s.roots.find? (fun n=>decide (40<QaC n)) with
 |none=>rfl
 |some n=>
  cases n
  simp only[Option.map_some,Kt,Nd.off]
theorem Jiq(f:Nat)(l:List Tok):QaW f (l.map er)=(QaW f l).map fun p=>(p.1,p.2.1,0):=by
 unfold QaW;rw[JjU]
 cases QcO f l with
 |out=>rfl
 |bad o=>rfl
 |ok s r=>
  simp only[PR.z,Jkw]
  cases Qbd s with
  |some o=>rfl
  |none=>
   simp only[Option.map_none,Jgm,JcN]
   cases QaG (Qac s).2 with
   |some o=>rfl
   |none=>
    simp only[Option.map_none,Jkv,JcN]
    cases QaG (QaY (Qac s).1) with
    |some o=>rfl
    |none=>simp only[Option.map_none,Jip,Option.map_some]
theorem JeE{f:Nat}{l:List Tok}{r:Qaq}{o:Int}(h:QaW f l=some (r,0,o)):o=0:=by
 unfold QaW at h
 cases hs:QcO f l with
 |out=>rw[hs]at h;cases h
 |bad o=>rw[hs]at h;simp at h
 |ok s r'=>
  rw[hs]at h;simp only at h
  cases hl:Qbd s with
  |some o=>rw[hl]at h;simp at h
  |none=>
   rw[hl]at h;simp only at h
   cases hr:QaG (Qac s).2 with
   |some o=>rw[hr]at h;simp at h
   |none=>
    rw[hr]at h;simp only at h
    cases hc:QaG (QaY (Qac s).1) with
    |some o=>rw[hc]at h;simp at h
    |none=>
     rw[hc]at h;simp only[Option.some.injEq,Prod.mk.injEq]at h;exact h.2.2.symm
theorem KQ{r:Qaq}(h:QcG r=true):QdG r=Qae (iR r):=by unfold QdG;rw[if_pos h]
theorem JlB:∀ (l:List UInt8) (k:Nat) (ts:List Tok),sc k l=.ok ts->ts.length<=l.length+1:=by
 refine Jdg (P:=fun k l=>∀ ts,sc k l=.ok ts->ts.length<=l.length+1) ?_ ?_ ?_ ?_
 ·intro k ts h;rw[Jdf]at h;injection h with h;subst h;simp
 ·intro k c r hs ih ts h;rw[Jhr k r hs]at h;have:=ih ts h;simp;omega
 ·intro k c r hs ht ts h;rw[JbW k r hs ht]at h
  cases h
 ·intro k c r t n hs ht _ _ ih ts h;rw[Jak k r hs ht]at h;obtain⟨r',h1,rfl⟩:=JeV h;have:=ih _ h1;have hn:=(JaP ht).2;simp only[List.length_drop,List.length_cons]at this |-;have h3:n<=r.length+1:=by have:=hn.2.1;simpa using this
  omega
theorem Jgq{l:List UInt8}{T:List Tok}{at':Int}(h:QaA l=(T,0,at')):at'=0/\T.length<=4097/\(∀ t∈T,t.text.length<=24)/\0<T.length/\∀ i t,T[i]?=some t->(t.kind=4↔i+1=T.length):=by
 unfold QaA at h;split at h
 ·simp at h
 ·cases hs:sc 0 l with
  |err k=>rw[hs]at h;simp at h
  |ok ts=>
   rw[hs]at h;simp at h;obtain⟨rfl,rfl⟩:=h;have h1:=JlB _ _ _ hs;obtain⟨us,rfl,h2,_⟩:=Jjy _ _ _ hs;refine⟨rfl,by omega,?_,by simp,?_⟩
   ·intro t ht
    rcases List.mem_append.1 ht with ht|ht
    ·exact(h2 t ht).2.2.1
    ·simp at ht;subst ht;simp
   ·intro i t hi
    by_cases hl:i<us.length
    ·rw[List.getElem?_append_left hl]at hi;have:=(h2 t (List.mem_of_getElem? hi)).2.1;simp;omega
    ·rw[List.getElem?_append_right (by omega)]at hi;have:i-us.length=0:=by have:=(List.getElem?_eq_some_iff.1 hi).1;simp at this;omega
     rw[this]at hi;simp at hi;subst hi;simp;omega
theorem Jkx{W:World}{base:Nat}{v:Value}{T:List Tok}(h:W.ownsRow base 46 4 v T.length (Qan T))(h0:0<T.length):∃ A C,v=.slice A T.length C/\∃ b,A=some ⟨b,0,none⟩/\b<W.heap.size/\∀ i t,T[i]?=some t->∀ j u,(QcU t).toList[j]?=some u->W.cell? ⟨b,i*4+j,none⟩=some u:=by
 obtain⟨A,C,hv,hA⟩:=Va h;refine⟨A,C,hv,Value.blk v,hA h0,?_,fun i t hi j u hj=>?_⟩
 ·have hc:(Qan T)[0]?≠none:=by
   cases T with
   |nil=>simp at h0
   |cons t r=>simp[Qan]
  obtain⟨u,hu⟩:=Option.ne_none_iff_exists'.1 hc;exact ZK (JZ h hu)
 ·refine JZ h ?_
  have e:∀ T:List Tok,Qan T=T.flatMap fun t=>(QcU t).toList:=by
   intro T
   induction T with
   |nil=>rfl
   |cons a r ih=>rw[Qan,ih,List.flatMap_cons];rfl
  rw[e];exact Kp (cells:=fun t=>(QcU t).toList) (size:=4) (fun _=>rfl) T i j t u hi hj
theorem JlC{W:World}{base:Nat}{v:Value}{T:List Tok}(h:W.ownsRow base 46 4 v T.length (Qan T))(h0:0<T.length)(hr:T.length<=4097)(hf:∀ i t,T[i]?=some t->(t.kind=4↔i+1=T.length)) :
  ∃ A C,v=.slice A T.length C/\PAt (W.alloc (.cells #[v,.int .i64 0] 81)) W.heap.size A C T 0:=by
 obtain⟨A,C,rfl,b,rfl,hb,hc⟩:=Jkx h h0;refine⟨_,C,rfl,zzw _ _,⟨b,0,rfl,by omega,fun i t hi j u hj=>?_⟩,h0,hf,by omega⟩;rw[Nat.zero_add];have:=hc i t hi j u hj;exact(World.cell?_of_block (a:=⟨b,i*4+j,none⟩) (Below.heap_alloc _ _ _ hb)).trans this
theorem Res.on{S:List Nat}{w W W':World}{rs:Array Value}{er a:Int}(h:Res w W rs er a)(hc:Chg S W W')(hs:∀ b∈S,w.heap.size+3<=b):Res w W' rs er a:=
 ⟨hc.heap_some (fun hm=>by have:=hs _ hm;omega) h.r,hc.heap_some (fun hm=>by have:=hs _ hm;omega) h.e,hc.heap_some (fun hm=>by have:=hs _ hm;omega) h.a,
  ⟨hc.os.trans h.bel.os,hc.tape.trans h.bel.tape,hc.output.trans h.bel.output,le_trans h.bel.size hc.size,fun q hq=>(hc.block q (Nat.lt_of_lt_of_le hq h.bel.size) (fun hm=>by have:=hs _ hm;omega)).trans (h.bel.block q hq)⟩⟩
theorem Res.low{w W W':World}{sb:Nat}{rs:Array Value}{er a:Int}(h:Res w W rs er a)(hc:Below sb W W')(hs:w.heap.size+3<=sb):Res w W' rs er a:=
 ⟨(hc.block _ (by omega)).trans h.r,(hc.block _ (by omega)).trans h.e,(hc.block _ (by omega)).trans h.a,
  ⟨hc.os.trans h.bel.os,hc.tape.trans h.bel.tape,hc.output.trans h.bel.output,le_trans h.bel.size hc.size,fun q hq=>(hc.block q (by omega)).trans (h.bel.block q hq)⟩⟩
theorem YI{w W:World}{f0 f1 f2:Value}{e0 a0:Int}(er o:Int)(h:Res w W #[f0,f1,f2] e0 a0)(tmps:Array Value)(h2:tmps.getD 2 undef=.pointer (some ⟨w.heap.size,0,none⟩))(h3:tmps.getD 3 undef=.pointer (some ⟨w.heap.size+1,0,none⟩))(h4:tmps.getD 4 undef=.pointer (some ⟨w.heap.size+2,0,none⟩)) :
  Leaves prog Tryz.f16 tmps (PsP w (Qag,er,o)) [{ target:=.fn (.func 36) #[.pointer (some ⟨w.heap.size,0,none⟩),.pointer (some ⟨w.heap.size+1,0,none⟩),.pointer (some ⟨w.heap.size+2,0,none⟩)],args:=#[] }] (.panicking [{ v:=Qgl er o,recovered:=false }]) W:=by
 refine leaves_cons (f:=36) (args:=#[.pointer (some ⟨w.heap.size,0,none⟩),.pointer (some ⟨w.heap.size+1,0,none⟩),.pointer (some ⟨w.heap.size+2,0,none⟩)]) (by simp) (by simp[go_sem]) ?_;refine(Yu _ _ _ er o [] f0 f1 f2 e0 a0 W h.r h.e h.a (by omega) (by omega) (by omega)).mono ?_;rintro e u' w'' ⟨rfl,rfl,g1,g2,g3,hc⟩;have hR:Res w w'' #[.slice none 0 0,.slice none 0 0,.int .i64 0] er o:=⟨g1,g2,g3,⟨hc.os.trans h.bel.os,hc.tape.trans h.bel.tape,hc.output.trans h.bel.output,le_trans h.bel.size hc.size,fun q hq=>(hc.block q (Nat.lt_of_lt_of_le hq h.bel.size) (by simp;omega)).trans (h.bel.block q hq)⟩⟩
 exact⟨_,K6 hR rfl tmps h2 h3 h4,_,rfl,JdP _ _,hR.bel⟩
theorem Jky{w W:World}{c:Array Value}{e0 a0:Int}{r:Qaq}(h:Res w W c e0 a0)(hs:c.size=3)(hx:QaZ W (fun b=>w.heap.size<=b/\b<W.heap.size) r c)(tmps:Array Value)(h2:tmps.getD 2 undef=.pointer (some ⟨w.heap.size,0,none⟩))(h3:tmps.getD 3 undef=.pointer (some ⟨w.heap.size+1,0,none⟩))(h4:tmps.getD 4 undef=.pointer (some ⟨w.heap.size+2,0,none⟩)) :
  Leaves prog Tryz.f16 tmps (PsP w (r,e0,a0)) [{ target:=.fn (.func 36) #[.pointer (some ⟨w.heap.size,0,none⟩),.pointer (some ⟨w.heap.size+1,0,none⟩),.pointer (some ⟨w.heap.size+2,0,none⟩)],args:=#[] }] .returning W:=by
 refine leaves_cons (f:=36) (args:=#[.pointer (some ⟨w.heap.size,0,none⟩),.pointer (some ⟨w.heap.size+1,0,none⟩),.pointer (some ⟨w.heap.size+2,0,none⟩)]) (by simp) (by simp[go_sem]) ?_;refine(JcM _ _ _ W).mono ?_;rintro e u' w'' ⟨rfl,rfl,hb⟩;have hR:=h.up hb;exact⟨_,K6 hR hs tmps h2 h3 h4,c,rfl,hx.keep (fun b hb'=>hb.block b hb'.2) (fun b hb'=>⟨hb'.1,Nat.lt_of_lt_of_le hb'.2 hb.size⟩),hR.bel⟩
def Qcs(s:Src):Qaq × Int × Int:=
 match Qbd s with
 |some o=>(Qag,7,o)
 |none=>
  match QaG (Qac s).2 with
  |some o=>(Qag,16,o)
  |none=>
   match QaG (QaY (Qac s).1) with
   |some o=>(Qag,15,o)
   |none=>(QaN (Qac s).1,0,0)
theorem JeF{f:Nat}{T r:List Tok}{s:Src}(h:QcO f T=.ok s r):QaW f T=some (Qcs s):=by
 unfold QaW Qcs;rw[h];simp only
 cases Qbd s<;>simp only
 cases QaG (Qac s).2<;>simp only
 cases QaG (QaY (Qac s).1)<;>rfl
theorem Jgr{s:Src}{o:Int}(h:Qbd s=some o):Qcs s=(Qag,7,o):=by unfold Qcs;rw[h]
theorem Jgs{s:Src}{o:Int}(h:Qbd s=none)(h2:QaG (Qac s).2=some o):Qcs s=(Qag,16,o):=by unfold Qcs;rw[h,h2]
theorem Jir{s:Src}(h:Qbd s=none)(h2:QaG (Qac s).2=none):Qcs s=match QaG (QaY (Qac s).1) with|some o=>(Qag,15,o)|none=>(QaN (Qac s).1,0,0):=by unfold Qcs;rw[h,h2]
theorem Jgt:∀ l:List FnS,l.length<=QcI l
 |[]=>by simp
 |f::l=>by
  have:=Jgt l;unfold QcI at this |-;simp only[map_cons,sum_cons,List.length_cons];have:1<=f.siz:=by unfold FnS.siz;omega
  omega
theorem Jgu:∀ l:List ClS,l.length<=QcJ l
 |[]=>by simp
 |f::l=>by
  have:=Jgu l;unfold QcJ at this |-;simp only[map_cons,sum_cons,List.length_cons];have:1<=f.siz:=by unfold ClS.siz;omega
  omega
theorem Jgv{f:FnS}:∀ {l:List FnS},f∈l->f.siz<=QcI l
 |a::l,h=>by
  unfold QcI;simp only[map_cons,sum_cons]
  rcases List.mem_cons.1 h with rfl|h
  ·omega
  ·have:=Jgv h;unfold QcI at this;omega
theorem Jgw{f:ClS}:∀ {l:List ClS},f∈l->f.siz<=QcJ l
 |a::l,h=>by
  unfold QcJ;simp only[map_cons,sum_cons]
  rcases List.mem_cons.1 h with rfl|h
  ·omega
  ·have:=Jgw h;unfold QcJ at this;omega
structure QlJ(s:Src):Prop where
 nf:s.funcs.length<=8194
 nc:s.clauses.length<=8194
 f:∀ x∈s.funcs,Qjx x/\siz x.body<=8194/\x.types.length<=8194/\x.params.length=x.types.length
 c:∀ x∈s.clauses,QkG x/\siz x.cond<=8194
theorem JmB{f:Nat}{T r:List Tok}{s:Src}(h:QcO f T=.ok s r)(hT:T.length<=4097)(hx:∀ t∈T,t.text.length<=24):QlJ s:=by
 obtain⟨h1,h2⟩:=JhV h;obtain⟨h3,h4⟩:=Jkt (fun t ht=>le_trans (hx t ht) (by decide)) h;have q1:=Jgt s.funcs;have q2:=Jgu s.clauses;refine⟨by omega,by omega,fun x hx=>?_,fun x hx=>?_⟩
 ·have q:=Jgv hx;have e:x.siz=siz x.body+x.params.length+x.types.length+1:=rfl;exact⟨h3 x hx,by omega,by omega,h2 x hx⟩
 ·have q:=Jgw hx;have e:x.siz=siz x.cond+1:=rfl;exact⟨h4 x hx,by omega⟩
theorem Jis{S:Qap}(h:QlJ S.src):∀ r∈S.rootsA,siz r.2.nd<=1000000000:=by
 intro r hr;have hm:r.2.nd∈S.src.roots:=by rw[<- JdG];exact List.mem_map.2 ⟨r,hr,rfl⟩
 unfold Src.roots at hm
 rcases List.mem_append.1 hm with hm|hm
 ·obtain⟨f,hf,e⟩:=List.mem_map.1 hm;rw[<- e];exact le_trans (h.f f hf).2.1 (by decide)
 ·obtain⟨f,hf,e⟩:=List.mem_map.1 hm;rw[<- e];exact le_trans (h.c f hf).2 (by decide)
theorem JbD{S:Qap}:S.src.funcs.length=S.funcs.length:=by simp[Qap.src]
theorem Jgx{S:Qap}:S.src.clauses.length=S.clauses.length:=by simp[Qap.src]
theorem Jkz{S:Qap}{f:FnA}(h:f∈S.funcs):f.src∈S.src.funcs:=List.mem_map.2 ⟨f,h,rfl⟩
theorem JkA{S:Qap}{c:ClA}(h:c∈S.clauses):c.src∈S.src.clauses:=List.mem_map.2 ⟨c,h,rfl⟩
theorem JeG(l:List UInt8)(w:World)(hl:l.length<=281474976710655)(hL:Laid w)(T:List Tok)(at0:Int)(hsc:QaA l=(T,0,at0)) :
  Calls prog 16 #[.string (bs l)] w (PsP w ((QaW (12*(T.length+1)) T).getD (Qag,0,0))):=by
 obtain⟨X,hX⟩:∃ X,(QaW (12*(T.length+1)) T).getD (Qag,0,0)=X:=⟨_,rfl⟩
 rw[hX];have HX:=Zh hX;obtain⟨rfl,hT,htx,hT0,hfin⟩:=Jgq hsc;obtain⟨f,hf⟩:∃ f,f=12*(T.length+1):=⟨_,rfl⟩
 rw[<- hf]at HX;have HF:=Zh hf;have HT:=Zh (And.intro hT (And.intro htx (And.intro hT0 hfin)))
 have hr0:Res w (((w.alloc (.cells #[.slice none 0 0,.slice none 0 0,.int .i64 0] 25)).alloc (.cells #[.int .i64 0] 39)).alloc (.cells #[.int .i64 0] 3)) #[.slice none 0 0,.slice none 0 0,.int .i64 0] 0 0:=by
  exact Qmz
 have HR0:=Zh hr0;have hmf:∀ (fn:Fn) (first cap:Array Value) (w:World),(Instr.makeFunc fn first cap).run prog w=.ok (.func fn first cap) w:=fun _ _ _ _=>rfl
 clear hr0 hX hf hT htx hT0 hfin;go_enter_defers func16,ntmps16;go_wp2_with fail;generalize World.alloc (World.alloc (World.alloc w _) _) _=w1 at *;have hw1:=hL.below HR0.out.bel;refine(Jdh l w1 hl hw1).mono ?_;rw[hsc];rintro e w2 ⟨v,rfl,hown,hb⟩;obtain⟨va,vc,rfl⟩:=Jan hown;have HL1:Hid (w.heap.size+3<=w1.heap.size):=by have:=Jb HR0.out.a;unfold Hid;omega
 have HR2:=Zh (HR0.out.up hb);have HOW:Hid _:=Zh hown;clear HR0 hown hb hsc hw1 hL;obtain⟨r0,r1,r2,e0,a0,q0,q1,q2,q3,q4⟩:=HR2.out.cells;have HR3:=Zh ((HR2.out.setE 0).setA 0)
 have HO3:Hid (((w2.setCell ⟨w.heap.size+1,0,none⟩ (.int .i64 0)).setCell ⟨w.heap.size+2,0,none⟩ (.int .i64 0)).ownsRow w1.heap.size 46 4 (.slice va T.length vc) T.length (Qan T)):=by
  have hst:Chg [w.heap.size+1,w.heap.size+2] w2 ((w2.setCell ⟨w.heap.size+1,0,none⟩ (.int .i64 0)).setCell ⟨w.heap.size+2,0,none⟩ (.int .i64 0)):=((Chg.refl _ _).setCell (.inl (by simp)) _).setCell (.inl (by simp)) _;refine Jz HOW.out hst ?_;intro g hg;have:=HL1.out;simp at hg;omega
 have HS3:Hid (((w2.setCell ⟨w.heap.size+1,0,none⟩ (.int .i64 0)).setCell ⟨w.heap.size+2,0,none⟩ (.int .i64 0)).heap.size=w2.heap.size):=by unfold Hid;simp[World.setCell]
 clear r0 r1 r2 q0 q1 q2 HR2 HOW;go_wp2_with fail;clear e0 a0 q3 q4;generalize World.setCell (World.setCell w2 _ _) _ _=w3 at *;obtain⟨r0,r1,r2,e0,a0,q0,q1,q2,q3,q4⟩:=HR3.out.cells;clear r0 r1 r2 q0 q1 q2 q3 q4 a0;go_wp2_with fail;rw[<- HS3.out];obtain⟨hT,htx,hT0,hfin⟩:=HT.out;obtain⟨A,C,hAC,hP⟩:=JlC HO3.out hT0 hT hfin;obtain⟨rfl,rfl⟩:va=A/\vc=C:=by injection hAC with h1 _ h2;exact⟨h1,h2⟩
 have hne:QcO f T≠.out:=Jfd (by have:=HF.out;omega);have hb4:Below w3.heap.size w3 (w3.alloc (.cells #[.slice va T.length vc,.int .i64 0] 81)):=zzb.alloc zzl _;have HR4:=Zh (HR3.out.up hb4);have hs4:(w3.alloc (.cells #[.slice va T.length vc,.int .i64 0] 81)).heap.size=w3.heap.size+1:=by simp
 have HP3:Hid (w.heap.size+3<=w3.heap.size):=by have:=Jb HR3.out.a;unfold Hid;omega
 have hC:=JhS f w3.heap.size va vc T (by have:=HF.out;omega) (fun t ht=>le_trans (htx t ht) (by decide)) 0 _ hP (by rw[List.drop_zero];exact hne);rw[List.drop_zero]at hC;clear e0 HO3 hb4 hAC hP HR3;generalize hw4:w3.alloc (.cells #[.slice va T.length vc,.int .i64 0] 81)=w4 at *;have HS4:=Zh hs4;clear hs4 hw4;refine hC.mono ?_
 cases hsp:QcO f T with
 |out=>exact absurd hsp hne
 |bad o=>
  rintro e w5 ⟨rfl,hc⟩;have hX:X=(Qag,2,o):=by rw[<- HX.out];unfold QaW;rw[hsp];rfl
  have hR5:Res w w5 _ 0 0:=HR4.out.on hc (by intro b hb;simp at hb;have:=HP3.out;omega);rw[hX];exact YI 2 o hR5 _ rfl rfl rfl
 |ok s r=>
  rintro e w5 ⟨S,hS,rfl,hok,hc⟩;have HB:Hid (QlJ S.src):=by unfold Hid;rw[hS];exact JmB hsp hT htx
  have HR5:=Zh (HR4.out.on hc (by intro b hb;simp at hb;have:=HP3.out;omega));have HSB:Hid (w.heap.size+3<=w4.heap.size):=by have:=HS4.out;have:=HP3.out;unfold Hid;omega
  have HXS:Hid (X=Qcs S.src):=by rw[hS];exact HX.out.symm.trans (by rw[JeF hsp];rfl)
  have HOK:=Zh hok;clear hC hc hsp hS hok HR4 HS4 HP3 hne hT htx hT0 hfin HT HF;generalize w4.heap.size=sb at *;go_wp2_with fail;refine(JfJ w5 sb S HOK.out (by rw[<- JbD];exact le_trans HB.out.nf (by decide)) (by rw[<- Jgx];exact le_trans HB.out.nc (by decide)) (Jis HB.out)).mono ?_
  cases hlm:Qbd S.src with
  |some o=>
   rintro e w6 ⟨rfl,hb6⟩;have hX:X=(Qag,7,o):=HXS.out.trans (Jgr hlm);rw[hX];exact YI 7 o (HR5.out.up hb6) _ rfl rfl rfl
  |none=>
  rintro e w6 ⟨rfl,hb6⟩;have HR6:=Zh (HR5.out.up hb6);have HOK6:=Zh (HOK.out.on (Chg.of_below hb6 []) (by simp));have HLM:=Zh hlm;clear HR5 HOK hb6 hlm;go_wp2_with fail;refine(JcI w6 sb S HOK6.out (by rw[<- JbD];exact le_trans HB.out.nf (by decide)) (by rw[<- Jgx];exact le_trans HB.out.nc (by decide)) (fun g hg=>?c1) (fun c hg=>?c2)).mono ?_
  case c1=>
   have q:=HB.out.f _ (Jkz hg);exact⟨q.1.1,le_trans q.2.1 (by decide),q.1.2,by have h1:g.params.length=g.types.length:=q.2.2.2;have h2:g.types.length<=8194:=q.2.2.1;show g.params.length<=_;omega⟩
  case c2=>
   have q:=HB.out.c _ (JkA hg);exact⟨q.1,le_trans q.2 (by decide)⟩
  intro e w7 h7;unfold RsP at h7
  cases hrs:QaG (Qac S.src).2 with
  |some o=>
   rw[hrs]at h7;obtain⟨rfl,hb7⟩:=h7;have hX:X=(Qag,16,o):=HXS.out.trans (Jgs HLM.out hrs);rw[hX];exact YI 16 o (HR6.out.low hb7 HSB.out) _ rfl rfl rfl
  |none=>
  rw[hrs]at h7;obtain⟨rfl,hb7,S',hS',hok7⟩:=h7;have HR7:=Zh (HR6.out.low hb7 HSB.out);replace HXS:Hid (X=match QaG (QaY (Qac S.src).1) with|some o=>(Qag,15,o)|none=>(QaN (Qac S.src).1,0,0)):=HXS.out.trans (Jir HLM.out hrs);have hro:=JeB (m:=8194) (fun g hg=>HB.out.f g hg) (fun c hc=>HB.out.c c hc) hrs;rw[<- hS']at hro;rw[<- hS']at HXS;have HRO:=Zh hro
  have HB7:Hid (S'.funcs.length<=8194/\S'.clauses.length<=8194):=by
   have h1:=hro.2.2;have h2:=HB.out.nf;have h3:=HB.out.nc;rw[JbD,Jgx]at h1;exact⟨by omega,by omega⟩
  have HOK7:=Zh hok7;clear HR6 HOK6 hb7 hrs hS' hok7 hro HB HLM;go_wp2_with fail;refine(JfX w7 sb S' HOK7.out (le_trans HB7.out.1 (by decide)) (le_trans HB7.out.2 (by decide)) (fun g hg=>?c3) (fun c hg=>?c4)).mono ?_
  case c3=>
   have q:=HRO.out.1 _ (Jkz hg);rw[JbD]at q;exact⟨q.1,le_trans q.2.1 (by decide),le_trans q.2.2.1 (by decide),q.2.2.2⟩
  case c4=>
   have q:=HRO.out.2.1 _ (JkA hg);rw[JbD]at q;exact⟨q.1,le_trans q.2.1 (by decide),q.2.2⟩
  cases hck:QaG (QaY S'.src) with
  |some o=>
   rintro e w8 ⟨rfl,hb8⟩;have hX:X=(Qag,15,o):=by rw[HXS.out,hck]
   rw[hX];exact YI 15 o (HR7.out.up hb8) _ rfl rfl rfl
  |none=>
  rintro e w8 ⟨rfl,hb8⟩;have HR8:=Zh (HR7.out.up hb8);have HOK8:=Zh (HOK7.out.on (Chg.of_below hb8 []) (by simp));have hX:X=(QaN S'.src,0,0):=by rw[HXS.out,hck]
  clear HR7 HOK7 hb8 hck HXS HX;subst hX;go_wp2_with fail;refine(Jgg w8 sb S' HOK8.out (le_trans HB7.out.1 (by decide)) (le_trans HB7.out.2 (by decide)) (fun g hg=>le_trans (HRO.out.1 _ (Jkz hg)).2.1 (by decide)) (fun c hg=>le_trans (HRO.out.2.1 _ (JkA hg)).2.1 (by decide))).mono ?_;rintro e w9 ⟨c,rfl,hx,hb9⟩;have HX9:=Zh hx;have HR9:=Zh (HR8.out.up hb9);obtain⟨fv,cv,rfl,⟨fa,fc,fx,rfl,_⟩,⟨ca,cc,cx,rfl,_⟩⟩:=hx;generalize (QaN S'.src).funcs.length=fl at *;generalize (QaN S'.src).clauses.length=cl at *;obtain⟨r0,r1,r2,e0,a0,q0,q1,q2,q3,q4⟩:=HR9.out.cells;have HR10:=Zh (((HR9.out.setR (.slice fa fl fc) (.slice ca cl cc) (.int .i64 (QaN S'.src).action)).setE 0).setA 0)
  have HXX:Hid (QaZ (((((w9.setCell ⟨w.heap.size,0,none⟩ (.slice fa fl fc)).setCell ⟨w.heap.size,1,none⟩ (.slice ca cl cc)).setCell ⟨w.heap.size,2,none⟩ (.int .i64 (QaN S'.src).action)).setCell ⟨w.heap.size+1,0,none⟩ (.int .i64 0)).setCell ⟨w.heap.size+2,0,none⟩ (.int .i64 0)) (fun b=>w.heap.size<=b/\b<(((((w9.setCell ⟨w.heap.size,0,none⟩ (.slice fa fl fc)).setCell ⟨w.heap.size,1,none⟩ (.slice ca cl cc)).setCell ⟨w.heap.size,2,none⟩ (.int .i64 (QaN S'.src).action)).setCell ⟨w.heap.size+1,0,none⟩ (.int .i64 0)).setCell ⟨w.heap.size+2,0,none⟩ (.int .i64 0)).heap.size) (QaN S'.src) #[.slice fa fl fc,.slice ca cl cc,.int .i64 (QaN S'.src).action]):=by
   have hst:Chg [w.heap.size,w.heap.size+1,w.heap.size+2] w9 (((((w9.setCell ⟨w.heap.size,0,none⟩ (.slice fa fl fc)).setCell ⟨w.heap.size,1,none⟩ (.slice ca cl cc)).setCell ⟨w.heap.size,2,none⟩ (.int .i64 (QaN S'.src).action)).setCell ⟨w.heap.size+1,0,none⟩ (.int .i64 0)).setCell ⟨w.heap.size+2,0,none⟩ (.int .i64 0)):=(((((Chg.refl _ _).setCell (.inl (by simp)) _).setCell (.inl (by simp)) _).setCell (.inl (by simp)) _).setCell (.inl (by simp)) _).setCell (.inl (by simp)) _;have h1:=HSB.out;exact HX9.out.keep (fun b hb=>hst.block b hb.2 (by have:=hb.1;simp;omega)) (fun b hb=>⟨by have:=hb.1;omega,Nat.lt_of_lt_of_le hb.2 hst.size⟩)
  clear HR8 HOK8 hb9 HR9 HX9 HRO HB7;go_wp2_with fail;exact Jky HR10.out rfl HXX.out _ rfl rfl rfl
theorem Qbm(l:List UInt8)(w:World)(hl:l.length<=281474976710655)(hL:Laid w):Calls prog 16 #[.string (bs l)] w (PsP w (Qbr l)):=by
 unfold Qbr
 by_cases h:(QaA l).2.1=0
 ·rw[if_pos h];exact JeG l w hl hL _ (QaA l).2.2 (by rw[<- h])
 ·rw[if_neg h];exact JeD l w hl hL h
theorem Jgy{s:List UInt8}(h:(QaD s).isSome=true):s.length<=1000000:=by
 unfold QaD at h;split at h
 ·rename_i hm;simp only[List.mem_cons,List.not_mem_nil,or_false]at hm
  rcases hm with rfl|rfl|rfl|rfl|rfl|rfl|rfl|rfl<;>decide
 ·split at h
  ·rename_i hm;simp only[List.mem_cons,List.not_mem_nil,or_false]at hm
   rcases hm with rfl|rfl<;>decide
  ·cases h
theorem JcO{nf vars:Nat}{k n:Int}{s:List UInt8}(h:Qal nf vars k n s=true):s.length<=1000000:=by
 unfold Qal at h;simp only[Bool.and_eq_true,decide_eq_true_eq]at h;have hs:=h.1.1.2;split at hs
 ·exact Jgy hs
 split at hs
 ·unfold QcN at hs;simp only[Bool.and_eq_true,decide_eq_true_eq]at hs;omega
 ·simp at hs;subst hs;simp
mutual
theorem V1{pa:List Nat}:∀ (e:Exp) (vars QaC:Nat),Qbi pa vars QaC e=true->QdW pa.length vars (utN e)/\WfN (utN e)
 |.mk k n s l,vars,QaC,h=>by
  obtain⟨_,hf,ha,hl⟩:=JeC h;have hnm:=JcO hf;have hlen:=Yj l
  by_cases h19:k=19
  ·subst h19;obtain⟨a,b,rfl⟩:=Jin (show l.length=2 from ha);obtain⟨fa,fb⟩:=Jgb hl;obtain⟨a1,a2⟩:=V1 a _ _ fa;obtain⟨b1,b2⟩:=V1 b _ _ fb;rw[utN,utL,utL,utL];simp at b1;refine⟨?_,wf2 (by decide) hnm a2 b2⟩;unfold QdW;exact⟨fun h=>absurd h (by decide),fun h=>absurd h (by decide),a1,b1⟩
  ·obtain⟨q1,q2⟩:=JdQ l vars (QaC-1) k 0 h19 hl;rw[utN];unfold Qal at hf;simp only[Bool.and_eq_true,decide_eq_true_eq]at hf;have hn:=hf.1.1.1;refine⟨JaG (fun h=>?_) (fun h=>?_) h19 q1,Vi.2 ⟨fun h=>absurd h h19,fun h=>?_,fun h=>?_,hnm,q2⟩⟩
   ·subst h;simp at hn;exact hn
   ·subst h;simp at hn;exact hn
   ·subst h;rw[hlen];exact ha
   ·subst h;rw[hlen];exact ha
theorem JdQ{pa:List Nat}:∀ (l:List Exp) (vars QaC:Nat) (k:Int) (i:Nat),k≠19->Qbl pa vars QaC k i l=true->QdV pa.length vars (utL l)/\WfL (utL l)
 |[],vars,QaC,k,i,hk,h=>by
  rw[utL];unfold QdV;exact⟨trivial,Vj⟩
 |a::l,vars,QaC,k,i,hk,h=>by
  rw[Qbl]at h;simp only[Bool.and_eq_true]at h;rw[if_neg (fun h=>hk h.1)]at h;obtain⟨a1,a2⟩:=V1 a _ _ h.1;obtain⟨b1,b2⟩:=JdQ l _ _ _ _ hk h.2;rw[utL];unfold QdV;exact⟨⟨a1,b1⟩,J2.2 ⟨a2,b2⟩⟩
end
end Go.Proofs.YtdlkcjkjnehnkaaGreatDoor
