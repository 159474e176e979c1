/- For every source, the law RuleReads answers true; there are no conditions. -/
import Derived.Test.YtdlkcjkjnehnkaaGreatDoorE45
import Derived.Test.YtdlkcjkjnehnkaaGreatDoorCards
import Derived.Test.YtdlkcjkjnehnkaaGreatDoorTie
namespace Go.Proofs.YtdlkcjkjnehnkaaGreatDoor
open Go Go.Lib
open Go.ChangeShapes Go.WideShapes Go.ChangeAt Go.RowKit
open Go.ChangeShapes Go.WideShapes Go.ChangeAt Go.RowKit
open Go.ChangeShapes Go.WideShapes Go.ChangeAt Go.RowKit Go.Lib
open Go.RowKit
open Go
open Go.ChangeMaps (open_string shut_string)
open _root_.Go.Proofs.Tryz
set_option linter.all false
set_option maxRecDepth 100000
set_option maxHeartbeats 32000000
set_option maxRecDepth 100000 in
theorem rreads_lifted (os:Os) (started:os.Started) (H:Type) (enc:TypeId × Value→H) :
  ReturnsInHanded {} Tryz.checked os 6 .any (fun w args=>(Rows.ruleReadsSpec.pre enc Tryz.prog Tryz.f6 Rows.ruleReadsRow.domain false w args∧laidMet Tryz.prog listed w)∧sizedMet enc Tryz.prog Tryz.f6 (OpenSpec.ofChange Rows.ruleReadsSpec) false w args)
   (Rows.ruleReadsSpec.post enc Tryz.prog Tryz.f6 false true false false):=by
 refine returnsInHanded_of_change_and (C:=Tryz.checked) (X:=fun w _=>laidMet Tryz.prog listed w) (fun _ _ _ hh h=>h.of_heap hh) own started (by kernel_rfl) Tryz.func6
  (ChangeSpec.witness_at (enc:=enc) (C:=Tryz.checked) (os:=os) (X:=fun w _=>laidMet Tryz.prog listed w) false (laidWorld os) #[.string ⟨#[]⟩] 8 rfl (by kernel_rfl) (by kernel_rfl) (by kernel_rfl) (by kernel_rfl) (by kernel_rfl) (Jag os _)) ?_
 intro W base args ds gs before hval0 hW _ hsz0 hL _
 have hsz:(DataW.weightsEach Tryz.prog (Tryz.f6.params.toList++Rows.ruleReadsSpec.plain.varTypes Tryz.prog) (ds++gs)).all (·≤reachBytes)=true:=hsz0
 clear hsz0
 have hval:∀ (j:Nat) t v,Tryz.f6.params[j]?=some t→args[j]?=some v→Value.okWide Tryz.prog W .any base t v:=hval0
 have hW':=hW
 obtain ⟨p,q,hA0,hV,rfl,_,_⟩:=hW
 have hA:DataW.TrodAll enc Tryz.prog W 0 (fun _=>true) true Tryz.f6.params.toList args.toList ds p:=hA0
 rw[Tryz.params6] at hA hval hsz
 obtain ⟨v0,vs0,d0,ds0,p0,q0,hargs,rfl,rfl,h0,r0⟩:=trodAll_cons hA
 obtain ⟨rfl,rfl,rfl⟩:=trodAll_nil r0
 obtain rfl:args=#[v0]:=by cases args; simp_all
 obtain ⟨rfl,rfl⟩:=trodVars_none hV
 obtain ⟨s0,rfl,rfl,rfl,hs0⟩:=open_string Tryz.underlying9 (hval 0 9 v0 rfl rfl) h0
 have hlim0:s0.size≤140737488355328:=by
  have h1:=sized_string hsz (j:=0) (t:=9) rfl rfl
  have h2:=reachBytes_lt
  have e1:s0.size=s0.data.size:=rfl
  have e2:s0.data.toList.length=s0.data.size:=Array.length_toList
  have e3:(2:Nat) ^ 47=140737488355328:=by decide
  omega
 obtain ⟨a0,rfl⟩:=JbU s0
 refine (reads_card a0 W (by rw[JF] at hlim0; omega) (Jjs hL)).mono fun e W' hp=>?_
 obtain ⟨rfl,hB⟩:=hp
 exact ⟨_,rfl,Jhq laidOut (by kernel_rfl) rfl Tryz.underlying4 rfl hW' rfl hB⟩
theorem rreads_row:Rows.RuleReadsSaid:=
 OpenClaim.holds_of_wide 6 Tryz.f6 rfl rfl rfl rfl rfl rfl rfl ⟨rfl,rfl,rfl,rfl,rfl⟩ rfl rfl rfl rfl rfl (by kernel_rfl) Tryz.func6 (by kernel_rfl)
  (of_decide_eq_true (by kernel_rfl)) (by unfold Func.isWrapper; first | (rw[if_pos (by decide +kernel)]; kernel_rfl) | (rw[if_neg (by decide +kernel)]; exact ⟨rfl,rfl⟩))
  (fun os started H enc _=>rreads_lifted os started H enc)
theorem rreads_holds:Rows.RuleReadsCardSaid:=
 Claim7.holds_tied_plain_at .later [] [.data,.data,.data,.sentinel,.sentinel] true (true,"0e561d084001cd13431b698fc29d6af0d792d1a592a366644759c5e6d44678d7") true
  rreads_row (fun _ h=>by cases h) (by kernel_rfl) (fun _ h=>by cases h) ruleReads_row_tie rfl ⟨rfl,rfl⟩ (by kernel_rfl) rfl
  (fun f fn hf hfn=>by
   obtain rfl:f=6:=Option.some.inj ((show Tryz.prog.funcNamed "agora/agoralaw31.RuleReads"=some 6 by kernel_rfl).symm.trans hf) |>.symm
   obtain rfl:fn=Tryz.f6:=(Option.some.inj (Tryz.func6.symm.trans hfn)).symm
   exact ⟨by kernel_rfl,fun j t ht=>by
    rw[Tryz.params6] at ht
    have h3:t=9:=by
     match j with
     | 0=>simp at ht; subst ht; decide
     | (j+1)=>simp at ht
    rcases h3 with h3 <;> subst h3
    ·exact (show Tryz.prog.wantsStandIn 9=false by kernel_rfl)⟩)
  (by kernel_rfl)
#print axioms rreads_holds
end Go.Proofs.YtdlkcjkjnehnkaaGreatDoor
