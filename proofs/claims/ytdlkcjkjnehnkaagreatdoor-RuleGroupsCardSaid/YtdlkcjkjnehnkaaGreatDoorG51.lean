/- For every two rules, the law RuleGroups answers true; there are no conditions. -/
import Derived.SevenTiedAt
import Derived.ChangeVars
import Derived.ChangeMaps5
import Derived.JoinedOf
import Derived.JoinedAt
import Derived.RowKit
import Derived.RowKit3
import Derived.RowKitTokens
import Derived.SizedLaws
import Derived.Test.YtdlkcjkjnehnkaaGreatDoorG42
import Derived.Test.YtdlkcjkjnehnkaaGreatDoorG50
import Derived.Test.YtdlkcjkjnehnkaaGreatDoorCards
import Derived.Test.YtdlkcjkjnehnkaaGreatDoorTie
namespace Go.Proofs.YtdlkcjkjnehnkaaGreatDoor
open Go Go.Lib
open Go.ChangeShapes Go.WideShapes Go.ChangeAt Go.RowKit
open Go.ChangeShapes Go.WideShapes Go.ChangeAt Go.RowKit
open Go.ChangeShapes Go.WideShapes Go.ChangeAt Go.RowKit Go.Lib
open Go.RowKit
open Go Go.ChangeShapes Go.WideShapes Go.ChangeAt Go.RowKit Go.Lib
open Go
open Go.ChangeShapes Go.WideShapes Go.RowKit Go.Deep
open Go.Joins
open Go.ChangeMaps (open_string shut_string)
open _root_.Go.Proofs.Tryz
set_option linter.all false
set_option maxRecDepth 100000
set_option maxHeartbeats 32000000
set_option maxRecDepth 100000 in
theorem rgroups_lifted (os:Os) (started:os.Started) (H:Type) (enc:TypeId × Value→H) :
  ReturnsInHanded {} Tryz.checked os 3 .any (fun w args=>(Rows.ruleGroupsSpec.pre enc Tryz.prog Tryz.f3 Rows.ruleGroupsRow.domain false w args∧laidMet Tryz.prog listed w)∧sizedMet enc Tryz.prog Tryz.f3 (OpenSpec.ofChange Rows.ruleGroupsSpec) false w args)
   (Rows.ruleGroupsSpec.post enc Tryz.prog Tryz.f3 false true false false):=by
 refine returnsInHanded_of_change_and (C:=Tryz.checked) (X:=fun w _=>laidMet Tryz.prog listed w) (fun _ _ _ hh h=>h.of_heap hh) own started (by kernel_rfl) Tryz.func3
  (ChangeSpec.witness_at (enc:=enc) (C:=Tryz.checked) (os:=os) (X:=fun w _=>laidMet Tryz.prog listed w) false (laidWorld os) #[.agg #[.slice none 0 0,.slice none 0 0,.int .i64 0],.agg #[.slice none 0 0,.slice none 0 0,.int .i64 0]] 8 rfl (by kernel_rfl) (by kernel_rfl) (by kernel_rfl) (by kernel_rfl) (by kernel_rfl) (Jag os _)) ?_
 intro W base args ds gs before hval0 hW _ hsz0 hL _;have hsz:(DataW.weightsEach Tryz.prog (Tryz.f3.params.toList++Rows.ruleGroupsSpec.plain.varTypes Tryz.prog) (ds++gs)).all (·≤reachBytes)=true:=hsz0;clear hsz0;have hval:∀ (j:Nat) t v,Tryz.f3.params[j]?=some t→args[j]?=some v→Value.okWide Tryz.prog W .any base t v:=hval0;have hW':=hW;obtain ⟨p,q,hA0,hV,rfl,_,_⟩:=hW;have hA:DataW.TrodAll enc Tryz.prog W 0 (fun _=>true) true Tryz.f3.params.toList args.toList ds p:=hA0;rw[Tryz.params3] at hA hval hsz;obtain ⟨v0,vs0,d0,ds0,p0,q0,hargs,rfl,rfl,h0,r0⟩:=trodAll_cons hA;obtain ⟨v1,vs1,d1,ds1,p1,q1,rfl,rfl,rfl,h1,r1⟩:=trodAll_cons r0;obtain ⟨rfl,rfl,rfl⟩:=trodAll_nil r1;obtain rfl:args=#[v0,v1]:=by cases args; simp_all
 obtain ⟨rfl,rfl⟩:=trodVars_none hV;obtain ⟨R0,c0,rfl,hx0,hn0⟩:=JbR (hval 0 25 v0 rfl rfl) h0;obtain ⟨R1,c1,rfl,hx1,hn1⟩:=JbR (hval 1 25 v1 rfl rfl) h1;refine (groups_card R0 R1 c0 c1 W hx0 hx1 hn0 hn1 (Jjs hL)).mono fun e W' hp=>?_
 obtain ⟨rfl,hB⟩:=hp;exact ⟨_,rfl,Jhq laidOut (by kernel_rfl) rfl Tryz.underlying4 rfl hW' rfl hB⟩
theorem rgroups_row:Rows.RuleGroupsSaid:=
 OpenClaim.holds_of_wide 3 Tryz.f3 rfl rfl rfl rfl rfl rfl rfl ⟨rfl,rfl,rfl,rfl,rfl⟩ rfl rfl rfl rfl rfl (by kernel_rfl) Tryz.func3 (by kernel_rfl)
  (of_decide_eq_true (by kernel_rfl)) (by unfold Func.isWrapper; first | (rw[if_pos (by decide +kernel)]; kernel_rfl) | (rw[if_neg (by decide +kernel)]; exact ⟨rfl,rfl⟩))
  (fun os started H enc _=>rgroups_lifted os started H enc)
theorem rgroups_holds:Rows.RuleGroupsCardSaid:=
 Claim7.holds_tied_plain_at .later [] [.data,.data,.data,.sentinel,.sentinel] true (true,"0e561d084001cd13431b698fc29d6af0d792d1a592a366644759c5e6d44678d7") true
  rgroups_row (fun _ h=>by cases h) (by kernel_rfl) (fun _ h=>by cases h) ruleGroups_row_tie rfl ⟨rfl,rfl⟩ (by kernel_rfl) rfl
  (fun f fn hf hfn=>by
   obtain rfl:f=3:=Option.some.inj ((show Tryz.prog.funcNamed "agora/agoralaw31.RuleGroups"=some 3 by kernel_rfl).symm.trans hf) |>.symm;obtain rfl:fn=Tryz.f3:=(Option.some.inj (Tryz.func3.symm.trans hfn)).symm
   exact ⟨by kernel_rfl,fun j t ht=>by
    rw[Tryz.params3] at ht
    have h3:t=25:=by
     match j with
     | 0=>simp at ht; subst ht; decide
     | 1=>simp at ht; subst ht; decide
     | (j+2)=>simp at ht
    rcases h3 with h3 <;> subst h3
    ·exact (show Tryz.prog.wantsStandIn 25=false by kernel_rfl)⟩)
  (by kernel_rfl)
#print axioms rgroups_holds
end Go.Proofs.YtdlkcjkjnehnkaaGreatDoor
