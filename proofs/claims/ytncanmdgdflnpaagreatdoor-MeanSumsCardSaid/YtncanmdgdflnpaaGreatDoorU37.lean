/- MeanSums answers true for all integers; there are no conditions. -/
import Derived.Test.YtncanmdgdflnpaaGreatDoorCards
import Derived.Test.YtncanmdgdflnpaaGreatDoorTie
import Derived.SevenTiedAt
import Derived.ChangeVars
import Derived.JoinedOf
import Derived.JoinedAt
import Derived.RowKit
import Derived.RowKit3
import Derived.RowKitTokens
import Derived.SizedLaws
import Derived.Test.YtncanmdgdflnpaaGreatDoorU36
namespace Go.Proofs.YtncanmdgdflnpaaGreatDoor
open Go.ChangeShapes Go.WideShapes Go.ChangeAt Go.RowKit
open Go.ChangeMaps (open_string shut_string)
open _root_.Go.Proofs.Tryz
set_option linter.all false
set_option maxRecDepth 100000
set_option maxHeartbeats 32000000
theorem Jav (os:Os) (started:os.Started) (H:Type) (enc:TypeId × Value→H) :
  ReturnsInHanded {} Tryz.checked os 7 .any (fun w args=>(Rows.meanSumsSpec.pre enc prog Tryz.f7 Rows.meanSumsRow.domain false w args∧laidMet prog listed w)∧sizedMet enc prog Tryz.f7 (OpenSpec.ofChange Rows.meanSumsSpec) false w args)
   (Rows.meanSumsSpec.post enc prog Tryz.f7 false true false false):=by
 refine returnsInHanded_of_change_and (C:=Tryz.checked) (X:=fun w _=>laidMet prog listed w) (fun _ _ _ hh h=>h.of_heap hh) own started (by kernel_rfl) func7
  (ChangeSpec.witness_at (enc:=enc) (C:=Tryz.checked) (os:=os) (X:=fun w _=>laidMet prog listed w) false (laidWorld os) #[.int .i64 0,.int .i64 0,.int .i64 0] 8 rfl (by kernel_rfl) (by kernel_rfl) (by kernel_rfl) (by kernel_rfl) (by kernel_rfl) (YT os _)) ?_
 intro W base args ds gs before hval0 hW _ hsz0 hL _;have hsz:(DataW.weightsEach prog (Tryz.f7.params.toList++Rows.meanSumsSpec.plain.varTypes prog) (ds++gs)).all (·≤reachBytes)=true:=hsz0;clear hsz0;have hval:∀ (j:Nat) t v,Tryz.f7.params[j]?=some t→args[j]?=some v→Value.okWide prog W .any base t v:=hval0;have hW':=hW;obtain ⟨p,q,hA0,hV,rfl,_,_⟩:=hW;have hA:DataW.TrodAll enc prog W 0 (fun _=>true) true Tryz.f7.params.toList args.toList ds p:=hA0;rw[params7] at hA hval hsz;obtain ⟨v0,vs0,d0,ds0,p0,q0,hargs,rfl,rfl,h0,r0⟩:=trodAll_cons hA;obtain ⟨v1,vs1,d1,ds1,p1,q1,rfl,rfl,rfl,h1,r1⟩:=trodAll_cons r0;obtain ⟨v2,vs2,d2,ds2,p2,q2,rfl,rfl,rfl,h2,r2⟩:=trodAll_cons r1;obtain ⟨rfl,rfl,rfl⟩:=trodAll_nil r2;obtain rfl:args=#[v0,v1,v2]:=by cases args; simp_all
 obtain ⟨rfl,rfl⟩:=trodVars_none hV;obtain ⟨a0,rfl,rfl,rfl,wf0⟩:=open_int underlying3 (hval 0 3 v0 rfl rfl) h0;obtain ⟨a1,rfl,rfl,rfl,wf1⟩:=open_int underlying3 (hval 1 3 v1 rfl rfl) h1;obtain ⟨a2,rfl,rfl,rfl,wf2⟩:=open_int underlying3 (hval 2 3 v2 rfl rfl) h2;refine (JeM a0 a1 a2 W (Jgx wf0) (Jgx wf1) (Jgx wf2) (Jgw hL)).mono fun e W' hp=>?_
 obtain ⟨rfl,hB⟩:=hp;exact ⟨_,rfl,JeP laidOut (by kernel_rfl) rfl underlying4 rfl hW' rfl hB⟩
theorem JeN:Rows.MeanSumsSaid:=
 OpenClaim.holds_of_wide 7 Tryz.f7 rfl rfl rfl rfl rfl rfl rfl ⟨rfl,rfl,rfl,rfl,rfl⟩ rfl rfl rfl rfl rfl (by kernel_rfl) func7 (by kernel_rfl)
  (of_decide_eq_true (by kernel_rfl)) (by unfold Func.isWrapper; first | (rw[if_pos (by decide +kernel)]; kernel_rfl) | (rw[if_neg (by decide +kernel)]; exact ⟨rfl,rfl⟩))
  (fun os started H enc _=>Jav os started H enc)
theorem msums_holds:Rows.MeanSumsCardSaid:=
 Claim7.holds_tied_plain_at .later [] [.data,.data,.data,.sentinel,.sentinel] true (true,"8508d1e88098ee844df6fc1fdda0b9b90048e061b3d5640b8ec64b0f9ee913ba") true
  JeN (fun _ h=>by cases h) (by kernel_rfl) (fun _ h=>by cases h) meanSums_row_tie rfl ⟨rfl,rfl⟩ (by kernel_rfl) rfl
  (fun f fn hf hfn=>by
   obtain rfl:f=7:=Option.some.inj ((show prog.funcNamed "agora/agoralaw32.MeanSums"=some 7 by kernel_rfl).symm.trans hf) |>.symm;obtain rfl:fn=Tryz.f7:=(Option.some.inj (func7.symm.trans hfn)).symm
   exact ⟨by kernel_rfl,fun j t ht=>by
    rw[params7] at ht
    have h3:t=3:=by
     match j with
     | 0=>simp at ht; subst ht; decide
     | 1=>simp at ht; subst ht; decide
     | 2=>simp at ht; subst ht; decide
     | (j+3)=>simp at ht
    rcases h3 with h3 <;> subst h3
    ·exact (show prog.wantsStandIn 3=false by kernel_rfl)⟩)
  (by kernel_rfl)
#print axioms msums_holds
end Go.Proofs.YtncanmdgdflnpaaGreatDoor
