/- What is proved: MeanDepends answers true for all sources and all two facts; there are no conditions. -/
import Derived.Test.YtncanmdgdflnpaaGreatDoorCards
import Derived.Test.YtncanmdgdflnpaaGreatDoorTie
import Derived.SevenTiedAt
import Derived.ChangeVars
import Derived.JoinedOf
import Derived.JoinedAt
import Derived.RowKit
import Derived.RowKit3
import Derived.RowKitTokens
import Derived.SizedLaws
import Derived.Test.YtncanmdgdflnpaaGreatDoorW40
namespace Go.Proofs.YtncanmdgdflnpaaGreatDoor
open Go.ChangeShapes Go.WideShapes Go.ChangeAt Go.RowKit
open Go.ChangeMaps (open_string shut_string)
open _root_.Go.Proofs.Tryz
set_option linter.all false
set_option maxRecDepth 100000
set_option maxHeartbeats 32000000
theorem Zc (os:Os) (started:os.Started) (H:Type) (enc:TypeId × Value→H) :
  ReturnsInHanded {} Tryz.checked os 5 .any (fun w args=>(Rows.meanDependsSpec.pre enc prog Tryz.f5 Rows.meanDependsRow.domain false w args∧laidMet prog listed w)∧sizedMet enc prog Tryz.f5 (OpenSpec.ofChange Rows.meanDependsSpec) false w args)
   (Rows.meanDependsSpec.post enc prog Tryz.f5 false true false false):=by
 refine returnsInHanded_of_change_and (C:=Tryz.checked) (X:=fun w _=>laidMet prog listed w) (fun _ _ _ hh h=>h.of_heap hh) own started (by kernel_rfl) func5
  (ChangeSpec.witness_at (enc:=enc) (C:=Tryz.checked) (os:=os) (X:=fun w _=>laidMet prog listed w) false (laidWorld os) #[.string ⟨#[]⟩,.agg (factsC ⟨[],0,0,0,0,0,0,0,0,false,false,[]⟩ (.slice none 0 0) (.slice none 0 0)),.agg (factsC ⟨[],0,0,0,0,0,0,0,0,false,false,[]⟩ (.slice none 0 0) (.slice none 0 0))] 8 rfl (by kernel_rfl) (by kernel_rfl) (by kernel_rfl) (by kernel_rfl) (by kernel_rfl) (ZO os _)) ?_
 intro W base args ds gs before hval0 hW _ hsz0 hL _;have hsz:(DataW.weightsEach prog (Tryz.f5.params.toList++Rows.meanDependsSpec.plain.varTypes prog) (ds++gs)).all (·≤reachBytes)=true:=hsz0;clear hsz0;have hval:∀ (j:Nat) t v,Tryz.f5.params[j]?=some t→args[j]?=some v→Value.okWide prog W .any base t v:=hval0;have hW':=hW;obtain ⟨p,q,hA0,hV,rfl,_,_⟩:=hW;have hA:DataW.TrodAll enc prog W 0 (fun _=>true) true Tryz.f5.params.toList args.toList ds p:=hA0;rw[params5] at hA hval hsz;obtain ⟨v0,vs0,d0,ds0,p0,q0,hargs,rfl,rfl,h0,r0⟩:=trodAll_cons hA;obtain ⟨v1,vs1,d1,ds1,p1,q1,rfl,rfl,rfl,h1,r1⟩:=trodAll_cons r0;obtain ⟨v2,vs2,d2,ds2,p2,q2,rfl,rfl,rfl,h2,r2⟩:=trodAll_cons r1;obtain ⟨rfl,rfl,rfl⟩:=trodAll_nil r2;obtain rfl:args=#[v0,v1,v2]:=by cases args; simp_all
 obtain ⟨rfl,rfl⟩:=trodVars_none hV;obtain ⟨s0,rfl,rfl,rfl,hs0⟩:=open_string underlying9 (hval 0 9 v0 rfl rfl) h0
 have hlim0:s0.size≤140737488355328:=by
  have h1:=sized_string hsz (j:=0) (t:=9) rfl rfl;have h2:=reachBytes_lt;have e1:s0.size=s0.data.size:=rfl;have e2:s0.data.toList.length=s0.data.size:=Array.length_toList;have e3:(2:Nat) ^ 47=140737488355328:=by decide
  omega
 obtain ⟨a0,rfl⟩:=Jeq s0;obtain ⟨F1,la1,wa1,lc1,wc1,rfl,hlab1,hwd1⟩:=ZG (hval 1 25 v1 rfl rfl) h1;obtain ⟨F2,la2,wa2,lc2,wc2,rfl,hlab2,hwd2⟩:=ZG (hval 2 25 v2 rfl rfl) h2;refine (JbE a0 F1 la1 wa1 lc1 wc1 F2 la2 wa2 lc2 wc2 W (by rw[JP] at hlim0; omega) hlab1 hwd1 hlab2 hwd2 (Jim hL)).mono fun e W' hp=>?_
 obtain ⟨rfl,hB⟩:=hp;exact ⟨_,rfl,JgA laidOut (by kernel_rfl) rfl underlying4 rfl hW' rfl hB⟩
theorem JbF:Rows.MeanDependsSaid:=
 OpenClaim.holds_of_wide 5 Tryz.f5 rfl rfl rfl rfl rfl rfl rfl ⟨rfl,rfl,rfl,rfl,rfl⟩ rfl rfl rfl rfl rfl (by kernel_rfl) func5 (by kernel_rfl)
  (of_decide_eq_true (by kernel_rfl)) (by unfold Func.isWrapper; first | (rw[if_pos (by decide +kernel)]; kernel_rfl) | (rw[if_neg (by decide +kernel)]; exact ⟨rfl,rfl⟩))
  (fun os started H enc _=>Zc os started H enc)
theorem mdepends_holds:Rows.MeanDependsCardSaid:=
 Claim7.holds_tied_plain_at .later [] [.data,.data,.data,.sentinel,.sentinel] true (true,"8508d1e88098ee844df6fc1fdda0b9b90048e061b3d5640b8ec64b0f9ee913ba") true
  JbF (fun _ h=>by cases h) (by kernel_rfl) (fun _ h=>by cases h) meanDepends_row_tie rfl ⟨rfl,rfl⟩ (by kernel_rfl) rfl
  (fun f fn hf hfn=>by
   obtain rfl:f=5:=Option.some.inj ((show prog.funcNamed "agora/agoralaw32.MeanDepends"=some 5 by kernel_rfl).symm.trans hf) |>.symm;obtain rfl:fn=Tryz.f5:=(Option.some.inj (func5.symm.trans hfn)).symm
   exact ⟨by kernel_rfl,fun j t ht=>by
    rw[params5] at ht
    have h3:t=9∨t=25:=by
     match j with
     | 0=>simp at ht; subst ht; decide
     | 1=>simp at ht; subst ht; decide
     | 2=>simp at ht; subst ht; decide
     | (j+3)=>simp at ht
    rcases h3 with h3 | h3 <;> subst h3
    ·exact (show prog.wantsStandIn 9=false by kernel_rfl)
    ·exact (show prog.wantsStandIn 25=false by kernel_rfl)⟩)
  (by kernel_rfl)
#print axioms mdepends_holds
end Go.Proofs.YtncanmdgdflnpaaGreatDoor
