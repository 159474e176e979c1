/- What is proved: for all rules and boolean expressions a and b (at most 300 nodes) that form right rules as conditions, and all facts, MeanLogic answers true; without conditions. -/
import Derived.Test.YtncanmdgdflnpaaGreatDoorCards
import Derived.Test.YtncanmdgdflnpaaGreatDoorTie
import Derived.SevenTiedAt
import Derived.ChangeVars
import Derived.JoinedOf
import Derived.JoinedAt
import Derived.RowKit
import Derived.RowKit3
import Derived.RowKitTokens
import Derived.SizedLaws
import Derived.Test.YtncanmdgdflnpaaGreatDoorV38
namespace Go.Proofs.YtncanmdgdflnpaaGreatDoor
open Go.ChangeShapes Go.WideShapes Go.ChangeAt Go.RowKit
open Go.ChangeMaps (open_string shut_string)
open _root_.Go.Proofs.Tryz
set_option linter.all false
set_option maxRecDepth 100000
set_option maxHeartbeats 32000000
theorem ZX (os:Os) (started:os.Started) (H:Type) (enc:TypeId × Value→H) :
  ReturnsInHanded {} Tryz.checked os 6 .any (fun w args=>(Rows.meanLogicSpec.pre enc prog Tryz.f6 Rows.meanLogicRow.domain false w args∧laidMet prog listed w)∧sizedMet enc prog Tryz.f6 (OpenSpec.ofChange Rows.meanLogicSpec) false w args)
   (Rows.meanLogicSpec.post enc prog Tryz.f6 false true false false):=by
 refine returnsInHanded_of_change_and (C:=Tryz.checked) (X:=fun w _=>laidMet prog listed w) (fun _ _ _ hh h=>h.of_heap hh) own started (by kernel_rfl) func6
  (ChangeSpec.witness_at (enc:=enc) (C:=Tryz.checked) (os:=os) (X:=fun w _=>laidMet prog listed w) false (laidWorld os) #[.agg #[.slice none 0 0,.slice none 0 0,.int .i64 0],.agg (factsC ⟨[],0,0,0,0,0,0,0,0,false,false,[]⟩ (.slice none 0 0) (.slice none 0 0)),.agg #[.int .i64 0,.int .i64 0,.string ⟨#[]⟩,.slice none 0 0],.agg #[.int .i64 0,.int .i64 0,.string ⟨#[]⟩,.slice none 0 0]] 8 rfl (by kernel_rfl) (by kernel_rfl) (by kernel_rfl) (by kernel_rfl) (by kernel_rfl) (Ze os _)) ?_
 intro W base args ds gs before hval0 hW _ hsz0 hL _;have hsz:(DataW.weightsEach prog (Tryz.f6.params.toList++Rows.meanLogicSpec.plain.varTypes prog) (ds++gs)).all (·≤reachBytes)=true:=hsz0;clear hsz0;have hval:∀ (j:Nat) t v,Tryz.f6.params[j]?=some t→args[j]?=some v→Value.okWide prog W .any base t v:=hval0;have hW':=hW;obtain ⟨p,q,hA0,hV,rfl,_,_⟩:=hW;have hA:DataW.TrodAll enc prog W 0 (fun _=>true) true Tryz.f6.params.toList args.toList ds p:=hA0;rw[params6] at hA hval hsz;obtain ⟨v0,vs0,d0,ds0,p0,q0,hargs,rfl,rfl,h0,r0⟩:=trodAll_cons hA;obtain ⟨v1,vs1,d1,ds1,p1,q1,rfl,rfl,rfl,h1,r1⟩:=trodAll_cons r0;obtain ⟨v2,vs2,d2,ds2,p2,q2,rfl,rfl,rfl,h2,r2⟩:=trodAll_cons r1;obtain ⟨v3,vs3,d3,ds3,p3,q3,rfl,rfl,rfl,h3,r3⟩:=trodAll_cons r2;obtain ⟨rfl,rfl,rfl⟩:=trodAll_nil r3;obtain rfl:args=#[v0,v1,v2,v3]:=by cases args; simp_all
 obtain ⟨rfl,rfl⟩:=trodVars_none hV;obtain ⟨R0,c0,rfl,hx0,hn0⟩:=Jfs (hval 0 30 v0 rfl rfl) h0;obtain ⟨F1,la1,wa1,lc1,wc1,rfl,hlab1,hwd1⟩:=Jdn (hval 1 25 v1 rfl rfl) h1;obtain ⟨R2,c2,rfl,hx2,hn2⟩:=JaW (hval 2 50 v2 rfl rfl) h2;obtain ⟨R3,c3,rfl,hx3,hn3⟩:=JaW (hval 3 50 v3 rfl rfl) h3;refine (Jdz R0 c0 F1 la1 wa1 lc1 wc1 R2 c2 R3 c3 W hx0 hn0 hlab1 hwd1 hx2 hn2 hx3 hn3 (Jhd hL)).mono fun e W' hp=>?_
 obtain ⟨rfl,hB⟩:=hp;exact ⟨_,rfl,Jfw laidOut (by kernel_rfl) rfl underlying4 rfl hW' rfl hB⟩
theorem JdA:Rows.MeanLogicSaid:=
 OpenClaim.holds_of_wide 6 Tryz.f6 rfl rfl rfl rfl rfl rfl rfl ⟨rfl,rfl,rfl,rfl,rfl⟩ rfl rfl rfl rfl rfl (by kernel_rfl) func6 (by kernel_rfl)
  (of_decide_eq_true (by kernel_rfl)) (by unfold Func.isWrapper; first | (rw[if_pos (by decide +kernel)]; kernel_rfl) | (rw[if_neg (by decide +kernel)]; exact ⟨rfl,rfl⟩))
  (fun os started H enc _=>ZX os started H enc)
theorem mlogic_holds:Rows.MeanLogicCardSaid:=
 Claim7.holds_tied_plain_at .later [] [.data,.data,.data,.sentinel,.sentinel] true (true,"8508d1e88098ee844df6fc1fdda0b9b90048e061b3d5640b8ec64b0f9ee913ba") true
  JdA (fun _ h=>by cases h) (by kernel_rfl) (fun _ h=>by cases h) meanLogic_row_tie rfl ⟨rfl,rfl⟩ (by kernel_rfl) rfl
  (fun f fn hf hfn=>by
   obtain rfl:f=6:=Option.some.inj ((show prog.funcNamed "agora/agoralaw32.MeanLogic"=some 6 by kernel_rfl).symm.trans hf) |>.symm;obtain rfl:fn=Tryz.f6:=(Option.some.inj (func6.symm.trans hfn)).symm
   exact ⟨by kernel_rfl,fun j t ht=>by
    rw[params6] at ht
    have h3:t=25∨t=30∨t=50:=by
     match j with
     | 0=>simp at ht; subst ht; decide
     | 1=>simp at ht; subst ht; decide
     | 2=>simp at ht; subst ht; decide
     | 3=>simp at ht; subst ht; decide
     | (j+4)=>simp at ht
    rcases h3 with h3 | h3 | h3 <;> subst h3
    ·exact (show prog.wantsStandIn 25=false by kernel_rfl)
    ·exact (show prog.wantsStandIn 30=false by kernel_rfl)
    ·exact (show prog.wantsStandIn 50=false by kernel_rfl)⟩)
  (by kernel_rfl)
#print axioms mlogic_holds
end Go.Proofs.YtncanmdgdflnpaaGreatDoor
