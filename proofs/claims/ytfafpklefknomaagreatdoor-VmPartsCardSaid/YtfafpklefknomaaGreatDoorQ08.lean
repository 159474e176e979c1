/- The law VmParts of package agoralaw33 answers true for every input, in any memory that its arguments are laid into; there are no conditions. -/
import Derived.Test.YtfafpklefknomaaGreatDoorCards
import Derived.Test.YtfafpklefknomaaGreatDoorTie
import Derived.SevenTiedAt
import Derived.ChangeVars
import Derived.ChangeMaps5
import Derived.JoinedOf
import Derived.JoinedAt
import Derived.RowKit
import Derived.RowKit3
import Derived.RowKitTokens
import Derived.SizedLaws
import Derived.Test.YtfafpklefknomaaGreatDoorQ07
namespace Go.Proofs.YtfafpklefknomaaGreatDoor
open Go.ChangeShapes Go.WideShapes Go.ChangeAt Go.RowKit
open Go.ChangeMaps (open_string shut_string)
open _root_.Go.Proofs.Tryz
set_option linter.all false
set_option maxRecDepth 100000
set_option maxHeartbeats 40000000
def vmparts_lifted(os:Os)(started:os.Started)(H:Type)(enc:TypeId×Value->H):
  ReturnsInHanded {} Tryz.checked os 5 .any (λw args=>(Rows.vmPartsSpec.pre enc Tryz.prog Tryz.f5 Rows.vmPartsRow.domain false w args/\laidMet Tryz.prog Qbn w)/\sizedMet enc Tryz.prog Tryz.f5 (OpenSpec.ofChange Rows.vmPartsSpec) false w args)
   (Rows.vmPartsSpec.post enc Tryz.prog Tryz.f5 false true false false):=by
 refine returnsInHanded_of_change_and (C:=Tryz.checked) (X:=λw _=>laidMet Tryz.prog Qbn w) (λ_ _ _ hh h=>h.of_heap hh) own started zk Tryz.func5
  (ChangeSpec.witness_at (enc:=enc) (C:=Tryz.checked) (os:=os) (X:=λw _=>laidMet Tryz.prog Qbn w) false (QdD os) #[.agg #[.slice none 0 0,.slice none 0 0,.int .i64 0],.int .i64 0,.agg (QaI ⟨[],0,0,0,0,0,0,0,0,false,false,[]⟩ (.slice none 0 0) (.slice none 0 0))] 8 rfl zk zk zk zk zk (Yh os _)) ?_
 intro W base args ds gs before hval0 hW _ hsz0 hL _;have hsz:(DataW.weightsEach Tryz.prog (Tryz.f5.params.toList++Rows.vmPartsSpec.plain.varTypes Tryz.prog) (ds++gs)).all (·<=reachBytes)=true:=hsz0;clear hsz0;have hval:∀(j:Nat) t v,Tryz.f5.params[j]?=some t->args[j]?=some v->Value.okWide Tryz.prog W .any base t v:=hval0;have hW':=hW;obtain⟨p,q,hA0,hV,rfl,_,_⟩:=hW;have hA:DataW.TrodAll enc Tryz.prog W 0 (λ_=>true) true Tryz.f5.params.toList args.toList ds p:=hA0;rw[Tryz.params5]at hA hval hsz;obtain⟨v0,vs0,d0,ds0,p0,q0,hargs,rfl,rfl,h0,r0⟩:=trodAll_cons hA;obtain⟨v1,vs1,d1,ds1,p1,q1,rfl,rfl,rfl,h1,r1⟩:=trodAll_cons r0;obtain⟨v2,vs2,d2,ds2,p2,q2,rfl,rfl,rfl,h2,r2⟩:=trodAll_cons r1;obtain⟨rfl,rfl,rfl⟩:=trodAll_nil r2;obtain rfl:args=#[v0,v1,v2]:=by cases args;simp_all
 obtain⟨rfl,rfl⟩:=trodVars_none hV;obtain⟨R0,c0,rfl,hx0,hn0⟩:=Jax (hval 0 25 v0 rfl rfl) h0;have lw0:Qbs Tryz.prog 25 d0:=λn hn=>by simpa using List.all_eq_true.1 hsz n (DataW.weights_mem_each (j:=0) (t:=25) (d:=d0) rfl rfl n hn)
 have hp0:=Yf h0 hx0 lw0;obtain⟨a1,rfl,rfl,rfl,wf1⟩:=open_int Tryz.underlying3 (hval 1 3 v1 rfl rfl) h1;obtain⟨F2,la2,wa2,lc2,wc2,rfl,hlab2,hwd2⟩:=Jbh (hval 2 45 v2 rfl rfl) h2;have lw2:Qbs Tryz.prog 45 d2:=λn hn=>by simpa using List.all_eq_true.1 hsz n (DataW.weights_mem_each (j:=2) (t:=45) (d:=d2) rfl rfl n hn)
 have hz2:=Jdu h2 lw2;refine(parts_card R0 c0 a1 F2 la2 wa2 lc2 wc2 W hx0 hn0 hp0 hz2 hlab2 hwd2 (JgI hL)).mono λe W' hp=>?_
 obtain⟨rfl,hB⟩:=hp;exact⟨_,rfl,Jjn Qgz zk rfl Tryz.underlying4 rfl hW' rfl hB⟩
def vmparts_row:Rows.VmPartsSaid:=
 OpenClaim.holds_of_wide 5 Tryz.f5 rfl rfl rfl rfl rfl rfl rfl ⟨rfl,rfl,rfl,rfl,rfl⟩ rfl rfl rfl rfl rfl zk Tryz.func5 zk
  (of_decide_eq_true zk) (by unfold Func.isWrapper;first|(rw[if_pos (by decide +kernel)];kernel_rfl)|(rw[if_neg (by decide +kernel)];exact⟨rfl,rfl⟩))
  (λos started H enc _=>vmparts_lifted os started H enc)
theorem vmparts_holds:Rows.VmPartsCardSaid:=
 Claim7.holds_tied_plain_at .later [] [.data,.data,.data,.sentinel,.sentinel] true (true,"c573b91482fd6b8a772737d294aaa2fd4cd42aa7bdd6a57ff6af265af274f823") true
  vmparts_row (λ_ h=>by cases h) zk (λ_ h=>by cases h) vmParts_row_tie rfl ⟨rfl,rfl⟩ zk rfl
  (λf fn hf hfn=>by
   obtain rfl:f=5:=Option.some.inj ((show Tryz.prog.funcNamed "agora/agoralaw33.VmParts"=some 5 by kernel_rfl).symm.trans hf) |>.symm;obtain rfl:fn=Tryz.f5:=(Option.some.inj (Tryz.func5.symm.trans hfn)).symm
   exact⟨by kernel_rfl,λj t ht=>by
    rw[Tryz.params5]at ht
    have h3:t=3\/t=25\/t=45:=by
     match j with
     |0=>simp at ht;subst ht;decide
     |1=>simp at ht;subst ht;decide
     |2=>simp at ht;subst ht;decide
     |(j+3)=>simp at ht
    rcases h3 with h3|h3|h3<;>subst h3
    ·exact(show Tryz.prog.wantsStandIn 3=false by kernel_rfl)
    ·exact(show Tryz.prog.wantsStandIn 25=false by kernel_rfl)
    ·exact(show Tryz.prog.wantsStandIn 45=false by kernel_rfl)⟩)
  zk
end Go.Proofs.YtfafpklefknomaaGreatDoor



