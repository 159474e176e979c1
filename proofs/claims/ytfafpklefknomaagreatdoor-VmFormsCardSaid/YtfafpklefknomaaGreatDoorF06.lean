/- The law VmForms of package agoralaw33 answers true for every input, in any memory that its arguments are laid into; there are no conditions. -/
import Derived.Test.YtfafpklefknomaaGreatDoorCards
import Derived.Test.YtfafpklefknomaaGreatDoorTie
import Derived.SevenTiedAt
import Derived.ChangeVars
import Derived.ChangeMaps5
import Derived.JoinedOf
import Derived.JoinedAt
import Derived.RowKit
import Derived.RowKit3
import Derived.RowKitTokens
import Derived.SizedLaws
import Derived.Test.YtfafpklefknomaaGreatDoorF05
namespace Go.Proofs.YtfafpklefknomaaGreatDoor
open Go.ChangeShapes Go.WideShapes Go.ChangeAt Go.RowKit
open Go.ChangeMaps (open_string shut_string)
open _root_.Go.Proofs.Tryz
set_option linter.all false
set_option maxRecDepth 100000
set_option maxHeartbeats 40000000
def vmforms_lifted(os:Os)(started:os.Started)(H:Type)(enc:TypeId×Value->H):
  ReturnsInHanded {} Tryz.checked os 3 .any (λw args=>(Rows.vmFormsSpec.pre enc Tryz.prog Tryz.f3 Rows.vmFormsRow.domain false w args/\laidMet Tryz.prog Qbn w)/\sizedMet enc Tryz.prog Tryz.f3 (OpenSpec.ofChange Rows.vmFormsSpec) false w args)
   (Rows.vmFormsSpec.post enc Tryz.prog Tryz.f3 false true false false):=by
 refine returnsInHanded_of_change_and (C:=Tryz.checked) (X:=λw _=>laidMet Tryz.prog Qbn w) (λ_ _ _ hh h=>h.of_heap hh) own started zk Tryz.func3
  (ChangeSpec.witness_at (enc:=enc) (C:=Tryz.checked) (os:=os) (X:=λw _=>laidMet Tryz.prog Qbn w) false (QdD os) #[.agg #[.slice none 0 0,.slice none 0 0,.int .i64 0]] 8 rfl zk zk zk zk zk (Yh os _)) ?_
 intro W base args ds gs before hval0 hW _ hsz0 hL _;have hsz:(DataW.weightsEach Tryz.prog (Tryz.f3.params.toList++Rows.vmFormsSpec.plain.varTypes Tryz.prog) (ds++gs)).all (·<=reachBytes)=true:=hsz0;clear hsz0;have hval:∀(j:Nat) t v,Tryz.f3.params[j]?=some t->args[j]?=some v->Value.okWide Tryz.prog W .any base t v:=hval0;have hW':=hW;obtain⟨p,q,hA0,hV,rfl,_,_⟩:=hW;have hA:DataW.TrodAll enc Tryz.prog W 0 (λ_=>true) true Tryz.f3.params.toList args.toList ds p:=hA0;rw[Tryz.params3]at hA hval hsz;obtain⟨v0,vs0,d0,ds0,p0,q0,hargs,rfl,rfl,h0,r0⟩:=trodAll_cons hA;obtain⟨rfl,rfl,rfl⟩:=trodAll_nil r0;obtain rfl:args=#[v0]:=by cases args;simp_all
 obtain⟨rfl,rfl⟩:=trodVars_none hV;obtain⟨R0,c0,rfl,hx0,hn0⟩:=Jax (hval 0 25 v0 rfl rfl) h0;have lw0:Qbs Tryz.prog 25 d0:=λn hn=>by simpa using List.all_eq_true.1 hsz n (DataW.weights_mem_each (j:=0) (t:=25) (d:=d0) rfl rfl n hn)
 have hp0:=Yf h0 hx0 lw0;refine(forms_card R0 c0 W hx0 hn0 hp0 (JgI hL)).mono λe W' hp=>?_
 obtain⟨rfl,hB⟩:=hp;exact⟨_,rfl,Jjn Qgz zk rfl Tryz.underlying4 rfl hW' rfl hB⟩
def vmforms_row:Rows.VmFormsSaid:=
 OpenClaim.holds_of_wide 3 Tryz.f3 rfl rfl rfl rfl rfl rfl rfl ⟨rfl,rfl,rfl,rfl,rfl⟩ rfl rfl rfl rfl rfl zk Tryz.func3 zk
  (of_decide_eq_true zk) (by unfold Func.isWrapper;first|(rw[if_pos (by decide +kernel)];kernel_rfl)|(rw[if_neg (by decide +kernel)];exact⟨rfl,rfl⟩))
  (λos started H enc _=>vmforms_lifted os started H enc)
theorem vmforms_holds:Rows.VmFormsCardSaid:=
 Claim7.holds_tied_plain_at .later [] [.data,.data,.data,.sentinel,.sentinel] true (true,"c573b91482fd6b8a772737d294aaa2fd4cd42aa7bdd6a57ff6af265af274f823") true
  vmforms_row (λ_ h=>by cases h) zk (λ_ h=>by cases h) vmForms_row_tie rfl ⟨rfl,rfl⟩ zk rfl
  (λf fn hf hfn=>by
   obtain rfl:f=3:=Option.some.inj ((show Tryz.prog.funcNamed "agora/agoralaw33.VmForms"=some 3 by kernel_rfl).symm.trans hf) |>.symm;obtain rfl:fn=Tryz.f3:=(Option.some.inj (Tryz.func3.symm.trans hfn)).symm
   exact⟨by kernel_rfl,λj t ht=>by
    rw[Tryz.params3]at ht
    have h3:t=25:=by
     match j with
     |0=>simp at ht;subst ht;decide
     |(j+1)=>simp at ht
    rcases h3 with h3<;>subst h3
    ·exact(show Tryz.prog.wantsStandIn 25=false by kernel_rfl)⟩)
  zk
end Go.Proofs.YtfafpklefknomaaGreatDoor


