import Derived.IntWalk
import Derived.Deep.RegionHeld
import Derived.Lib.Hide
import Derived.Shelf.Strings.Builder1
import Derived.Shelf.Small.Strs
import Derived.Shelf.Strconv.Atoi
import Derived.Shelf.Strconv.Itoa0
import Derived.Shelf.Strconv.Itoa1
import Derived.Shelf.LaysM
import Derived.Shelf.Strconv.Itoa2
import Derived.Shelf.Strconv.Itoa3
import Derived.Shelf.Strconv.AtoiErrFast
import Derived.Shelf.Strconv.ParseIntEmpty
import Derived.Shelf.Strconv.AtoiFail
import Derived.Shelf.Strconv.Clone
import Derived.Shelf.Strconv.SyntaxError
import Derived.Shelf.LaysC
import Derived.Shelf.Strconv.ToError
import Derived.Shelf.Strconv.AtoiErr
import Derived.Shelf.Strconv.ErrVar
import Derived.Shelf.Strconv.Lower
import Derived.Shelf.Strconv.ParseUint10
import Derived.Shelf.Strconv.ParseUint10Empty
import Derived.Shelf.Strconv.ParseUint10Any
import Derived.Shelf.Strconv.ParseInt10
import Derived.Shelf.Strconv.AtoiLong
import Derived.Shelf.Strconv.AtoiInnerAll
import Derived.Shelf.Strconv.RangeError
import Derived.Shelf.Strconv.ToErrorRange
import Derived.Shelf.Strconv.AtoiAll
import Derived.Shelf.Strconv.ErrVarAll
import Derived.Shelf.Strconv.ParseUintEmpty
import Derived.Shelf.Strconv.ParseUint10b64
import Derived.Shelf.Strconv.ParseUint10b32
import Derived.Shelf.Strconv.ParseUint10b16
import Derived.Shelf.Strconv.ParseUint10b8
import Derived.Shelf.Strconv.ParseUint10At
import Derived.Shelf.Strconv.ParseInt10At64
import Derived.Shelf.Strconv.ParseInt10At32
import Derived.Shelf.Strconv.ParseInt10At16
import Derived.Shelf.Strconv.ParseInt10At8
import Derived.Shelf.Strconv.ParseInt10All
import Derived.Shelf.Strings.Search1
import Derived.Shelf.Strings.Prefix
import Derived.Shelf.Bits.Mul64
import Derived.Shelf.Slices.Turned
import Derived.Shelf.Slices.Equal
import Derived.Shelf.Slices.Empties2
import Derived.Test.YtfafpklefknomaaGreatDoorProg
import Derived.Lib.ItoaMem
import Derived.Lib.AtoiAllCases
import Derived.Test.YtfafpklefknomaaGreatDoorChecked
import Derived.WalkKit
import Derived.ProofKit
import Derived.OpenShut
import Derived.Outline
import Derived.OwnWalk
import Derived.Below
import Derived.Deep.QuietTactic
import Derived.BigQuiet
import Derived.Shelf.Unicode.PredsPay
import Derived.Shelf.SlSorted.Search
import Derived.WalkSmall
import Derived.Laws.Strings
import Derived.Test.YtfafpklefknomaaGreatDoorRows
import Derived.Lib.LaidTab
import Derived.Stop.LaidErr
import Derived.LaidLaws
import Derived.ChangeSame
import Derived.Carry
set_option linter.all false
namespace Go.Proofs.YtfafpklefknomaaGreatDoor
set_option linter.all false
def Hi(p:Prop):Prop:=p
def Hi.o{p:Prop}(h:Hi p):p:=h
def Zh{p:Prop}(h:p):Hi p:=h
def zU{S:World->Prop}{X K:Act->World->Prop}{a:Act}{w:World}(h:Go.Shut (∀a w,S w->(S w->X a w)->K a w)):S w->(S w->X a w)->K a w:=h.out a w
def zI(i:Nat)(h:-9223372036854775808<=(i:Int)+1/\(i:Int)+1<=9223372036854775807:=by omega):IntKind.i64.wrap ((i:Int)+1)=(i:Int)+1:=IntWalk.i64_in _ h
theorem zu{P Q:Prop}(q:Q)(h:Q->P:=by intro _;omega):P:=h q
theorem zv{P Q R:Prop}(q:Q)(r:R)(h:Q->R->P:=by intro _ _;omega):P:=h q r
theorem zo{P:Prop}(h:P:=by omega):P:=h
theorem zk{P:Prop}(h:P:=by kernel_rfl):P:=h
theorem zp{P:Prop}(h:P:=by decide):P:=h
theorem zq{P:Prop}(h:P:=by simp):P:=h
theorem zr{P:Prop}(h:P:=by(simp;omega)):P:=h
theorem zG{p:Prop}[Decidable p](h:p):decide p=true:=decide_eq_true h
theorem zH{p:Prop}[Decidable p](h:¬p):decide p=false:=decide_eq_false h
theorem zJ{α:Type}(a:α):∃b,b=a:=⟨a,rfl⟩
theorem zt{P:Prop}(h:P:=by rfl):P:=h
open Go in
def zM{α:Type}[BEq α][LawfulBEq α]{a b:α}(h:a≠b):(a==b)=false:=beq_eq_false_iff_ne.2 h
open Go in
def zN{α:Type}[BEq α][LawfulBEq α]{a b:α}(h:a=b):(a==b)=true:=beq_iff_eq.2 h
open Go in
def zO{B:Nat}{w:World}:Go.RowKit.Below B w w:=Go.RowKit.Below.refl B w
open Go in
def zP{n:Nat}:n<=n:=Nat.le_refl n
open Go in
def zQ(w:World)(o:Obj):(w.alloc o).heap[w.heap.size]?=some o:=Go.heap_alloc_new w o
def ZA{α:Type}(l:List α)(i:Nat)(a:α):l.toArray.setIfInBounds i a=(l.set i a).toArray:=List.setIfInBounds_toArray l i a
def ZB{α:Type}(b:α)(x:α)(l:List α):(x::l).set 0 b=b::l:=rfl
def ZC{α:Type}(b:α)(x:α)(l:List α)(n:Nat):(x::l).set (n+1) b=x::l.set n b:=rfl
def ZD{α:Type}(l:List α)(i:Nat):l.toArray[i]?=l[i]?:=List.getElem?_toArray
def ZE{α:Type}(x:α)(l:List α)(n:Nat):(x::l)[n+1]?=l[n]?:=rfl
def ZF{α:Type}(x:α)(l:List α):(x::l)[0]?=some x:=rfl
def zX:(∀(a:Act)(d:Tmp)(v:Value),a.put (some d) v={a with tmps:=a.tmps.setIfInBounds d v})/\(∀(a:Act)(v:Value),a.put none v=a)/\(∀(α:Type)(l:List α)(i:Nat)(a:α),l.toArray.setIfInBounds i a=(l.set i a).toArray)/\(∀(α:Type)(b:α)(x:α)(l:List α),(x::l).set 0 b=b::l)/\∀(α:Type)(b:α)(x:α)(l:List α)(n:Nat),(x::l).set (n+1) b=x::l.set n b:=⟨λ_ _ _=>rfl,λ_ _=>rfl,@ZA,@ZB,@ZC⟩
def zW:(∀(α:Type)(l:List α)(i:Nat),l.toArray[i]?=l[i]?)/\(∀(α:Type)(x:α)(l:List α)(n:Nat),(x::l)[n+1]?=l[n]?)/\∀(α:Type)(x:α)(l:List α),(x::l)[0]?=some x:=⟨@ZD,@ZE,@ZF⟩
section
open Go
variable {P:Program} {md:Region.Mode} {ops:Array Oper} {Q:Exit->Act->World->Prop} {S:World->Prop}
def ZT{i:Nat}{d:Option Tmp}{o:Op}{t:TypeId}{p:String}{af:Array Edge}{g:Option (Nat × Bool)}{v:Value}{fuel:Nat}{Qbn:Array Bool}{a:Act}{w:World}(hi:ops[i]?=some ⟨d,o,t,p,af,g⟩)(hy:YieldsIf P ops S ⟨d,o,t,p,af,g⟩ v a)
  (h:wpAnyH P md ops Q S fuel (Qbn.setIfInBounds i true) (a.put d v) w) (hS:S w:=by assumption)
  (hs:Region.noSelect ops=true:=by kernel_rfl) (hf:Region.free md ops Qbn i=true:=by kernel_rfl) (hr:(Region.ready md ops Qbn).contains i=true:=by kernel_rfl)
  (hQ:∀c a w,Q (.panic c) (a.put d v) w->Q (.panic c) a w:=by exact λ_ _ _ h=>h):wpAnyH P md ops Q S (fuel+1) Qbn a w:=wpAnyH_take hi hs hf hr hQ hy hS h
def ZR{rs:List Nat}{fuel:Nat}{Qbn:Array Bool}{a:Act}{w:World}(h:AllReadyH P md ops Q S fuel Qbn a w rs)(hr:Region.ready md ops Qbn=rs:=by kernel_rfl)(hne:rs≠[]:=by simp):wpAnyH P md ops Q S (fuel+1) Qbn a w:=wpAnyH_ready hr hne h
def ZS(i:Nat){d:Option Tmp}{o:Op}{t:TypeId}{p:String}{af:Array Edge}{g:Option (Nat × Bool)}{fuel:Nat}{Qbn:Array Bool}{a:Act}{w:World}(ho:ops[i]?=some ⟨d,o,t,p,af,g⟩)
  (h:∀K':Act->World->Prop,Shut (∀a w,S w->(S w->wpAnyH P md ops Q S fuel (Qbn.setIfInBounds i true) a w)->K' a w)->if Region.wanted ⟨d,o,t,p,af,g⟩ (yielded ops a.tmps)=true then Oper.wp P ⟨d,o,t,p,af,g⟩ a w K' Q else K' (a.put d undef) w)
  (hr:Region.ready md ops Qbn=[i]:=by kernel_rfl):wpAnyH P md ops Q S (fuel+1) Qbn a w:=wpAnyH_ready hr zq (AllReadyH.cons ho h AllReadyH.nil)
def zK(i:Nat){d:Option Tmp}{o:Op}{t:TypeId}{p:String}{af:Array Edge}{g:Option (Nat × Bool)}{v:Value}{fuel:Nat}{l:Array Bool}{a:Act}{w:World}(h:wpAnyH P md ops Q S fuel (l.setIfInBounds i true) (a.put d v) w)(hi:ops[i]?=some ⟨d,o,t,p,af,g⟩:=by exact rfl)
  (hw:Region.wanted ⟨d,o,t,p,af,g⟩ (yielded ops a.tmps)=true:=by rfl)(hv:∀w,S w->(execOp a.eval ⟨d,o,t,p,af,g⟩).run P w=.ok (.value v) w:=by intro wX hSw;(try dsimp only at hSw);go_simp<;>with_reducible rfl)(hS:S w:=by assumption)
  (hs:Region.noSelect ops=true:=by kernel_rfl)(hf:Region.free md ops l i=true:=by kernel_rfl)(hr:(Region.ready md ops l).contains i=true:=by kernel_rfl)
  (hQ:∀c a w,Q (.panic c) (a.put d v) w->Q (.panic c) a w:=by exact λ_ _ _ h=>h):wpAnyH P md ops Q S (fuel+1) l a w:=wpAnyH_take hi hs hf hr hQ (.inl ⟨hw,hv⟩) hS h
def zL(i:Nat){d:Option Tmp}{o:Op}{t:TypeId}{p:String}{af:Array Edge}{g:Option (Nat × Bool)}{fuel:Nat}{l:Array Bool}{a:Act}{w:World}(h:wpAnyH P md ops Q S fuel (l.setIfInBounds i true) (a.put d undef) w)(hi:ops[i]?=some ⟨d,o,t,p,af,g⟩:=by exact rfl)
  (hw:Region.wanted ⟨d,o,t,p,af,g⟩ (yielded ops a.tmps)=false:=by rfl)(hS:S w:=by assumption)
  (hs:Region.noSelect ops=true:=by kernel_rfl)(hf:Region.free md ops l i=true:=by kernel_rfl)(hr:(Region.ready md ops l).contains i=true:=by kernel_rfl)
  (hQ:∀c a w,Q (.panic c) (a.put d undef) w->Q (.panic c) a w:=by exact λ_ _ _ h=>h):wpAnyH P md ops Q S (fuel+1) l a w:=wpAnyH_take hi hs hf hr hQ (.inr ⟨hw,rfl⟩) hS h
def Zt{α:Type}{a:Option α}{b c:α}(h:a=some b)(e:b=c:=by kernel_rfl):a=some c:=by rw[h,e]
end
end Go.Proofs.YtfafpklefknomaaGreatDoor
namespace Go.Proofs
open Go.Proofs.Tryz YtfafpklefknomaaGreatDoor
open Go.Shelf
def Tryz.lays137_ren:Go.Shelf.Ren:=⟨fun|137=>157|217=>167|266=>179|n=>n,fun|9=>9|5=>5|3=>3|n=>n,fun|n=>n⟩
def Tryz.lays137:Go.Proofs.Lays.n137 prog Tryz.lays137_ren:=⟨by kernel_rfl,Zt func157,Zt func167,Zt func179,underlying3,isAgg3,sizeOf3,zeroValue3,underlying5,isAgg5,sizeOf5,zeroValue5,underlying9,isAgg9,sizeOf9,zeroValue9⟩
open Go.RowKit in
def Tryz.strings_IndexByte(s:ByteArray)(c:Int)(w:World) :
  Calls prog 157 #[.string s,.int .u8 c] w λe w'=>e=.returned (.int .i64 (Lib.indexByte s.data.toList c.toNat.toUInt8))/\w'=w:=Any.strings_IndexByte Tryz.lays137 s c w
def Tryz.laysM171_ren:Go.Shelf.Ren:=⟨fun|171=>109|243=>141|246=>162|283=>170|284=>171|285=>172|286=>173|129=>181|317=>180|318=>182|319=>183|320=>184|337=>188|338=>189|n=>n,fun|3=>3|9=>9|2=>2|4=>4|171=>222|0=>0|53=>208|37=>60|5=>5|173=>225|212=>233|51=>234|20=>20|213=>235|46=>220|232=>247|233=>248|n=>n,fun|17=>0|18=>4|19=>5|n=>n⟩
def Tryz.laysM171:Go.Proofs.LaysM.n171 prog Tryz.laysM171_ren:={
 mixed:=by kernel_rfl
 f129:=Zt func181
 f171:=Zt func109
 f243:=Zt func141
 f246:=Zt func162
 f283:=Zt func170
 f284:=Zt func171
 f285:=Zt func172
 f286:=Zt func173
 f317:=Zt func180
 f318:=Zt func182
 f319:=Zt func183
 f320:=Zt func184
 f337:=Zt func188
 f338:=Zt func189
 t0:=underlying0
 a0:=isAgg0
 z0:=sizeOf0
 v0:=zeroValue0
 t2:=underlying2
 a2:=isAgg2
 z2:=sizeOf2
 v2:=zeroValue2
 t3:=underlying3
 a3:=isAgg3
 z3:=sizeOf3
 v3:=zeroValue3
 t4:=underlying4
 a4:=isAgg4
 z4:=sizeOf4
 v4:=zeroValue4
 t5:=underlying5
 a5:=isAgg5
 z5:=sizeOf5
 v5:=zeroValue5
 t9:=underlying9
 a9:=isAgg9
 z9:=sizeOf9
 v9:=zeroValue9
 t20:=underlying20
 a20:=isAgg20
 z20:=sizeOf20
 v20:=zeroValue20
 t37:=underlying60
 a37:=isAgg60
 z37:=sizeOf60
 v37:=zeroValue60
 t46:=underlying220
 a46:=isAgg220
 z46:=sizeOf220
 v46:=zeroValue220
 t51:=underlying234
 a51:=isAgg234
 z51:=sizeOf234
 v51:=zeroValue234
 t53:=underlying208
 a53:=isAgg208
 z53:=sizeOf208
 v53:=zeroValue208
 t171:=underlying222
 a171:=isAgg222
 z171:=sizeOf222
 v171:=zeroValue222
 t173:=underlying225
 a173:=isAgg225
 z173:=sizeOf225
 v173:=zeroValue225
 t212:=underlying233
 a212:=isAgg233
 z212:=sizeOf233
 v212:=zeroValue233
 t213:=underlying235
 a213:=isAgg235
 z213:=sizeOf235
 t232:=underlying247
 a232:=isAgg247
 z232:=sizeOf247
 v232:=zeroValue247
 t233:=underlying248
 a233:=isAgg248
 z233:=sizeOf248
 v233:=zeroValue248
 g17:=by kernel_rfl
 g18:=by kernel_rfl
 g19:=by kernel_rfl
 i0:=by kernel_rfl
 i2:=by kernel_rfl
 i3:=by kernel_rfl
 i4:=by kernel_rfl
 i5:=by kernel_rfl
 i9:=by kernel_rfl
 i20:=by kernel_rfl
 i37:=by kernel_rfl
 i46:=by kernel_rfl
 i51:=by kernel_rfl
 i53:=by kernel_rfl
 i171:=by kernel_rfl
 i173:=by kernel_rfl
 i212:=by kernel_rfl
 i232:=by kernel_rfl
 i233:=by kernel_rfl
 m17:=by kernel_rfl
 m18:=by kernel_rfl
 m19:=by kernel_rfl }
open Go.RowKit Go.Sort Go.Lib in
def Tryz.strconv_Itoa(n:Int)(h0:-9223372036854775808<=n)(h1:n<=9223372036854775807)(w:World)(htab:Lib.TabIs prog w "internal/strconv.uint64pow10" .u64 Lib.pow10Tab) :
  Calls prog 109 #[.int .i64 n] w λe w'=>e=.returned (.string ⟨(Lib.itoa n).toArray⟩)/\∃k os,w'=grow (w.drewN k) os:=Any.strconv_Itoa Tryz.laysM171 n h0 h1 w htab
def Tryz.laysC172_ren:Go.Shelf.Ren:=⟨fun|172=>155|244=>164|245=>165|247=>174|279=>175|280=>176|281=>177|282=>178|287=>185|316=>186|171=>109|205=>187|321=>190|322=>191|243=>141|246=>162|283=>170|284=>171|285=>172|286=>173|129=>181|317=>180|318=>182|319=>183|320=>184|337=>188|338=>189|n=>n,fun|9=>9|3=>3|75=>175|76=>176|4=>4|5=>5|167=>227|37=>60|0=>0|85=>228|2=>2|168=>230|53=>208|175=>237|46=>220|210=>240|127=>179|145=>246|143=>244|21=>21|171=>222|173=>225|212=>233|51=>234|20=>20|213=>235|232=>247|233=>248|80=>113|n=>n,fun|15=>1|16=>2|17=>0|18=>4|19=>5|n=>n⟩
def Tryz.laysC172:Go.Proofs.LaysC.n172 prog Tryz.laysC172_ren:={
 mixed:=by kernel_rfl
 f129:=Zt func181
 f171:=Zt func109
 f172:=Zt func155
 f205:=Zt func187
 f243:=Zt func141
 f244:=Zt func164
 f245:=Zt func165
 f246:=Zt func162
 f247:=Zt func174
 f279:=Zt func175
 f280:=Zt func176
 f281:=Zt func177
 f282:=Zt func178
 f283:=Zt func170
 f284:=Zt func171
 f285:=Zt func172
 f286:=Zt func173
 f287:=Zt func185
 f316:=Zt func186
 f317:=Zt func180
 f318:=Zt func182
 f319:=Zt func183
 f320:=Zt func184
 f321:=Zt func190
 f322:=Zt func191
 f337:=Zt func188
 f338:=Zt func189
 t0:=underlying0
 a0:=isAgg0
 z0:=sizeOf0
 v0:=zeroValue0
 t2:=underlying2
 a2:=isAgg2
 z2:=sizeOf2
 v2:=zeroValue2
 t3:=underlying3
 a3:=isAgg3
 z3:=sizeOf3
 v3:=zeroValue3
 t4:=underlying4
 a4:=isAgg4
 z4:=sizeOf4
 v4:=zeroValue4
 t5:=underlying5
 a5:=isAgg5
 z5:=sizeOf5
 v5:=zeroValue5
 t9:=underlying9
 a9:=isAgg9
 z9:=sizeOf9
 v9:=zeroValue9
 t20:=underlying20
 a20:=isAgg20
 z20:=sizeOf20
 v20:=zeroValue20
 t21:=underlying21
 a21:=isAgg21
 z21:=sizeOf21
 v21:=zeroValue21
 t37:=underlying60
 a37:=isAgg60
 z37:=sizeOf60
 v37:=zeroValue60
 t46:=underlying220
 a46:=isAgg220
 z46:=sizeOf220
 v46:=zeroValue220
 t51:=underlying234
 a51:=isAgg234
 z51:=sizeOf234
 v51:=zeroValue234
 t53:=underlying208
 a53:=isAgg208
 z53:=sizeOf208
 v53:=zeroValue208
 t75:=underlying175
 a75:=isAgg175
 z75:=sizeOf175
 v75:=zeroValue175
 t76:=underlying176
 a76:=isAgg176
 z76:=sizeOf176
 v76:=zeroValue176
 t85:=underlying228
 a85:=isAgg228
 z85:=sizeOf228
 v85:=zeroValue228
 t127:=underlying179
 a127:=isAgg179
 z127:=sizeOf179
 v127:=zeroValue179
 t143:=underlying244
 a143:=isAgg244
 z143:=sizeOf244
 v143:=zeroValue244
 t145:=underlying246
 a145:=isAgg246
 z145:=sizeOf246
 v145:=zeroValue246
 t167:=underlying227
 a167:=isAgg227
 z167:=sizeOf227
 v167:=zeroValue227
 t168:=underlying230
 a168:=isAgg230
 z168:=sizeOf230
 v168:=zeroValue230
 t171:=underlying222
 a171:=isAgg222
 z171:=sizeOf222
 v171:=zeroValue222
 t173:=underlying225
 a173:=isAgg225
 z173:=sizeOf225
 v173:=zeroValue225
 t175:=underlying237
 a175:=isAgg237
 z175:=sizeOf237
 v175:=zeroValue237
 t210:=underlying240
 a210:=isAgg240
 z210:=sizeOf240
 v210:=zeroValue240
 t212:=underlying233
 a212:=isAgg233
 z212:=sizeOf233
 v212:=zeroValue233
 t213:=underlying235
 a213:=isAgg235
 z213:=sizeOf235
 t232:=underlying247
 a232:=isAgg247
 z232:=sizeOf247
 v232:=zeroValue247
 t233:=underlying248
 a233:=isAgg248
 z233:=sizeOf248
 v233:=zeroValue248
 g15:=by kernel_rfl
 g16:=by kernel_rfl
 g17:=by kernel_rfl
 g18:=by kernel_rfl
 g19:=by kernel_rfl
 t80:=underlying113
 a80:=isAgg113
 z80:=sizeOf113
 v80:=zeroValue113
 i0:=by kernel_rfl
 i2:=by kernel_rfl
 i3:=by kernel_rfl
 i4:=by kernel_rfl
 i5:=by kernel_rfl
 i9:=by kernel_rfl
 i20:=by kernel_rfl
 i21:=by kernel_rfl
 i37:=by kernel_rfl
 i46:=by kernel_rfl
 i51:=by kernel_rfl
 i53:=by kernel_rfl
 i75:=by kernel_rfl
 i76:=by kernel_rfl
 i80:=by kernel_rfl
 i85:=by kernel_rfl
 i127:=by kernel_rfl
 i143:=by kernel_rfl
 i145:=by kernel_rfl
 i167:=by kernel_rfl
 i168:=by kernel_rfl
 i171:=by kernel_rfl
 i173:=by kernel_rfl
 i175:=by kernel_rfl
 i210:=by kernel_rfl
 i212:=by kernel_rfl
 i232:=by kernel_rfl
 i233:=by kernel_rfl
 m15:=by kernel_rfl
 m16:=by kernel_rfl
 m17:=by kernel_rfl
 m18:=by kernel_rfl
 m19:=by kernel_rfl
 c0:=by kernel_rfl
 c2:=by kernel_rfl
 c3:=by kernel_rfl
 c4:=by kernel_rfl
 c5:=by kernel_rfl
 c9:=by kernel_rfl
 c20:=by kernel_rfl
 c21:=by kernel_rfl
 c37:=by kernel_rfl
 c46:=by kernel_rfl
 c51:=by kernel_rfl
 c53:=by kernel_rfl
 c75:=by kernel_rfl
 c76:=by kernel_rfl
 c80:=by kernel_rfl
 c85:=by kernel_rfl
 c127:=by kernel_rfl
 c143:=by kernel_rfl
 c145:=by kernel_rfl
 c167:=by kernel_rfl
 c168:=by kernel_rfl
 c171:=by kernel_rfl
 c173:=by kernel_rfl
 c175:=by kernel_rfl
 c210:=by kernel_rfl
 c212:=by kernel_rfl
 c213:=by kernel_rfl
 c232:=by kernel_rfl
 c233:=by kernel_rfl }
open Go.RowKit in
def Tryz.strconv_Atoi_ok(s:ByteArray)(hmax:s.size<=9223372036854775806)(v:Int)(h:Lib.atoiAll s.data.toList=.ok v)(w:World) :
  Calls prog 155 #[.string s] w λe w'=>e=.returned (.tuple #[.int .i64 v,.nilIface])/\(w'=w\/∃t,w'=Lib.bytesWorld w 5 t):=Any.strconv_Atoi_ok Tryz.laysC172 s hmax v h w
open Go.RowKit in
def Tryz.strconv_Atoi_syntax_var(s:ByteArray)(hlim:s.size<=281474976710656)(h:Lib.atoiAll s.data.toList=Lib.atoiAll [])(tp:TypeId)(p:Value)(w:World)(hvar:w.var? prog "strconv.ErrSyntax"=some #[.iface tp p]) :
  Calls prog 155 #[.string s] w λe w'=>∃N,e=.returned (.tuple #[.int .i64 0,.iface 230 (.pointer (some ⟨N,0,none⟩))])/\w.heap.size<=N/\w'.heap[N]?=some (.cells #[.string ⟨#[65,116,111,105]⟩,.string s,.iface tp p] 240 (0,0))/\Below w.heap.size w w':=Any.strconv_Atoi_syntax_var Tryz.laysC172 s hlim h tp p w hvar
open Go.RowKit in
def Tryz.strconv_Atoi_range_var(s:ByteArray)(hlim:s.size<=281474976710656)(h:Lib.atoiAll s.data.toList=.range)(tp:TypeId)(p:Value)(w:World)(hvar:w.var? prog "strconv.ErrRange"=some #[.iface tp p]) :
  Calls prog 155 #[.string s] w λe w'=>∃N,e=.returned (.tuple #[.int .i64 (Lib.atoiSat s.data.toList),.iface 230 (.pointer (some ⟨N,0,none⟩))])/\w.heap.size<=N/\w'.heap[N]?=some (.cells #[.string ⟨#[65,116,111,105]⟩,.string s,.iface tp p] 240 (0,0))/\Below w.heap.size w w':=Any.strconv_Atoi_range_var Tryz.laysC172 s hlim h tp p w hvar
def Tryz.lays99_ren:Go.Shelf.Ren:=⟨fun|99=>156|206=>166|n=>n,fun|9=>9|4=>4|3=>3|n=>n,fun|n=>n⟩
def Tryz.lays99:Go.Proofs.Lays.n99 prog Tryz.lays99_ren:=⟨by kernel_rfl,Zt func156,Zt func166,underlying3,isAgg3,sizeOf3,zeroValue3,underlying4,isAgg4,sizeOf4,zeroValue4,underlying9,isAgg9,sizeOf9,zeroValue9⟩
open Go.RowKit Go.Lib in
def Tryz.strings_HasPrefix(s p:ByteArray)(w:World) :
  Calls prog 156 #[.string s,.string p] w λe w'=>e=.returned (.bool (Lib.hasPrefix s.data.toList p.data.toList))/\w'=w:=Any.strings_HasPrefix Tryz.lays99 s p w
def Tryz.lays264_ren:Go.Shelf.Ren:=⟨fun|264=>151|n=>n,fun|53=>208|46=>220|n=>n,fun|n=>n⟩
def Tryz.lays264:Go.Proofs.Lays.n264 prog Tryz.lays264_ren:=⟨by kernel_rfl,Zt func151,underlying220,isAgg220,sizeOf220,zeroValue220,underlying208,isAgg208,sizeOf208,zeroValue208⟩
open Go.RowKit Go.Lib in
def Tryz.bits_Mul64(x y:Nat)(hx:x<18446744073709551616)(hy:y<18446744073709551616)(w:World) :
  Calls prog 151 #[.int .u64 x,.int .u64 y] w λe w'=>e=.returned (.tuple #[.int .u64 ((x*y / 18446744073709551616:Nat):Int),.int .u64 ((x*y % 18446744073709551616:Nat):Int)])/\w'=w:=Any.bits_Mul64 Tryz.lays264 x y hx hy w
def Tryz.lays110_ren:Go.Shelf.Ren:=⟨fun|110=>97|109=>137|n=>n,fun|31=>43|9=>9|4=>4|3=>3|0=>0|n=>n,fun|n=>n⟩
def Tryz.lays110:Go.Proofs.Lays.n110 prog Tryz.lays110_ren:=⟨by kernel_rfl,Zt func137,Zt func97,underlying0,isAgg0,sizeOf0,zeroValue0,underlying3,isAgg3,sizeOf3,zeroValue3,underlying4,isAgg4,sizeOf4,zeroValue4,underlying9,isAgg9,sizeOf9,zeroValue9,underlying43,isAgg43,sizeOf43,zeroValue43⟩
open Go.Lib in
def Tryz.slices_Contains_string(b off n c:Nat)(zs:List ByteArray)(x:ByteArray)(w:World)(hz:n<=zs.length)(hbig:n<=9223372036854775807)(hc:∀j,j<zs.length->w.cell? ⟨b,off+j,none⟩=some (.string (zs.getD j ByteArray.empty))) :
  Calls prog 97 #[.slice (some ⟨b,off,none⟩) n c,.string x] w λe w'=>e=.returned (.bool (Lib.containsS (zs.take n) x))/\w'=w:=Any.slices_Contains_string Tryz.lays110 b off n c zs x w hz hbig hc
open Go.Lib in
def Tryz.slices_Contains_string_empty(a:Option Addr)(c:Nat)(x:ByteArray)(w:World) :
  Calls prog 97 #[.slice a 0 c,.string x] w λe w'=>e=.returned (.bool false)/\w'=w:=Any.slices_Contains_string_empty Tryz.lays110 a c x w
def Tryz.lays111_ren:Go.Shelf.Ren:=⟨fun|111=>60|n=>n,fun|28=>29|3=>3|4=>4|0=>0|n=>n,fun|n=>n⟩
def Tryz.lays111:Go.Proofs.Lays.n111 prog Tryz.lays111_ren:=⟨by kernel_rfl,Zt func60,underlying0,isAgg0,sizeOf0,zeroValue0,underlying3,isAgg3,sizeOf3,zeroValue3,underlying4,isAgg4,sizeOf4,zeroValue4,underlying29,isAgg29,sizeOf29,zeroValue29⟩
open Go.RowKit Go.Lib in
def Tryz.slices_Equal_int(b1 o1 n c b2 o2 m d:Nat)(xs ys:List Int)(w:World)(hx:n<=xs.length)(hy:m<=ys.length)(hbig:n<=9223372036854775807)(hbig2:m<=9223372036854775807)(hc1:∀j,j<xs.length->w.cell? ⟨b1,o1+j,none⟩=some (.int .i64 (xs.getD j 0)))(hc2:∀j,j<ys.length->w.cell? ⟨b2,o2+j,none⟩=some (.int .i64 (ys.getD j 0))) :
  Calls prog 60 #[.slice (some ⟨b1,o1,none⟩) n c,.slice (some ⟨b2,o2,none⟩) m d] w λe w'=>e=.returned (.bool (xs.take n==ys.take m))/\∃q,w'=w.drewN q:=Any.slices_Equal_int Tryz.lays111 b1 o1 n c b2 o2 m d xs ys w hx hy hbig hbig2 hc1 hc2
open Go.RowKit Go.Lib in
def Tryz.slices_Equal_int_empty(a1 a2:Option Addr)(c m d:Nat)(w:World)(hbig2:m<=9223372036854775807) :
  Calls prog 60 #[.slice a1 0 c,.slice a2 m d] w λe w'=>e=.returned (.bool (decide (m=0)))/\w'=w:=Any.slices_Equal_int_empty Tryz.lays111 a1 a2 c m d w hbig2
open Go.RowKit Go.Lib in
def Tryz.slices_Equal_int_lens(a1 a2:Option Addr)(n c m d:Nat)(w:World)(hnm:n≠m) :
  Calls prog 60 #[.slice a1 n c,.slice a2 m d] w λe w'=>e=.returned (.bool false)/\w'=w:=Any.slices_Equal_int_lens Tryz.lays111 a1 a2 n c m d w hnm
end Go.Proofs
namespace Go.Proofs.YtfafpklefknomaaGreatDoor
open Go Go.Lib
open _root_.Go.Proofs.Tryz
set_option linter.all false
set_option maxRecDepth 100000
set_option maxHeartbeats 32000000
def Qbc(a:Int):Prop:=-9223372036854775808<=a/\a<=9223372036854775807
def Qbm(l:List UInt8)(lo hi:Int):Option Int:=
 match Lib.atoiAll l with
 |.ok n=>if Lib.itoa n=l/\lo<=n/\n<=hi then some n else none
 |_=>none
def JeB{l:List UInt8}{lo hi m:Int}(h:Qbm l lo hi=some m):itoa m=l/\Qbc m/\lo<=m/\m<=hi:=by
 unfold Qbm at h;split at h
 ·rename_i n hn;have hb:=atoiAll_bounds hn;split at h
  ·rename_i hc;injection h with h;subst h;exact⟨hc.1,hb,hc.2⟩
  ·cases h
 ·cases h
open Go.ChangeShapes Go.WideShapes Go.ChangeAt Go.RowKit Go.Lib
def Qcx(w:World)(n:Int)(e:Ending)(w':World):Prop:=e=.returned (.int .i64 n)/\Below w.heap.size w w'
def Ke{B:Nat}{a w:World}(h:Below B a w)(n:Nat):Below B a (w.drewN n):=⟨h.os,h.tape,h.output,h.size,h.block⟩
def QgK(w:World)(n:Int)(ok:Bool)(e:Ending)(w':World):Prop:=e=.returned (.tuple #[.int .i64 n,.bool ok])/\Below w.heap.size w w'
def Qei(v:Value)(w:World)(e:Ending)(w':World):Prop:=e=.returned v/\w=w'
def bs(l:List UInt8):ByteArray:=⟨l.toArray⟩
abbrev By:=List UInt8
abbrev Iv(n:Int):Value:=.int .i64 n
abbrev Sv(s:By):Value:=.string (bs s)
abbrev Nl:Value:=.slice none 0 0
abbrev Em:Value:=.string ⟨#[]⟩
abbrev Pt(b:Nat):Value:=.pointer (some ⟨b,0,none⟩)
def JJ(l:By):(bs l).size=l.length:=by simp[bs,ByteArray.size]
def Zv(s:ByteArray):∃l,s=bs l:=⟨s.data.toList,by simp[bs]⟩
def Jj(l:By):(bs l).toList=l:=by rw[ByteArray.toList_eq];simp[bs]
def V5(l:By):(bs l).data.toList=l:=by simp[bs]
structure Laid(w:World):Prop where
 tab:Lib.TabIs prog w "internal/strconv.uint64pow10" .u64 Lib.pow10Tab
 syn:∃tp p,w.var? prog "strconv.ErrSyntax"=some #[.iface tp p]
 ran:∃tp p,w.var? prog "strconv.ErrRange"=some #[.iface tp p]
 size:5<=w.heap.size
def Qkr:prog.globalNamed "strconv.ErrSyntax"=some 1:=zk
def Qks:prog.globalNamed "strconv.ErrRange"=some 2:=zk
def Qkq:prog.globalNamed "internal/strconv.uint64pow10"=some 0:=zk
def Laid.below{w w':World}(h:Laid w)(hb:Below w.heap.size w w'):Laid w':=by
 have hs:=h.size;refine⟨?_,?_,?_,Nat.le_trans h.size hb.size⟩
 ·exact TabIs_below Qkq h.tab hb
 ·obtain⟨tp,p,hv⟩:=h.syn;exact⟨tp,p,var?_below hb Qkr zo hv⟩
 ·obtain⟨tp,p,hv⟩:=h.ran;exact⟨tp,p,var?_below hb Qks zo hv⟩
def QeB(w:World)(l:By)(e:Ending)(w':World):Prop:=e=.returned (Sv l)/\Below w.heap.size w w'
def Jjm(n:Int)(w:World)(hn:Qbc n)(hL:Laid w):Calls prog 46 #[Iv n] w (QeB w (Lib.itoa n)):=by
 have c:Calls prog 109 #[Iv n] w (QeB w (Lib.itoa n)):=(Tryz.strconv_Itoa n hn.1 hn.2 w hL.tab).mono (by
  rintro e w' ⟨rfl,k,os,rfl⟩
  exact⟨rfl,below_grown_sl _ w k os (Nat.le_refl _)⟩)
 go_enter func46,ntmps46;go_wp2_with (go_at_call 109;refine c.mono ?_;rintro e w1 ⟨rfl,hb⟩);go_ret;exact⟨rfl,hb⟩
theorem Qiz{P:Prop}(h:P:=by
  go_enter func130,ntmps130;go_wp2_with (first|(go_at_call 155;refine c.mono ?_;rintro e w1 ⟨rfl,hb1⟩)|(go_at_call 46;refine(Jjm n _ hwf (hL.below hb1)).mono ?_;rintro e w2 ⟨rfl,hb2⟩));go_ret2
  exact⟨by rw[hP.o];rfl,hb1.trans (hb2.mono hb1.size)⟩):P:=h
theorem Qju{P:Prop}(h:P:=by
  have hP:Hi (Qbm l lo hi=none):=by unfold Hi Qbm;rw[ha]
  go_enter func130,ntmps130;go_wp2_with (go_at_call 155;refine c.mono ?_;rintro e w1 ⟨N,rfl,hb1⟩);go_ret2
  exact⟨by rw[hP.o];rfl,hb1⟩):P:=h
def JgH(l:By)(lo hi:Int)(w:World)(hl:l.length<=281474976710656)(hL:Laid w) :
  Calls prog 130 #[Sv l,Iv lo,Iv hi] w (QgK w ((Qbm l lo hi).getD 0) (Qbm l lo hi).isSome):=by
 have hsz:(bs l).size<=281474976710656:=by rw[JJ];exact hl
 cases ha:Lib.atoiAll l with
 |ok n=>
  have c:Calls prog 155 #[Sv l] w (λe w'=>e=.returned (.tuple #[Iv n,.nilIface])/\Below w.heap.size w w'):=(Tryz.strconv_Atoi_ok (bs l) zo n (by rw[V5];exact ha) w).mono (by
   rintro e w' ⟨rfl,h⟩;refine⟨rfl,?_⟩
   rcases h with rfl|⟨t,rfl⟩
   ·exact zO
   ·exact⟨rfl,rfl,rfl,by rw[bytesWorld_size];omega,λk hk=>bytesWorld_at_old w 5 t k hk⟩)
  have hwf:Qbc n:=by have:=Lib.atoiAll_bounds ha;exact this
  have ht:=Jj l;have ht2:=Jj (Lib.itoa n)
  by_cases heq:Lib.itoa n=l
  ·have hq:(Lib.itoa n==l)=true:=by simpa using heq
   by_cases h1:n<lo
   ·have hP:Hi (Qbm l lo hi=none):=by unfold Hi Qbm;rw[ha];simp only;rw[if_neg zo]
    have d1:decide (n<lo)=true:=zG h1;clear heq h1;exact Qiz
   ·have d1:decide (n<lo)=false:=zH h1
    by_cases h2:hi<n
    ·have hP:Hi (Qbm l lo hi=none):=by unfold Hi Qbm;rw[ha];simp only;rw[if_neg zo]
     have d2:decide (hi<n)=true:=zG h2;clear heq h1 h2;exact Qiz
    ·have hP:Hi (Qbm l lo hi=some n):=by unfold Hi Qbm;rw[ha];simp only;rw[if_pos ⟨heq,by omega,by omega⟩]
     have d2:decide (hi<n)=false:=zH h2;clear heq h1 h2;exact Qiz
  ·have hq:(Lib.itoa n==l)=false:=by simpa using heq
   have hP:Hi (Qbm l lo hi=none):=by unfold Hi Qbm;rw[ha];simp only;rw[if_neg (by rintro⟨h,_⟩;exact heq h)]
   clear heq;exact Qiz
 |range=>
  obtain⟨tp,p,hv⟩:=hL.ran
  have c:Calls prog 155 #[Sv l] w (λe w'=>∃N:Nat,e=.returned (.tuple #[Iv (Lib.atoiSat l),.iface 230 (Pt N)])/\Below w.heap.size w w'):=(Tryz.strconv_Atoi_range_var (bs l) hsz (by rw[V5];exact ha) tp p w hv).mono (by
   rintro e w' ⟨N,rfl,_,_,hb⟩
   exact⟨N,by rw[V5],hb⟩)
  exact Qju
 |_=>
  obtain⟨tp,p,hv⟩:=hL.syn
  have c:Calls prog 155 #[Sv l] w (λe w'=>∃N:Nat,e=.returned (.tuple #[Iv 0,.iface 230 (Pt N)])/\Below w.heap.size w w'):=(Tryz.strconv_Atoi_syntax_var (bs l) hsz (by rw[V5];exact ha) tp p w hv).mono (by
   rintro e w' ⟨N,rfl,_,_,hb⟩
   exact⟨N,rfl,hb⟩)
  exact Qju
def own:ownKnob prog.godebug=none:=zk
def Qgz:laidOutB prog=true:=zk
def Qbn:List (String × DataW Unit):=[("math/bits.deBruijn32tab",Rows.laid_math_bits_deBruijn32tab),("math/bits.deBruijn64tab",Rows.laid_math_bits_deBruijn64tab),("internal/strconv.uint64pow10",Rows.laid_internal_strconv_uint64pow10),("strconv.ErrRange",Rows.laid_strconv_ErrRange),("strconv.ErrSyntax",Rows.laid_strconv_ErrSyntax)]
def QkH:prog.globalNamed "math/bits.deBruijn64tab"=some 5:=zk
def JfD{P:Program}{W:World}{n:String}{d:DataW Unit}{r:List (String × DataW Unit)}{g:Nat}(hg:P.globalNamed n=some g)(h:laidMet P ((n,d)::r) W):g<W.heap.size:=by
 obtain⟨ps,⟨g',t',cs,xA,p,q,yA,zA,hvar,hd,_,_⟩,_⟩:=h;obtain rfl:=Option.some.inj (hg.symm.trans yA);unfold World.var? at hvar;rw[hg]at hvar;simp only[Option.bind_some]at hvar;refine Nat.lt_of_not_le λhn=>?_
 rw[Array.getElem?_eq_none hn]at hvar
 cases hvar
def JgI{W:World}(h:laidMet prog Qbn W):Laid W:=by
 have h2:=h.tail;have h3:=h.tail.tail;have h4:=h3.tail;have h5:=h4.tail;have hsz:=JfD QkH h2;obtain⟨a1,s1,yA,_⟩:=laid_sentinel h4 (g:=2) (ti:=175) (tp:=244) (te:=246) Qks zk underlying175 (typeName_ptr_named (nm:="errors.errorString") zk zk zp) underlying244 underlying246 rfl rfl underlying9 zk zk;obtain⟨a2,s2,xA,_⟩:=laid_sentinel h5 (g:=1) (ti:=175) (tp:=244) (te:=246) Qkr zk underlying175 (typeName_ptr_named (nm:="errors.errorString") zk zk zp) underlying244 underlying246 rfl rfl underlying9 zk zk;refine⟨?_,⟨_,_,xA⟩,⟨_,_,yA⟩,by omega⟩;exact Lib.tabIs_of_head (e:=208) (t:=233) (n:=20) (g:=0) Qkq zk underlying233 underlying208 zk zk h3
abbrev Qku:ByteArray:={ data:=#[105,110,118,97,108,105,100,32,115,121,110,116,97,120] }
abbrev Qkv:ByteArray:={ data:=#[118,97,108,117,101,32,111,117,116,32,111,102,32,114,97,110,103,101] }
def QiS:List Int:=[0,1,28,2,29,14,24,3,30,22,20,15,25,17,4,8,31,27,13,23,21,19,16,7,26,12,18,6,11,5,10,9]
def QiR:List Int:=[0,1,56,2,57,49,28,3,61,58,42,50,38,29,17,4,62,47,59,36,45,43,51,22,53,39,33,30,24,18,12,5,63,55,48,27,60,41,37,16,46,35,44,21,52,32,23,11,54,26,40,15,34,20,31,10,25,14,19,9,13,8,7,6]
noncomputable def low:Nat:=(World.holding prog default ⟨#[],#[],[]⟩).heap.size
noncomputable def put(c:Array Value):Obj->Obj
 |.cells _ t frozen=>.cells c t frozen
 |o=>o
noncomputable def QdD(os:Os):World:=
 let w0:=World.holding prog os ⟨#[.cells #[.string Qku] 246,.cells #[.string Qkv] 246],#[],[]⟩
 { w0 with heap:=((((w0.heap.modify 1 (put #[.iface 244 (Pt low)])).modify 2 (put #[.iface 244 (.pointer (some ⟨low+1,0,none⟩))])).modify 0 (put (Lib.pow10Tab.map λz=>Value.int .u64 z).toArray)).modify 4 (put (QiS.map λz=>Value.int .u8 z).toArray)).modify 5 (put (QiR.map λz=>Value.int .u8 z).toArray) }
def Yh(os:Os)(args:Array Value):laidMet prog Qbn ((QdD os).forCall (λ_ _=>0) ⟨#[],args,[]⟩).memory:=
 laidMet_of_run' 8 zk zk
section
variable {H:Type} {enc:TypeId × Value->H} {P:Program}
def Jbi(hl:laidOutB P=true){W W':World}{sp:Nat->Bool}(hb:Below W.heap.size W W') :
  ∀(ts:List TypeId) (vs:List Value) (ds:List (DataW H)) (ps:List MemPlace),(∀t,t∈ts->P.readableRec t=true/\t<P.types.size)->
   DataW.TrodAll enc P W 0 (λ_=>true) true ts vs ds ps->(∀x,x∈ps->x.block<W.heap.size)->(∀x,x∈ps->sp x.block=true)->
   DataW.TrodAll enc P W' 0 sp true ts vs ds ps:=by
 intro ts
 induction ts with
 |nil=>
  intro vs ds ps _ h _ _;obtain⟨rfl,rfl,rfl⟩:=trodAll_nil h;exact trodAll_mk0
 |cons t ts ih=>
  intro vs ds ps xA h hlt yA;obtain⟨v,zA,d,uA,p,q,rfl,rfl,rfl,h1,h2⟩:=trodAll_cons h;obtain⟨hr,hrow⟩:=xA t zq;refine trodAll_cons_mk (WideElems.Trod_stays hl hr hrow h1 (λx hx=>hb.same (hlt x (by simp[hx]))) λx hx=>yA x (by simp[hx])) ?_;exact ih _ _ _ (λt ht=>xA t (by simp[ht])) h2 (λx hx=>hlt x (by simp[hx])) λx hx=>yA x (by simp[hx])
def Jbj{f:Func}{s:ChangeSpec}{apart fresh handsOn again:Bool}{W W':World}{args:Array Value}{v:Value}{ds gs:List (DataW H)}{before pa pv:List MemPlace}
  (hW:DataW.Whole enc P f.params.toList s.vars apart W args.toList ds gs before)
  (hres:∀(b:Nat) (sp:Nat->Bool) (hd:Bool),DataW.TrodAll enc P W' b sp hd f.resultTypes.toList (v.resultList f.resultTypes.size) (s.fn H (ds++gs)).results [])
  (hargs:∀sp:Nat->Bool,(∀p∈before,sp p.block=true)->DataW.TrodAll enc P W' 0 sp true f.params.toList args.toList (s.fn H (ds++gs)).args pa)
  (hvars:∀sp:Nat->Bool,(∀p∈before,sp p.block=true)->DataW.TrodVars enc P W' sp s.vars (s.fn H (ds++gs)).vars pv)
  (hps:before=pa++pv) (hb:Below W.heap.size W W')
  (hok:∀(j:Nat) (t:TypeId) (r:Value),f.resultTypes[j]?=some t->(v.resultList f.resultTypes.size)[j]?=some r->Value.okWide P W' .any 0 t r) :
  s.post enc P f apart fresh handsOn again W args v W':=by
 have hlt:∀p∈before,p.block<W.heap.size:=λp hp=>hW.lt p hp
 have xA:∀p∈before,(λb=>decide (b<W.heap.size)) p.block=true:=λp hp=>by simpa using hlt p hp
 refine⟨ds,gs,before,[],pa,pv,hW,hres _ _ _,hargs _ xA,hvars _ xA,World.keptBut_mono (λp hp=>⟨hp,?_⟩) (hb.frame (·∈before)),λ_=>?_⟩
 ·rw[hps,List.mem_append]at hp;exact Or.inr hp
 ·obtain⟨_,_,_,_,_,hz,hn⟩:=hW;refine⟨hok,_,_,([]++pa)++pv,⟨[]++pa,pv,trodAll_append (hargs _ λ_ _=>rfl) (hres _ _ _),hvars _ λ_ _=>rfl,rfl,?_,?_⟩,?_⟩
  ·intro b off hp;have yA:MemPlace.cell b off∈before:=by rw[hps];simpa using hp
   rw[hb.frozen (hlt _ yA)];exact hz b off yA
  ·intro ha;have:=hn ha;rw[hps]at this;simpa using this
  ·intro p hp _;rw[hps];simpa using hp
def Jjn{f:Func}{s:ChangeSpec}{apart fresh handsOn again:Bool}{W W':World}{args:Array Value}{ds gs:List (DataW H)}{before:List MemPlace}{tb:TypeId}
  (hl:laidOutB P=true) (hts:f.params.toList.all (λt=>P.readableRec t&&decide (t<P.types.size))=true) (hr:f.resultTypes=#[tb]) (hb:P.underlying tb=some .bool)
  (hvars:s.vars=[]) (hW:DataW.Whole enc P f.params.toList s.vars apart W args.toList ds gs before)
  (hfn:s.fn H (ds++gs)={ results:=[.lit (.bool true)],args:=ds }) (hB:Below W.heap.size W W'):s.post enc P f apart fresh handsOn again W args (.bool true) W':=by
 have hlt:∀p∈before,p.block<W.heap.size:=λp hp=>hW.lt p hp
 have xA:=hW;obtain⟨p,q,hA,hV,rfl,hz,hn⟩:=xA;rw[hvars]at hV;obtain⟨rfl,rfl⟩:=trodVars_none hV;refine Jbj (pa:=p) (pv:=[]) hW ?_ ?_ ?_ rfl hB ?_
 ·intro b sp hd;rw[hfn,hr];exact trodAll_mk1 (shut_bool hb _)
 ·intro sp yA;rw[hfn]
  have h2:∀t,t∈f.params.toList->P.readableRec t=true/\t<P.types.size:=by
   intro t ht;have:=List.all_eq_true.1 hts t ht;simpa using this
  exact Jbi hl hB _ _ _ _ h2 hA (λx hx=>hlt x (by simp[hx])) λx hx=>yA x (by simp[hx])
 ·intro sp _;rw[hfn,hvars];exact rfl
 ·intro j t r h1 h2;rw[hr]at h1 h2
  cases j with
  |zero=>
   simp[Value.resultList]at h1 h2;subst h1;subst h2;exact okWide_bool_mk hb _
  |succ j=>simp at h1
end
end Go.Proofs.YtfafpklefknomaaGreatDoor
