import Derived.IntWalk
import Derived.Deep.RegionHeld
import Derived.Lib.Hide
import Derived.Shelf.Strings.Builder1
import Derived.Shelf.Small.Strs
import Derived.Shelf.Strconv.Atoi
import Derived.Shelf.Strconv.Itoa0
import Derived.Shelf.Strconv.Itoa1
import Derived.Shelf.LaysM
import Derived.Shelf.Strconv.Itoa2
import Derived.Shelf.Strconv.Itoa3
import Derived.Shelf.Strconv.AtoiErrFast
import Derived.Shelf.Strconv.ParseIntEmpty
import Derived.Shelf.Strconv.AtoiFail
import Derived.Shelf.Strconv.Clone
import Derived.Shelf.Strconv.SyntaxError
import Derived.Shelf.LaysC
import Derived.Shelf.Strconv.ToError
import Derived.Shelf.Strconv.AtoiErr
import Derived.Shelf.Strconv.ErrVar
import Derived.Shelf.Strconv.Lower
import Derived.Shelf.Strconv.ParseUint10
import Derived.Shelf.Strconv.ParseUint10Empty
import Derived.Shelf.Strconv.ParseUint10Any
import Derived.Shelf.Strconv.ParseInt10
import Derived.Shelf.Strconv.AtoiLong
import Derived.Shelf.Strconv.AtoiInnerAll
import Derived.Shelf.Strconv.RangeError
import Derived.Shelf.Strconv.ToErrorRange
import Derived.Shelf.Strconv.AtoiAll
import Derived.Shelf.Strconv.ErrVarAll
import Derived.Shelf.Strconv.ParseUintEmpty
import Derived.Shelf.Strconv.ParseUint10b64
import Derived.Shelf.Strconv.ParseUint10b32
import Derived.Shelf.Strconv.ParseUint10b16
import Derived.Shelf.Strconv.ParseUint10b8
import Derived.Shelf.Strconv.ParseUint10At
import Derived.Shelf.Strconv.ParseInt10At64
import Derived.Shelf.Strconv.ParseInt10At32
import Derived.Shelf.Strconv.ParseInt10At16
import Derived.Shelf.Strconv.ParseInt10At8
import Derived.Shelf.Strconv.ParseInt10All
import Derived.Shelf.Strings.Search1
import Derived.Shelf.Strings.Prefix
import Derived.Shelf.Bits.Mul64
import Derived.Shelf.Slices.Turned
import Derived.Shelf.Slices.Equal
import Derived.Shelf.Slices.Empties2
import Derived.Test.YtfafpklefknomaaGreatDoorProg
import Derived.Lib.ItoaMem
import Derived.Lib.AtoiAllCases
import Derived.Test.YtfafpklefknomaaGreatDoorChecked
import Derived.WalkKit
import Derived.ProofKit
import Derived.OpenShut
import Derived.Outline
import Derived.OwnWalk
import Derived.Below
import Derived.Deep.QuietTactic
import Derived.BigQuiet
import Derived.Shelf.Unicode.PredsPay
import Derived.Shelf.SlSorted.Search
import Derived.WalkSmall
import Derived.Laws.Strings
import Derived.Test.YtfafpklefknomaaGreatDoorRows
import Derived.Lib.LaidTab
import Derived.Stop.LaidErr
import Derived.LaidLaws
import Derived.ChangeSame
import Derived.Carry
import Derived.Laws.Rows
import Derived.Laws.Tables
import Derived.Laws.CopyOwn
import Derived.Lib.SmallJoins
import Derived.Lib.IndexAny
import Derived.Laws.AppendOwn
import Derived.Laws.OwnMore
import Derived.Deep.Draws
import Derived.Laws.NewBlocks
set_option linter.all false
open List(length_cons)
open Nat(le_refl)
namespace Go.Proofs.YtfafpklefknomaaGreatDoor
set_option linter.all false
def Hi(p:Prop):Prop:=p
def Hi.o{p:Prop}(h:Hi p):p:=h
def Zh{p:Prop}(h:p):Hi p:=h
variable{a:Act}
def zU{S:World->Prop}{X K:Act->World->Prop}{w:World}(h:Go.Shut (∀a w,S w->(S w->X a w)->K a w)):S w->(S w->X a w)->K a w:=h.out a w
def zI(i:Nat)(h:-9223372036854775808<=(i:Int)+1/\(i:Int)+1<=9223372036854775807:=by omega):IntKind.i64.wrap ((i:Int)+1)=(i:Int)+1:=IntWalk.i64_in _ h
theorem yt{α:Sort _}(a:α):∃b,a=b:=⟨a,rfl⟩
theorem zu{P Q:Prop}(q:Q)(h:Q->P:=by intro _;omega):P:=h q
theorem zv{P Q R:Prop}(q:Q)(r:R)(h:Q->R->P:=by intro _ _;omega):P:=h q r
def zo{P:Prop}(h:P:=by omega):P:=h
def zk{P:Prop}(h:P:=by kernel_rfl):P:=h
def zp{P:Prop}(h:P:=by decide):P:=h
def zq{P:Prop}(h:P:=by simp):P:=h
def zr{P:Prop}(h:P:=by(simp;omega)):P:=h
theorem zG{p:Prop}[Decidable p](h:p):decide p=true:=decide_eq_true h
theorem zH{p:Prop}[Decidable p](h:¬p):decide p=false:=decide_eq_false h
variable{α:Type}
theorem zJ(a:α):∃b,b=a:=⟨a,rfl⟩
def zt{P:Prop}(h:P:=by rfl):P:=h
open Go in
def zM{α:Type}[BEq α][LawfulBEq α]{a b:α}(h:a≠b):(a==b)=false:=beq_eq_false_iff_ne.2 h
open Go in
def zN{α:Type}[BEq α][LawfulBEq α]{a b:α}(h:a=b):(a==b)=true:=beq_iff_eq.2 h
open Go in
def zO{B:Nat}{w:World}:Go.RowKit.Below B w w:=Go.RowKit.Below.refl B w
open Go in
def zP{n:Nat}:n<=n:=Nat.le_refl n
open Go in
def zQ(w:World)(o:Obj):(w.alloc o).heap[w.heap.size]?=some o:=Go.heap_alloc_new w o
def ZA{α:Type}(l:List α)(i:Nat)(a:α):l.toArray.setIfInBounds i a=(l.set i a).toArray:=List.setIfInBounds_toArray l i a
def ZB{α:Type}(b:α)(x:α)(l:List α):(x::l).set 0 b=b::l:=rfl
def ZC{α:Type}(b:α)(x:α)(l:List α)(n:Nat):(x::l).set (n+1) b=x::l.set n b:=rfl
def ZD{α:Type}(l:List α)(i:Nat):l.toArray[i]?=l[i]?:=List.getElem?_toArray
def ZE{α:Type}(x:α)(l:List α)(n:Nat):(x::l)[n+1]?=l[n]?:=rfl
def ZF{α:Type}(x:α)(l:List α):(x::l)[0]?=some x:=rfl
def zX:(∀(a:Act)(d:Tmp)(v:Value),a.put (some d) v={a with tmps:=a.tmps.setIfInBounds d v})/\(∀(a:Act)(v:Value),a.put none v=a)/\(∀(α:Type)(l:List α)(i:Nat)(a:α),l.toArray.setIfInBounds i a=(l.set i a).toArray)/\(∀(α:Type)(b:α)(x:α)(l:List α),(x::l).set 0 b=b::l)/\∀(α:Type)(b:α)(x:α)(l:List α)(n:Nat),(x::l).set (n+1) b=x::l.set n b:=⟨λ_ _ _=>rfl,λ_ _=>rfl,@ZA,@ZB,@ZC⟩
def zW:(∀(α:Type)(l:List α)(i:Nat),l.toArray[i]?=l[i]?)/\(∀(α:Type)(x:α)(l:List α)(n:Nat),(x::l)[n+1]?=l[n]?)/\∀(α:Type)(x:α)(l:List α),(x::l)[0]?=some x:=⟨@ZD,@ZE,@ZF⟩
variable{af:Array Edge}{d:Option Tmp}{g fuel B n k base e size:Nat}{t:TypeId}{v:Value}
section
open Go
variable {P:Program}{md:Region.Mode}{ops:Array Oper}{Q:Exit->Act->World->Prop}{S:World->Prop}
def ZT{i:Nat}{o:Op}{p:String}{g:Option (Nat×Bool)}{Qbn:Array Bool}{w:World}(hi:ops[i]?=some ⟨d,o,t,p,af,g⟩)(hy:YieldsIf P ops S ⟨d,o,t,p,af,g⟩ v a)
  (h:wpAnyH P md ops Q S fuel (Qbn.setIfInBounds i true) (a.put d v) w) (hS:S w:=by assumption)
  (hs:Region.noSelect ops=true:=by kernel_rfl) (hf:Region.free md ops Qbn i=true:=by kernel_rfl) (hr:(Region.ready md ops Qbn).contains i=true:=by kernel_rfl)
  (hQ:∀c a w,Q (.panic c) (a.put d v) w->Q (.panic c) a w:=by exact λ_ _ _ h=>h):wpAnyH P md ops Q S (fuel+1) Qbn a w:=wpAnyH_take hi hs hf hr hQ hy hS h
def ZR{rs:List Nat}{Qbn:Array Bool}{w:World}(h:AllReadyH P md ops Q S fuel Qbn a w rs)(hr:Region.ready md ops Qbn=rs:=by kernel_rfl)(hne:rs≠[]:=by simp):wpAnyH P md ops Q S (fuel+1) Qbn a w:=wpAnyH_ready hr hne h
def ZS(i:Nat){o:Op}{p:String}{g:Option (Nat×Bool)}{Qbn:Array Bool}{w:World}(ho:ops[i]?=some ⟨d,o,t,p,af,g⟩)
  (h:∀K':Act->World->Prop,Shut (∀a w,S w->(S w->wpAnyH P md ops Q S fuel (Qbn.setIfInBounds i true) a w)->K' a w)->if Region.wanted ⟨d,o,t,p,af,g⟩ (yielded ops a.tmps)=true then Oper.wp P ⟨d,o,t,p,af,g⟩ a w K' Q else K' (a.put d undef) w)
  (hr:Region.ready md ops Qbn=[i]:=by kernel_rfl):wpAnyH P md ops Q S (fuel+1) Qbn a w:=wpAnyH_ready hr zq (AllReadyH.cons ho h AllReadyH.nil)
def zK(i:Nat){o:Op}{p:String}{g:Option (Nat×Bool)}{l:Array Bool}{w:World}(h:wpAnyH P md ops Q S fuel (l.setIfInBounds i true) (a.put d v) w)(hi:ops[i]?=some ⟨d,o,t,p,af,g⟩:=by exact rfl)
  (hw:Region.wanted ⟨d,o,t,p,af,g⟩ (yielded ops a.tmps)=true:=by rfl)(hv:∀w,S w->(execOp a.eval ⟨d,o,t,p,af,g⟩).run P w=.ok (.value v) w:=by(try simp only[zX]);intro wX hSw;(try dsimp only at hSw);go_simp<;>with_reducible rfl)(hS:S w:=by assumption)
  (hs:Region.noSelect ops=true:=by kernel_rfl)(hf:Region.free md ops l i=true:=by kernel_rfl)(hr:(Region.ready md ops l).contains i=true:=by kernel_rfl)
  (hQ:∀c a w,Q (.panic c) (a.put d v) w->Q (.panic c) a w:=by exact λ_ _ _ h=>h):wpAnyH P md ops Q S (fuel+1) l a w:=wpAnyH_take hi hs hf hr hQ (.inl ⟨hw,hv⟩) hS h
def zL(i:Nat){o:Op}{p:String}{g:Option (Nat×Bool)}{l:Array Bool}{w:World}(h:wpAnyH P md ops Q S fuel (l.setIfInBounds i true) (a.put d undef) w)(hi:ops[i]?=some ⟨d,o,t,p,af,g⟩:=by exact rfl)
  (hw:Region.wanted ⟨d,o,t,p,af,g⟩ (yielded ops a.tmps)=false:=by rfl)(hS:S w:=by assumption)
  (hs:Region.noSelect ops=true:=by kernel_rfl)(hf:Region.free md ops l i=true:=by kernel_rfl)(hr:(Region.ready md ops l).contains i=true:=by kernel_rfl)
  (hQ:∀c a w,Q (.panic c) (a.put d undef) w->Q (.panic c) a w:=by exact λ_ _ _ h=>h):wpAnyH P md ops Q S (fuel+1) l a w:=wpAnyH_take hi hs hf hr hQ (.inr ⟨hw,rfl⟩) hS h
def Zt{a:Option α}{b c:α}(h:a=some b)(e:b=c:=by kernel_rfl):a=some c:=by rw[h,e]
end
end Go.Proofs.YtfafpklefknomaaGreatDoor
namespace Go.Proofs
open Go.Proofs.Tryz YtfafpklefknomaaGreatDoor
open Go.Shelf
def Tryz.lays137_ren:Go.Shelf.Ren:=⟨fun|137=>157|217=>167|266=>179|n=>n,fun|9=>9|5=>5|3=>3|n=>n,fun|n=>n⟩
def Tryz.lays137:Go.Proofs.Lays.n137 prog Tryz.lays137_ren:=⟨by kernel_rfl,Zt func157,Zt func167,Zt func179,underlying3,isAgg3,sizeOf3,zeroValue3,underlying5,isAgg5,sizeOf5,zeroValue5,underlying9,isAgg9,sizeOf9,zeroValue9⟩
open Go.RowKit in
def Tryz.strings_IndexByte(s:ByteArray)(c:Int)(w:World):
  Calls prog 157 #[.string s,.int .u8 c] w λe w'=>e=.returned (.int .i64 (Lib.indexByte s.data.toList c.toNat.toUInt8))/\w'=w:=Any.strings_IndexByte Tryz.lays137 s c w
def Tryz.laysM171_ren:Go.Shelf.Ren:=⟨fun|171=>109|243=>141|246=>162|283=>170|284=>171|285=>172|286=>173|129=>181|317=>180|318=>182|319=>183|320=>184|337=>188|338=>189|n=>n,fun|3=>3|9=>9|2=>2|4=>4|171=>222|0=>0|53=>208|37=>60|5=>5|173=>225|212=>233|51=>234|20=>20|213=>235|46=>220|232=>247|233=>248|n=>n,fun|17=>0|18=>4|19=>5|n=>n⟩
def Tryz.laysM171:Go.Proofs.LaysM.n171 prog Tryz.laysM171_ren:={
 mixed:=by kernel_rfl
 f129:=Zt func181
 f171:=Zt func109
 f243:=Zt func141
 f246:=Zt func162
 f283:=Zt func170
 f284:=Zt func171
 f285:=Zt func172
 f286:=Zt func173
 f317:=Zt func180
 f318:=Zt func182
 f319:=Zt func183
 f320:=Zt func184
 f337:=Zt func188
 f338:=Zt func189
 t0:=underlying0
 a0:=isAgg0
 z0:=sizeOf0
 v0:=zeroValue0
 t2:=underlying2
 a2:=isAgg2
 z2:=sizeOf2
 v2:=zeroValue2
 t3:=underlying3
 a3:=isAgg3
 z3:=sizeOf3
 v3:=zeroValue3
 t4:=underlying4
 a4:=isAgg4
 z4:=sizeOf4
 v4:=zeroValue4
 t5:=underlying5
 a5:=isAgg5
 z5:=sizeOf5
 v5:=zeroValue5
 t9:=underlying9
 a9:=isAgg9
 z9:=sizeOf9
 v9:=zeroValue9
 t20:=underlying20
 a20:=isAgg20
 z20:=sizeOf20
 v20:=zeroValue20
 t37:=underlying60
 a37:=isAgg60
 z37:=sizeOf60
 v37:=zeroValue60
 t46:=underlying220
 a46:=isAgg220
 z46:=sizeOf220
 v46:=zeroValue220
 t51:=underlying234
 a51:=isAgg234
 z51:=sizeOf234
 v51:=zeroValue234
 t53:=underlying208
 a53:=isAgg208
 z53:=sizeOf208
 v53:=zeroValue208
 t171:=underlying222
 a171:=isAgg222
 z171:=sizeOf222
 v171:=zeroValue222
 t173:=underlying225
 a173:=isAgg225
 z173:=sizeOf225
 v173:=zeroValue225
 t212:=underlying233
 a212:=isAgg233
 z212:=sizeOf233
 v212:=zeroValue233
 t213:=underlying235
 a213:=isAgg235
 z213:=sizeOf235
 t232:=underlying247
 a232:=isAgg247
 z232:=sizeOf247
 v232:=zeroValue247
 t233:=underlying248
 a233:=isAgg248
 z233:=sizeOf248
 v233:=zeroValue248
 g17:=by kernel_rfl
 g18:=by kernel_rfl
 g19:=by kernel_rfl
 i0:=by kernel_rfl
 i2:=by kernel_rfl
 i3:=by kernel_rfl
 i4:=by kernel_rfl
 i5:=by kernel_rfl
 i9:=by kernel_rfl
 i20:=by kernel_rfl
 i37:=by kernel_rfl
 i46:=by kernel_rfl
 i51:=by kernel_rfl
 i53:=by kernel_rfl
 i171:=by kernel_rfl
 i173:=by kernel_rfl
 i212:=by kernel_rfl
 i232:=by kernel_rfl
 i233:=by kernel_rfl
 m17:=by kernel_rfl
 m18:=by kernel_rfl
 m19:=by kernel_rfl}
open Go.RowKit Go.Sort Go.Lib in
def Tryz.strconv_Itoa(n:Int)(h0:-9223372036854775808<=n)(h1:n<=9223372036854775807)(w:World)(AG:Lib.TabIs prog w "internal/strconv.uint64pow10" .u64 Lib.pow10Tab):
  Calls prog 109 #[.int .i64 n] w λe w'=>e=.returned (.string ⟨(Lib.itoa n).toArray⟩)/\∃k os,w'=grow (w.drewN k) os:=Any.strconv_Itoa Tryz.laysM171 n h0 h1 w AG
def Tryz.laysC172_ren:Go.Shelf.Ren:=⟨fun|172=>155|244=>164|245=>165|247=>174|279=>175|280=>176|281=>177|282=>178|287=>185|316=>186|171=>109|205=>187|321=>190|322=>191|243=>141|246=>162|283=>170|284=>171|285=>172|286=>173|129=>181|317=>180|318=>182|319=>183|320=>184|337=>188|338=>189|n=>n,fun|9=>9|3=>3|75=>175|76=>176|4=>4|5=>5|167=>227|37=>60|0=>0|85=>228|2=>2|168=>230|53=>208|175=>237|46=>220|210=>240|127=>179|145=>246|143=>244|21=>21|171=>222|173=>225|212=>233|51=>234|20=>20|213=>235|232=>247|233=>248|80=>113|n=>n,fun|15=>1|16=>2|17=>0|18=>4|19=>5|n=>n⟩
def Tryz.laysC172:Go.Proofs.LaysC.n172 prog Tryz.laysC172_ren:={
 mixed:=by kernel_rfl
 f129:=Zt func181
 f171:=Zt func109
 f172:=Zt func155
 f205:=Zt func187
 f243:=Zt func141
 f244:=Zt func164
 f245:=Zt func165
 f246:=Zt func162
 f247:=Zt func174
 f279:=Zt func175
 f280:=Zt func176
 f281:=Zt func177
 f282:=Zt func178
 f283:=Zt func170
 f284:=Zt func171
 f285:=Zt func172
 f286:=Zt func173
 f287:=Zt func185
 f316:=Zt func186
 f317:=Zt func180
 f318:=Zt func182
 f319:=Zt func183
 f320:=Zt func184
 f321:=Zt func190
 f322:=Zt func191
 f337:=Zt func188
 f338:=Zt func189
 t0:=underlying0
 a0:=isAgg0
 z0:=sizeOf0
 v0:=zeroValue0
 t2:=underlying2
 a2:=isAgg2
 z2:=sizeOf2
 v2:=zeroValue2
 t3:=underlying3
 a3:=isAgg3
 z3:=sizeOf3
 v3:=zeroValue3
 t4:=underlying4
 a4:=isAgg4
 z4:=sizeOf4
 v4:=zeroValue4
 t5:=underlying5
 a5:=isAgg5
 z5:=sizeOf5
 v5:=zeroValue5
 t9:=underlying9
 a9:=isAgg9
 z9:=sizeOf9
 v9:=zeroValue9
 t20:=underlying20
 a20:=isAgg20
 z20:=sizeOf20
 v20:=zeroValue20
 t21:=underlying21
 a21:=isAgg21
 z21:=sizeOf21
 v21:=zeroValue21
 t37:=underlying60
 a37:=isAgg60
 z37:=sizeOf60
 v37:=zeroValue60
 t46:=underlying220
 a46:=isAgg220
 z46:=sizeOf220
 v46:=zeroValue220
 t51:=underlying234
 a51:=isAgg234
 z51:=sizeOf234
 v51:=zeroValue234
 t53:=underlying208
 a53:=isAgg208
 z53:=sizeOf208
 v53:=zeroValue208
 t75:=underlying175
 a75:=isAgg175
 z75:=sizeOf175
 v75:=zeroValue175
 t76:=underlying176
 a76:=isAgg176
 z76:=sizeOf176
 v76:=zeroValue176
 t85:=underlying228
 a85:=isAgg228
 z85:=sizeOf228
 v85:=zeroValue228
 t127:=underlying179
 a127:=isAgg179
 z127:=sizeOf179
 v127:=zeroValue179
 t143:=underlying244
 a143:=isAgg244
 z143:=sizeOf244
 v143:=zeroValue244
 t145:=underlying246
 a145:=isAgg246
 z145:=sizeOf246
 v145:=zeroValue246
 t167:=underlying227
 a167:=isAgg227
 z167:=sizeOf227
 v167:=zeroValue227
 t168:=underlying230
 a168:=isAgg230
 z168:=sizeOf230
 v168:=zeroValue230
 t171:=underlying222
 a171:=isAgg222
 z171:=sizeOf222
 v171:=zeroValue222
 t173:=underlying225
 a173:=isAgg225
 z173:=sizeOf225
 v173:=zeroValue225
 t175:=underlying237
 a175:=isAgg237
 z175:=sizeOf237
 v175:=zeroValue237
 t210:=underlying240
 a210:=isAgg240
 z210:=sizeOf240
 v210:=zeroValue240
 t212:=underlying233
 a212:=isAgg233
 z212:=sizeOf233
 v212:=zeroValue233
 t213:=underlying235
 a213:=isAgg235
 z213:=sizeOf235
 t232:=underlying247
 a232:=isAgg247
 z232:=sizeOf247
 v232:=zeroValue247
 t233:=underlying248
 a233:=isAgg248
 z233:=sizeOf248
 v233:=zeroValue248
 g15:=by kernel_rfl
 g16:=by kernel_rfl
 g17:=by kernel_rfl
 g18:=by kernel_rfl
 g19:=by kernel_rfl
 t80:=underlying113
 a80:=isAgg113
 z80:=sizeOf113
 v80:=zeroValue113
 i0:=by kernel_rfl
 i2:=by kernel_rfl
 i3:=by kernel_rfl
 i4:=by kernel_rfl
 i5:=by kernel_rfl
 i9:=by kernel_rfl
 i20:=by kernel_rfl
 i21:=by kernel_rfl
 i37:=by kernel_rfl
 i46:=by kernel_rfl
 i51:=by kernel_rfl
 i53:=by kernel_rfl
 i75:=by kernel_rfl
 i76:=by kernel_rfl
 i80:=by kernel_rfl
 i85:=by kernel_rfl
 i127:=by kernel_rfl
 i143:=by kernel_rfl
 i145:=by kernel_rfl
 i167:=by kernel_rfl
 i168:=by kernel_rfl
 i171:=by kernel_rfl
 i173:=by kernel_rfl
 i175:=by kernel_rfl
 i210:=by kernel_rfl
 i212:=by kernel_rfl
 i232:=by kernel_rfl
 i233:=by kernel_rfl
 m15:=by kernel_rfl
 m16:=by kernel_rfl
 m17:=by kernel_rfl
 m18:=by kernel_rfl
 m19:=by kernel_rfl
 c0:=by kernel_rfl
 c2:=by kernel_rfl
 c3:=by kernel_rfl
 c4:=by kernel_rfl
 c5:=by kernel_rfl
 c9:=by kernel_rfl
 c20:=by kernel_rfl
 c21:=by kernel_rfl
 c37:=by kernel_rfl
 c46:=by kernel_rfl
 c51:=by kernel_rfl
 c53:=by kernel_rfl
 c75:=by kernel_rfl
 c76:=by kernel_rfl
 c80:=by kernel_rfl
 c85:=by kernel_rfl
 c127:=by kernel_rfl
 c143:=by kernel_rfl
 c145:=by kernel_rfl
 c167:=by kernel_rfl
 c168:=by kernel_rfl
 c171:=by kernel_rfl
 c173:=by kernel_rfl
 c175:=by kernel_rfl
 c210:=by kernel_rfl
 c212:=by kernel_rfl
 c213:=by kernel_rfl
 c232:=by kernel_rfl
 c233:=by kernel_rfl}
open Go.RowKit in
def Tryz.strconv_Atoi_ok(s:ByteArray)(hmax:s.size<=9223372036854775806)(v:Int)(h:Lib.atoiAll s.data.toList=.ok v)(w:World):
  Calls prog 155 #[.string s] w λe w'=>e=.returned (.tuple #[.int .i64 v,.nilIface])/\(w'=w\/∃t,w'=Lib.bytesWorld w 5 t):=Any.strconv_Atoi_ok Tryz.laysC172 s hmax v h w
open Go.RowKit in
def Tryz.strconv_Atoi_syntax_var(s:ByteArray)(XC:s.size<=281474976710656)(h:Lib.atoiAll s.data.toList=Lib.atoiAll [])(tp:TypeId)(p:Value)(w:World)(P6:w.var? prog "strconv.ErrSyntax"=some #[.iface tp p]):
  Calls prog 155 #[.string s] w λe w'=>∃N,e=.returned (.tuple #[.int .i64 0,.iface 230 (.pointer (some ⟨N,0,none⟩))])/\w.heap.size<=N/\w'.heap[N]?=some (.cells #[.string ⟨#[65,116,111,105]⟩,.string s,.iface tp p] 240 (0,0))/\Below w.heap.size w w':=Any.strconv_Atoi_syntax_var Tryz.laysC172 s XC h tp p w P6
open Go.RowKit in
def Tryz.strconv_Atoi_range_var(s:ByteArray)(XC:s.size<=281474976710656)(h:Lib.atoiAll s.data.toList=.range)(tp:TypeId)(p:Value)(w:World)(P6:w.var? prog "strconv.ErrRange"=some #[.iface tp p]):
  Calls prog 155 #[.string s] w λe w'=>∃N,e=.returned (.tuple #[.int .i64 (Lib.atoiSat s.data.toList),.iface 230 (.pointer (some ⟨N,0,none⟩))])/\w.heap.size<=N/\w'.heap[N]?=some (.cells #[.string ⟨#[65,116,111,105]⟩,.string s,.iface tp p] 240 (0,0))/\Below w.heap.size w w':=Any.strconv_Atoi_range_var Tryz.laysC172 s XC h tp p w P6
def Tryz.lays99_ren:Go.Shelf.Ren:=⟨fun|99=>156|206=>166|n=>n,fun|9=>9|4=>4|3=>3|n=>n,fun|n=>n⟩
def Tryz.lays99:Go.Proofs.Lays.n99 prog Tryz.lays99_ren:=⟨by kernel_rfl,Zt func156,Zt func166,underlying3,isAgg3,sizeOf3,zeroValue3,underlying4,isAgg4,sizeOf4,zeroValue4,underlying9,isAgg9,sizeOf9,zeroValue9⟩
open Go.RowKit Go.Lib in
def Tryz.strings_HasPrefix(s p:ByteArray)(w:World):
  Calls prog 156 #[.string s,.string p] w λe w'=>e=.returned (.bool (Lib.hasPrefix s.data.toList p.data.toList))/\w'=w:=Any.strings_HasPrefix Tryz.lays99 s p w
def Tryz.lays264_ren:Go.Shelf.Ren:=⟨fun|264=>151|n=>n,fun|53=>208|46=>220|n=>n,fun|n=>n⟩
def Tryz.lays264:Go.Proofs.Lays.n264 prog Tryz.lays264_ren:=⟨by kernel_rfl,Zt func151,underlying220,isAgg220,sizeOf220,zeroValue220,underlying208,isAgg208,sizeOf208,zeroValue208⟩
open Go.RowKit Go.Lib in
def Tryz.bits_Mul64(x y:Nat)(hx:x<18446744073709551616)(hy:y<18446744073709551616)(w:World):
  Calls prog 151 #[.int .u64 x,.int .u64 y] w λe w'=>e=.returned (.tuple #[.int .u64 ((x*y / 18446744073709551616:Nat):Int),.int .u64 ((x*y % 18446744073709551616:Nat):Int)])/\w'=w:=Any.bits_Mul64 Tryz.lays264 x y hx hy w
def Tryz.lays110_ren:Go.Shelf.Ren:=⟨fun|110=>97|109=>137|n=>n,fun|31=>43|9=>9|4=>4|3=>3|0=>0|n=>n,fun|n=>n⟩
def Tryz.lays110:Go.Proofs.Lays.n110 prog Tryz.lays110_ren:=⟨by kernel_rfl,Zt func137,Zt func97,underlying0,isAgg0,sizeOf0,zeroValue0,underlying3,isAgg3,sizeOf3,zeroValue3,underlying4,isAgg4,sizeOf4,zeroValue4,underlying9,isAgg9,sizeOf9,zeroValue9,underlying43,isAgg43,sizeOf43,zeroValue43⟩
open Go.Lib in
def Tryz.slices_Contains_string(b off n c:Nat)(zs:List ByteArray)(x:ByteArray)(w:World)(hz:n<=zs.length)(L7:n<=9223372036854775807)(hc:∀j,j<zs.length->w.cell? ⟨b,off+j,none⟩=some (.string (zs.getD j ByteArray.empty))):
  Calls prog 97 #[.slice (some ⟨b,off,none⟩) n c,.string x] w λe w'=>e=.returned (.bool (Lib.containsS (zs.take n) x))/\w'=w:=Any.slices_Contains_string Tryz.lays110 b off n c zs x w hz L7 hc
open Go.Lib in
def Tryz.slices_Contains_string_empty(a:Option Addr)(c:Nat)(x:ByteArray)(w:World):
  Calls prog 97 #[.slice a 0 c,.string x] w λe w'=>e=.returned (.bool false)/\w'=w:=Any.slices_Contains_string_empty Tryz.lays110 a c x w
def Tryz.lays111_ren:Go.Shelf.Ren:=⟨fun|111=>60|n=>n,fun|28=>29|3=>3|4=>4|0=>0|n=>n,fun|n=>n⟩
def Tryz.lays111:Go.Proofs.Lays.n111 prog Tryz.lays111_ren:=⟨by kernel_rfl,Zt func60,underlying0,isAgg0,sizeOf0,zeroValue0,underlying3,isAgg3,sizeOf3,zeroValue3,underlying4,isAgg4,sizeOf4,zeroValue4,underlying29,isAgg29,sizeOf29,zeroValue29⟩
open Go.RowKit Go.Lib in
def Tryz.slices_Equal_int(b1 o1 n c b2 o2 m d:Nat)(xs ys:List Int)(w:World)(hx:n<=xs.length)(hy:m<=ys.length)(L7:n<=9223372036854775807)(RA:m<=9223372036854775807)(hc1:∀j,j<xs.length->w.cell? ⟨b1,o1+j,none⟩=some (.int .i64 (xs.getD j 0)))(S1:∀j,j<ys.length->w.cell? ⟨b2,o2+j,none⟩=some (.int .i64 (ys.getD j 0))):
  Calls prog 60 #[.slice (some ⟨b1,o1,none⟩) n c,.slice (some ⟨b2,o2,none⟩) m d] w λe w'=>e=.returned (.bool (xs.take n==ys.take m))/\∃q,w'=w.drewN q:=Any.slices_Equal_int Tryz.lays111 b1 o1 n c b2 o2 m d xs ys w hx hy L7 RA hc1 S1
open Go.RowKit Go.Lib in
def Tryz.slices_Equal_int_empty(a1 a2:Option Addr)(c m d:Nat)(w:World)(RA:m<=9223372036854775807):
  Calls prog 60 #[.slice a1 0 c,.slice a2 m d] w λe w'=>e=.returned (.bool (decide (m=0)))/\w'=w:=Any.slices_Equal_int_empty Tryz.lays111 a1 a2 c m d w RA
open Go.RowKit Go.Lib in
def Tryz.slices_Equal_int_lens(a1 a2:Option Addr)(n c m d:Nat)(w:World)(T4:n≠m):
  Calls prog 60 #[.slice a1 n c,.slice a2 m d] w λe w'=>e=.returned (.bool false)/\w'=w:=Any.slices_Equal_int_lens Tryz.lays111 a1 a2 n c m d w T4
end Go.Proofs
namespace Go.Proofs.YtfafpklefknomaaGreatDoor
open Go Go.Lib
open _root_.Go.Proofs.Tryz
set_option linter.all false
set_option maxRecDepth 100000
set_option maxHeartbeats 32000000
def Qbc(a:Int):Prop:=-9223372036854775808<=a/\a<=9223372036854775807
def Qbm(l:List UInt8)(lo hi:Int):Option Int:=
 match Lib.atoiAll l with
 |.ok n=>if Lib.itoa n=l/\lo<=n/\n<=hi then some n else none
 |_=>none
def JeB{l:List UInt8}{lo hi m:Int}(h:Qbm l lo hi=some m):itoa m=l/\Qbc m/\lo<=m/\m<=hi:=by
 unfold Qbm at h;split at h
 ·rename_i n hn;have hb:=atoiAll_bounds hn;split at h
  ·rename_i hc;injection h with h;subst h;exact⟨hc.1,hb,hc.2⟩
  ·cases h
 ·cases h
open Go.ChangeShapes Go.WideShapes Go.ChangeAt Go.RowKit Go.Lib
def Qcx(w:World)(n:Int)(e:Ending)(w':World):Prop:=e=.returned (.int .i64 n)/\Below w.heap.size w w'
variable{g fuel B n k base e size:Nat}
def Ke{a w:World}(h:Below B a w)(n:Nat):Below B a (w.drewN n):=⟨h.os,h.tape,h.output,h.size,h.block⟩
def QgK(w:World)(n:Int)(ok:Bool)(e:Ending)(w':World):Prop:=e=.returned (.tuple #[.int .i64 n,.bool ok])/\Below w.heap.size w w'
def Qei(v:Value)(w:World)(e:Ending)(w':World):Prop:=e=.returned v/\w=w'
def bs(l:List UInt8):ByteArray:=⟨l.toArray⟩
abbrev By:=List UInt8
abbrev Iv(n:Int):Value:=.int .i64 n
abbrev Sv(s:By):Value:=.string (bs s)
abbrev Nl:Value:=.slice none 0 0
abbrev Em:Value:=.string ⟨#[]⟩
abbrev Pt(b:Nat):Value:=.pointer (some ⟨b,0,none⟩)
abbrev yr(w W:World):Prop:=Go.RowKit.Below w.heap.size w W
abbrev yV(W:World)(b:Nat)(v0 v1 v2 v3 v4:Value):Prop:=W.cell? ⟨b,0,none⟩=some v0/\W.cell? ⟨b,1,none⟩=some v1/\W.cell? ⟨b,2,none⟩=some v2/\W.cell? ⟨b,3,none⟩=some v3/\W.cell? ⟨b,4,none⟩=some v4
abbrev yW(W:World)(b:Nat)(v0 v1 v2 v3 v4 v5 v6:Value):Prop:=W.cell? ⟨b,0,none⟩=some v0/\W.cell? ⟨b,1,none⟩=some v1/\W.cell? ⟨b,2,none⟩=some v2/\W.cell? ⟨b,3,none⟩=some v3/\W.cell? ⟨b,4,none⟩=some v4/\W.cell? ⟨b,5,none⟩=some v5/\W.cell? ⟨b,6,none⟩=some v6
abbrev yX(W:World)(b:Nat)(v0 v1 v2 v3:Value):Prop:=W.cell? ⟨b,0,none⟩=some v0/\W.cell? ⟨b,1,none⟩=some v1/\W.cell? ⟨b,2,none⟩=some v2/\W.cell? ⟨b,3,none⟩=some v3
abbrev yY(W:World)(b:Nat)(v0 v1 v2:Value):Prop:=W.cell? ⟨b,0,none⟩=some v0/\W.cell? ⟨b,1,none⟩=some v1/\W.cell? ⟨b,2,none⟩=some v2
abbrev yZ(W:World)(b:Nat)(v0 v1 v2 v3 v4 v5:Value):Prop:=W.cell? ⟨b,0,none⟩=some v0/\W.cell? ⟨b,1,none⟩=some v1/\W.cell? ⟨b,2,none⟩=some v2/\W.cell? ⟨b,3,none⟩=some v3/\W.cell? ⟨b,4,none⟩=some v4/\W.cell? ⟨b,5,none⟩=some v5
abbrev xd(W:World)(b:Nat)(v0 v1 v2 v3 v4 v5 v6 v7 v8 v9 v10 v11:Value):Prop:=W.cell? ⟨b,0,none⟩=some v0/\W.cell? ⟨b,1,none⟩=some v1/\W.cell? ⟨b,2,none⟩=some v2/\W.cell? ⟨b,3,none⟩=some v3/\W.cell? ⟨b,4,none⟩=some v4/\W.cell? ⟨b,5,none⟩=some v5/\W.cell? ⟨b,6,none⟩=some v6/\W.cell? ⟨b,7,none⟩=some v7/\W.cell? ⟨b,8,none⟩=some v8/\W.cell? ⟨b,9,none⟩=some v9/\W.cell? ⟨b,10,none⟩=some v10/\W.cell? ⟨b,11,none⟩=some v11
abbrev xe(W:World)(b:Nat)(v0 v1 v2 v3:Value)(p:Prop):Prop:=W.cell? ⟨b,0,none⟩=some v0/\W.cell? ⟨b,1,none⟩=some v1/\W.cell? ⟨b,2,none⟩=some v2/\W.cell? ⟨b,3,none⟩=some v3/\p
abbrev xg(W:World)(b:Nat)(v0 v1 v2:Value)(p:Prop):Prop:=W.cell? ⟨b,0,none⟩=some v0/\W.cell? ⟨b,1,none⟩=some v1/\W.cell? ⟨b,2,none⟩=some v2/\p
abbrev xh(W:World)(b:Nat)(v0 v1 v2 v3 v4 v5 v6 v7 v8 v9 v10 v11:Value)(p:Prop):Prop:=W.cell? ⟨b,0,none⟩=some v0/\W.cell? ⟨b,1,none⟩=some v1/\W.cell? ⟨b,2,none⟩=some v2/\W.cell? ⟨b,3,none⟩=some v3/\W.cell? ⟨b,4,none⟩=some v4/\W.cell? ⟨b,5,none⟩=some v5/\W.cell? ⟨b,6,none⟩=some v6/\W.cell? ⟨b,7,none⟩=some v7/\W.cell? ⟨b,8,none⟩=some v8/\W.cell? ⟨b,9,none⟩=some v9/\W.cell? ⟨b,10,none⟩=some v10/\W.cell? ⟨b,11,none⟩=some v11/\p
abbrev za(a0 a1:Int)(a2:By)(a3:Int)(a4:Option Addr)(b4 c4:Nat):Array Value:=#[Iv a0,Iv a1,Sv a2,Iv a3,.slice a4 b4 c4]
abbrev zg(a0 a1:Int)(a2:By)(a3:Option Addr)(b3 c3:Nat):Array Value:=#[Iv a0,Iv a1,Sv a2,.slice a3 b3 c3]
abbrev zm(a0:Option Addr)(b0 c0:Nat)(a1:Option Addr)(b1 c1:Nat)(a2:Option Addr)(b2 c2:Nat)(a3:Option Addr)(b3 c3:Nat):Array Value:=#[.slice a0 b0 c0,.slice a1 b1 c1,.slice a2 b2 c2,.slice a3 b3 c3]
abbrev zV(a0:Option Addr)(b0 c0:Nat)(a1 a2 a3 a4 a5 a6 a7 a8:Int)(a9 a10:Bool)(a11:Option Addr)(b11 c11:Nat):Array Value:=#[.slice a0 b0 c0,Iv a1,Iv a2,Iv a3,Iv a4,Iv a5,Iv a6,Iv a7,Iv a8,.bool a9,.bool a10,.slice a11 b11 c11]
abbrev zY(a0:Option Addr)(b0 c0:Nat)(a1:Option Addr)(b1 c1:Nat)(a2:Int):Array Value:=#[.slice a0 b0 c0,.slice a1 b1 c1,Iv a2]
abbrev zZ(a0:By)(a1:Option Addr)(b1 c1:Nat)(a2 a3 a4:Int)(a5:By)(a6:Option Addr)(b6 c6:Nat):Array Value:=#[Sv a0,.slice a1 b1 c1,Iv a2,Iv a3,Iv a4,Sv a5,.slice a6 b6 c6]
abbrev yd(a0:Int)(a1:By)(a2 a3:Int):Array Value:=#[Iv a0,Sv a1,Iv a2,Iv a3]
abbrev ye(a0 a1:Int)(a2:By):Array Value:=#[Iv a0,Iv a1,Sv a2]
abbrev yg(a0 a1:Int)(a2:By)(a3:Option Addr)(b3 c3:Nat)(a4:Int)(a5:By):Array Value:=#[Iv a0,Iv a1,Sv a2,.slice a3 b3 c3,Iv a4,Sv a5]
abbrev yh(a0:Int)(a1:Value)(a2 a3:Int):Array Value:=#[Iv a0,a1,Iv a2,Iv a3]
abbrev yi(a0 a1:Int)(a2:By)(a3:Int)(a4:Option Addr)(b4 c4:Nat)(a5 a6:Int)(a7:By)(a8:Int)(a9:Option Addr)(b9 c9:Nat):Array Value:=#[Iv a0,Iv a1,Sv a2,Iv a3,.slice a4 b4 c4,Iv a5,Iv a6,Sv a7,Iv a8,.slice a9 b9 c9]
abbrev yj(a0 a1:Int)(a2:Value)(a3:Int)(a4:Value):Array Value:=#[Iv a0,Iv a1,a2,Iv a3,a4]
abbrev yk(a0 a1:Int)(a2:Value)(a3:Int)(a4:Option Addr)(b4 c4:Nat):Array Value:=#[Iv a0,Iv a1,a2,Iv a3,.slice a4 b4 c4]
abbrev yl(a0:Value)(a1:Option Addr)(b1 c1:Nat)(a2 a3 a4:Int)(a5:Value)(a6:Option Addr)(b6 c6:Nat):Array Value:=#[a0,.slice a1 b1 c1,Iv a2,Iv a3,Iv a4,a5,.slice a6 b6 c6]
abbrev ym(a0 a1:Int)(a2:By)(a3:Int)(a4:Value):Array Value:=#[Iv a0,Iv a1,Sv a2,Iv a3,a4]
abbrev yo(a0:Bool)(a1:Int)(a2:Option Addr)(b2 c2:Nat):Array Value:=#[.bool a0,Iv a1,.slice a2 b2 c2]
abbrev yp(a0 a1:Int)(a2:By)(a3:Value):Array Value:=#[Iv a0,Iv a1,Sv a2,a3]
abbrev yq(a0 a1:Int):Array Value:=#[Iv a0,Iv a1]
def JJ(l:By):(bs l).size=l.length:=by simp[bs,ByteArray.size]
def Zv(s:ByteArray):∃l,s=bs l:=⟨s.data.toList,by simp[bs]⟩
def Jj(l:By):(bs l).toList=l:=by rw[ByteArray.toList_eq];simp[bs]
def V5(l:By):(bs l).data.toList=l:=by simp[bs]
structure Laid(w:World):Prop where
 tab:Lib.TabIs prog w "internal/strconv.uint64pow10" .u64 Lib.pow10Tab
 syn:∃tp p,w.var? prog "strconv.ErrSyntax"=some #[.iface tp p]
 ran:∃tp p,w.var? prog "strconv.ErrRange"=some #[.iface tp p]
 size:5<=w.heap.size
def Qkr:prog.globalNamed "strconv.ErrSyntax"=some 1:=zk
def Qks:prog.globalNamed "strconv.ErrRange"=some 2:=zk
def Qkq:prog.globalNamed "internal/strconv.uint64pow10"=some 0:=zk
variable{w' W W':World}
def Laid.below{w:World}(h:Laid w)(hb:Below w.heap.size w w'):Laid w':=by
 have hs:=h.size;refine⟨?_,?_,?_,Nat.le_trans h.size hb.size⟩
 ·exact TabIs_below Qkq h.tab hb
 ·obtain⟨tp,p,hv⟩:=h.syn;exact⟨tp,p,var?_below hb Qkr zo hv⟩
 ·obtain⟨tp,p,hv⟩:=h.ran;exact⟨tp,p,var?_below hb Qks zo hv⟩
def QeB(w:World)(l:By)(e:Ending)(w':World):Prop:=e=.returned (Sv l)/\Below w.heap.size w w'
def Jjm(n:Int)(w:World)(hn:Qbc n)(hL:Laid w):Calls prog 46 #[Iv n] w (QeB w (Lib.itoa n)):=by
 have c:Calls prog 109 #[Iv n] w (QeB w (Lib.itoa n)):=(Tryz.strconv_Itoa n hn.1 hn.2 w hL.tab).mono (by
  rintro e w' ⟨rfl,k,os,rfl⟩
  exact⟨rfl,below_grown_sl _ w k os (Nat.le_refl _)⟩)
 go_enter func46,ntmps46;go_wp2_with (go_at_call 109;refine c.mono ?_;rintro e w1 ⟨rfl,hb⟩);go_ret;exact⟨rfl,hb⟩
def Qiz{P:Prop}(h:P:=by
  go_enter func130,ntmps130;go_wp2_with (first|(go_at_call 155;refine c.mono ?_;rintro e w1 ⟨rfl,L1⟩)|(go_at_call 46;refine(Jjm n _ hwf (hL.below L1)).mono ?_;rintro e w2 ⟨rfl,I0⟩));go_ret2
  exact⟨by rw[hP.o];rfl,L1.trans (I0.mono L1.size)⟩):P:=h
def Qju{P:Prop}(h:P:=by
  have hP:Hi (Qbm l lo hi=none):=by unfold Hi Qbm;rw[ha]
  go_enter func130,ntmps130;go_wp2_with (go_at_call 155;refine c.mono ?_;rintro e w1 ⟨N,rfl,L1⟩);go_ret2
  exact⟨by rw[hP.o];rfl,L1⟩):P:=h
def JgH(l:By)(lo hi:Int)(w:World)(hl:l.length<=281474976710656)(hL:Laid w):
  Calls prog 130 #[Sv l,Iv lo,Iv hi] w (QgK w ((Qbm l lo hi).getD 0) (Qbm l lo hi).isSome):=by
 have hsz:(bs l).size<=281474976710656:=by rw[JJ];exact hl
 cases ha:Lib.atoiAll l with
 |ok n=>
  have c:Calls prog 155 #[Sv l] w (λe w'=>e=.returned (.tuple #[Iv n,.nilIface])/\Below w.heap.size w w'):=(Tryz.strconv_Atoi_ok (bs l) zo n (by rw[V5];exact ha) w).mono (by
   rintro e w' ⟨rfl,h⟩;refine⟨rfl,?_⟩
   rcases h with rfl|⟨t,rfl⟩
   ·exact zO
   ·exact⟨rfl,rfl,rfl,by rw[bytesWorld_size];omega,λk hk=>bytesWorld_at_old w 5 t k hk⟩)
  have hwf:Qbc n:=by have:=Lib.atoiAll_bounds ha;exact this
  have ht:=Jj l;have D8:=Jj (Lib.itoa n)
  by_cases heq:Lib.itoa n=l
  ·have hq:(Lib.itoa n==l)=true:=by simpa using heq
   by_cases h1:n<lo
   ·have hP:Hi (Qbm l lo hi=none):=by unfold Hi Qbm;rw[ha];simp only;rw[if_neg zo]
    have d1:decide (n<lo)=true:=zG h1;clear heq h1;exact Qiz
   ·have d1:decide (n<lo)=false:=zH h1
    by_cases h2:hi<n
    ·have hP:Hi (Qbm l lo hi=none):=by unfold Hi Qbm;rw[ha];simp only;rw[if_neg zo]
     have d2:decide (hi<n)=true:=zG h2;clear heq h1 h2;exact Qiz
    ·have hP:Hi (Qbm l lo hi=some n):=by unfold Hi Qbm;rw[ha];simp only;rw[if_pos ⟨heq,by omega,by omega⟩]
     have d2:decide (hi<n)=false:=zH h2;clear heq h1 h2;exact Qiz
  ·have hq:(Lib.itoa n==l)=false:=by simpa using heq
   have hP:Hi (Qbm l lo hi=none):=by unfold Hi Qbm;rw[ha];simp only;rw[if_neg (by rintro⟨h,_⟩;exact heq h)]
   clear heq;exact Qiz
 |range=>
  obtain⟨tp,p,hv⟩:=hL.ran
  have c:Calls prog 155 #[Sv l] w (λe w'=>∃N:Nat,e=.returned (.tuple #[Iv (Lib.atoiSat l),.iface 230 (Pt N)])/\Below w.heap.size w w'):=(Tryz.strconv_Atoi_range_var (bs l) hsz (by rw[V5];exact ha) tp p w hv).mono (by
   rintro e w' ⟨N,rfl,_,_,hb⟩
   exact⟨N,by rw[V5],hb⟩)
  exact Qju
 |_=>
  obtain⟨tp,p,hv⟩:=hL.syn
  have c:Calls prog 155 #[Sv l] w (λe w'=>∃N:Nat,e=.returned (.tuple #[Iv 0,.iface 230 (Pt N)])/\Below w.heap.size w w'):=(Tryz.strconv_Atoi_syntax_var (bs l) hsz (by rw[V5];exact ha) tp p w hv).mono (by
   rintro e w' ⟨N,rfl,_,_,hb⟩
   exact⟨N,rfl,hb⟩)
  exact Qju
def own:ownKnob prog.godebug=none:=zk
def Qgz:laidOutB prog=true:=zk
def Qbn:List (String×DataW Unit):=[("math/bits.deBruijn32tab",Rows.laid_math_bits_deBruijn32tab),("math/bits.deBruijn64tab",Rows.laid_math_bits_deBruijn64tab),("internal/strconv.uint64pow10",Rows.laid_internal_strconv_uint64pow10),("strconv.ErrRange",Rows.laid_strconv_ErrRange),("strconv.ErrSyntax",Rows.laid_strconv_ErrSyntax)]
def QkH:prog.globalNamed "math/bits.deBruijn64tab"=some 5:=zk
def JfD{P:Program}{n:String}{d:DataW Unit}{r:List (String×DataW Unit)}(hg:P.globalNamed n=some g)(h:laidMet P ((n,d)::r) W):g<W.heap.size:=by
 obtain⟨ps,⟨g',t',cs,xA,p,q,yA,zA,P6,hd,_,_⟩,_⟩:=h;obtain rfl:=Option.some.inj (hg.symm.trans yA);unfold World.var? at P6;rw[hg]at P6;simp only[Option.bind_some]at P6;refine Nat.lt_of_not_le λhn=>?_
 rw[Array.getElem?_eq_none hn]at P6
 cases P6
def JgI(h:laidMet prog Qbn W):Laid W:=by
 have h2:=h.tail;have h3:=h.tail.tail;have h4:=h3.tail;have h5:=h4.tail;have hsz:=JfD QkH h2;obtain⟨a1,s1,yA,_⟩:=laid_sentinel h4 (g:=2) (ti:=175) (tp:=244) (te:=246) Qks zk underlying175 (typeName_ptr_named (nm:="errors.errorString") zk zk zp) underlying244 underlying246 rfl rfl underlying9 zk zk;obtain⟨a2,s2,xA,_⟩:=laid_sentinel h5 (g:=1) (ti:=175) (tp:=244) (te:=246) Qkr zk underlying175 (typeName_ptr_named (nm:="errors.errorString") zk zk zp) underlying244 underlying246 rfl rfl underlying9 zk zk;refine⟨?_,⟨_,_,xA⟩,⟨_,_,yA⟩,by omega⟩;exact Lib.tabIs_of_head (e:=208) (t:=233) (n:=20) (g:=0) Qkq zk underlying233 underlying208 zk zk h3
abbrev Qku:ByteArray:={data:=#[105,110,118,97,108,105,100,32,115,121,110,116,97,120]}
abbrev Qkv:ByteArray:={data:=#[118,97,108,117,101,32,111,117,116,32,111,102,32,114,97,110,103,101]}
def QiS:List Int:=[0,1,28,2,29,14,24,3,30,22,20,15,25,17,4,8,31,27,13,23,21,19,16,7,26,12,18,6,11,5,10,9]
def QiR:List Int:=[0,1,56,2,57,49,28,3,61,58,42,50,38,29,17,4,62,47,59,36,45,43,51,22,53,39,33,30,24,18,12,5,63,55,48,27,60,41,37,16,46,35,44,21,52,32,23,11,54,26,40,15,34,20,31,10,25,14,19,9,13,8,7,6]
noncomputable def low:Nat:=(World.holding prog default ⟨#[],#[],[]⟩).heap.size
noncomputable def put(c:Array Value):Obj->Obj
 |.cells _ t frozen=>.cells c t frozen
 |o=>o
noncomputable def QdD(os:Os):World:=
 let w0:=World.holding prog os ⟨#[.cells #[.string Qku] 246,.cells #[.string Qkv] 246],#[],[]⟩
 {w0 with heap:=((((w0.heap.modify 1 (put #[.iface 244 (Pt low)])).modify 2 (put #[.iface 244 (.pointer (some ⟨low+1,0,none⟩))])).modify 0 (put (Lib.pow10Tab.map λz=>Value.int .u64 z).toArray)).modify 4 (put (QiS.map λz=>Value.int .u8 z).toArray)).modify 5 (put (QiR.map λz=>Value.int .u8 z).toArray)}
def Yh(os:Os)(args:Array Value):laidMet prog Qbn ((QdD os).forCall (λ_ _=>0) ⟨#[],args,[]⟩).memory:=
 laidMet_of_run' 8 zk zk
variable{v:Value}
section
variable {H:Type}{enc:TypeId×Value->H}{P:Program}
def Jbi(hl:laidOutB P=true){sp:Nat->Bool}(hb:yr W W'):
  ∀(ts:List TypeId)(vs:List Value)(ds:List (DataW H))(ps:List MemPlace),(∀t,t∈ts->P.readableRec t=true/\t<P.types.size)->
   DataW.TrodAll enc P W 0 (λ_=>true) true ts vs ds ps->(∀x,x∈ps->x.block<W.heap.size)->(∀x,x∈ps->sp x.block=true)->
   DataW.TrodAll enc P W' 0 sp true ts vs ds ps:=by
 intro ts
 induction ts with
 |nil=>
  intro vs ds ps _ h _ _;obtain⟨rfl,rfl,rfl⟩:=trodAll_nil h;exact trodAll_mk0
 |cons t ts ih=>
  intro vs ds ps xA h hlt yA;obtain⟨v,zA,d,uA,p,q,rfl,rfl,rfl,h1,h2⟩:=trodAll_cons h;obtain⟨hr,hrow⟩:=xA t zq;refine trodAll_cons_mk (WideElems.Trod_stays hl hr hrow h1 (λx hx=>hb.same (hlt x (by simp[hx]))) λx hx=>yA x (by simp[hx])) ?_;exact ih _ _ _ (λt ht=>xA t (by simp[ht])) h2 (λx hx=>hlt x (by simp[hx])) λx hx=>yA x (by simp[hx])
def Jbj{f:Func}{s:ChangeSpec}{apart fresh handsOn again:Bool}{args:Array Value}{ds gs:List (DataW H)}{before pa pv:List MemPlace}
  (hW:DataW.Whole enc P f.params.toList s.vars apart W args.toList ds gs before)
  (lD:∀(b:Nat)(sp:Nat->Bool)(hd:Bool),DataW.TrodAll enc P W' b sp hd f.resultTypes.toList (v.resultList f.resultTypes.size) (s.fn H (ds++gs)).results [])
  (hargs:∀sp:Nat->Bool,(∀p∈before,sp p.block=true)->DataW.TrodAll enc P W' 0 sp true f.params.toList args.toList (s.fn H (ds++gs)).args pa)
  (hvars:∀sp:Nat->Bool,(∀p∈before,sp p.block=true)->DataW.TrodVars enc P W' sp s.vars (s.fn H (ds++gs)).vars pv)
  (hps:before=pa++pv) (hb:yr W W')
  (hok:∀(j:Nat)(t:TypeId)(r:Value),f.resultTypes[j]?=some t->(v.resultList f.resultTypes.size)[j]?=some r->Value.okWide P W' .any 0 t r):
  s.post enc P f apart fresh handsOn again W args v W':=by
 have hlt:∀p∈before,p.block<W.heap.size:=λp hp=>hW.lt p hp
 have xA:∀p∈before,(λb=>decide (b<W.heap.size)) p.block=true:=λp hp=>by simpa using hlt p hp
 refine⟨ds,gs,before,[],pa,pv,hW,lD _ _ _,hargs _ xA,hvars _ xA,World.keptBut_mono (λp hp=>⟨hp,?_⟩) (hb.frame (·∈before)),λ_=>?_⟩
 ·rw[hps,List.mem_append]at hp;exact Or.inr hp
 ·obtain⟨_,_,_,_,_,hz,hn⟩:=hW;refine⟨hok,_,_,([]++pa)++pv,⟨[]++pa,pv,trodAll_append (hargs _ λ_ _=>rfl) (lD _ _ _),hvars _ λ_ _=>rfl,rfl,?_,?_⟩,?_⟩
  ·intro b off hp;have yA:MemPlace.cell b off∈before:=by rw[hps];simpa using hp
   rw[hb.frozen (hlt _ yA)];exact hz b off yA
  ·intro ha;have:=hn ha;rw[hps]at this;simpa using this
  ·intro p hp _;rw[hps];simpa using hp
def Jjn{f:Func}{s:ChangeSpec}{apart fresh handsOn again:Bool}{args:Array Value}{ds gs:List (DataW H)}{before:List MemPlace}{tb:TypeId}
  (hl:laidOutB P=true) (hts:f.params.toList.all (λt=>P.readableRec t&&decide (t<P.types.size))=true) (hr:f.resultTypes=#[tb]) (hb:P.underlying tb=some .bool)
  (hvars:s.vars=[]) (hW:DataW.Whole enc P f.params.toList s.vars apart W args.toList ds gs before)
  (hfn:s.fn H (ds++gs)={results:=[.lit (.bool true)],args:=ds}) (hB:yr W W'):s.post enc P f apart fresh handsOn again W args (.bool true) W':=by
 have hlt:∀p∈before,p.block<W.heap.size:=λp hp=>hW.lt p hp
 have xA:=hW;obtain⟨p,q,hA,hV,rfl,hz,hn⟩:=xA;rw[hvars]at hV;obtain⟨rfl,rfl⟩:=trodVars_none hV;refine Jbj (pa:=p) (pv:=[]) hW ?_ ?_ ?_ rfl hB ?_
 ·intro b sp hd;rw[hfn,hr];exact trodAll_mk1 (shut_bool hb _)
 ·intro sp yA;rw[hfn]
  have h2:∀t,t∈f.params.toList->P.readableRec t=true/\t<P.types.size:=by
   intro t ht;have:=List.all_eq_true.1 hts t ht;simpa using this
  exact Jbi hl hB _ _ _ _ h2 hA (λx hx=>hlt x (by simp[hx])) λx hx=>yA x (by simp[hx])
 ·intro sp _;rw[hfn,hvars];exact rfl
 ·intro j t r h1 h2;rw[hr]at h1 h2
  cases j with
  |zero=>
   simp[Value.resultList]at h1 h2;subst h1;subst h2;exact okWide_bool_mk hb _
  |succ j=>simp at h1
end
def Qft(c:UInt8):Bool:=c==9||c==10||c==13||c==32
def Qef(c:UInt8):Bool:=decide (97<=c.toNat)&&decide (c.toNat<=122)
def Qgi(c:UInt8):Bool:=decide (48<=c.toNat)&&decide (c.toNat<=57)
def Qdw(c:UInt8):Bool:=Qef c||Qgi c||c==95
def QaS(l:By):By:=l.takeWhile Qdw
def Qbt:Nat->By->Option By
 |0,_=>none
 |_+1,[]=>none
 |f+1,c::r=>if c=34 then some [] else if c.toNat<32\/126<c.toNat\/c=92 then none else (Qbt f r).map (c::·)
def Qea:List By:=[[61,61],[33,61],[60,61],[62,61]]
def QcA:By:=[40,41,44,58,61,60,62,43,45,42,47,37]
def Qbk(l:By):By:=if l.take 2∈Qea then l.take 2 else if l.head?=none then [] else if l.headD 0∈QcA then [l.headD 0] else []
structure Tok where
 kind:Int
 text:By
 n:Int
 off:Int
deriving DecidableEq
def QcH(l:By):Option (Tok×Nat):=
 match l with
 |[]=>none
 |c::r=>
  if Qef c=true then (if (QaS l).length<=24 then some (⟨0,QaS l,0,0⟩,(QaS l).length) else none)
  else if Qgi c=true then (Qbm (QaS l) 0 1125899906842624).map λn=>(⟨1,[],n,0⟩,(QaS l).length)
  else if c=34 then (Qbt 25 r).map λw=>(⟨2,w,0,0⟩,w.length+2)
  else if Qbk l=[] then none else some (⟨3,Qbk l,0,0⟩,(Qbk l).length)
def wr(t:Tok):By:=if t.kind=1 then itoa t.n else if t.kind=2 then 34::(t.text++[34]) else t.text
def Zw(l:By):(QaS l).length<=l.length:=by
 unfold QaS;exact(List.takeWhile_prefix _).length_le
def JgJ(l:By):l.take (QaS l).length=QaS l:=by
 have h:QaS l <+: l:=List.takeWhile_prefix _;exact(List.prefix_iff_eq_take.1 h).symm
def Jdw{w r:By}(hw:∀c∈w,Qdw c=true)(hr:r.head?.map Qdw≠some true):QaS (w++r)=w:=by
 unfold QaS
 induction w with
 |nil=>
  cases r with
  |nil=>rfl
  |cons c r=>simp at hr;simp[hr]
 |cons c w ih=>
  rw[List.cons_append,List.takeWhile_cons_of_pos (hw c zq),ih λc h=>hw c (by simp[h])]
def VN:∀(f:Nat)(l w:By),Qbt f l=some w->w.length+1<=f/\w.length+1<=l.length/\l.take (w.length+1)=w++[34]:=by
 intro f
 induction f with
 |zero=>intro l w h;cases h
 |succ f ih=>
  intro l w h
  cases l with
  |nil=>cases h
  |cons c r=>
   simp only[Qbt]at h;split at h
   ·rename_i hc;injection h with h;subst h;subst hc;simp
   ·split at h
    ·cases h
    ·cases hr:Qbt f r with
     |none=>rw[hr]at h;cases h
     |some v=>
      rw[hr]at h;injection h with h;subst h;have:=ih r v hr;simp[this]
def JfE(l:By):(Qbk l∈Qea/\Qbk l=l.take 2)\/(l.take 2∉Qea/\∃c r,l=c::r/\c∈QcA/\Qbk l=[c])\/(Qbk l=[]):=by
 unfold Qbk
 by_cases h:l.take 2∈Qea
 ·rw[if_pos h];exact .inl ⟨h,rfl⟩
 ·rw[if_neg h]
  cases l with
  |nil=>exact .inr (.inr rfl)
  |cons c r=>
   by_cases hc:c∈QcA
   ·refine .inr (.inl ⟨h,c,r,rfl,hc,?_⟩);simp[hc]
   ·refine .inr (.inr ?_);simp[hc]
def JgK{w:By}(h:w∈Qea):w.length=2:=by
 simp[Qea]at h
 rcases h with rfl|rfl|rfl|rfl<;>rfl
def Jbk(l:By):(Qbk l).length<=l.length/\(Qbk l).length<=2/\l.take (Qbk l).length=Qbk l:=by
 rcases JfE l with⟨h,e⟩|⟨_,c,r,rfl,hc,e⟩|e
 ·have:=JgK h;rw[this];refine⟨?_,by omega,e.symm⟩;rw[e]at this;simp at this;omega
 ·rw[e];simp
 ·rw[e];simp
def QhC{P:Prop}(h:P:=by
  refine⟨by rw[hw,JgJ],?_,Zw _,by rw[hw]⟩;have hwo:Qdw c=true:=by simp[Qdw,hc]
  unfold QaS;rw[List.takeWhile_cons_of_pos hwo]
  simp):P:=h
variable{l:By}
def JbW{t:Tok}(h:QcH l=some (t,n)):wr t=l.take n/\1<=n/\n<=l.length/\(wr t).length=n:=by
 cases l with
 |nil=>cases h
 |cons c r=>
  simp only[QcH]at h;split at h
  ·rename_i hc;split at h
   ·rename_i P9;injection h with h;injection h with h1 h2;subst h1;subst h2;have hw:wr ⟨0,QaS (c::r),0,0⟩=QaS (c::r):=rfl;exact QhC
   ·cases h
  ·split at h
   ·rename_i hc
    cases hp:Qbm (QaS (c::r)) 0 1125899906842624 with
    |none=>rw[hp]at h;cases h
    |some m=>
     rw[hp]at h;injection h with h;injection h with h1 h2;subst h1;subst h2;have hw:wr ⟨1,[],m,0⟩=QaS (c::r):=(JeB hp).1;exact QhC
   ·split at h
    ·rename_i hc
     cases hp:Qbt 25 r with
     |none=>rw[hp]at h;cases h
     |some w=>
      rw[hp]at h;injection h with h;injection h with h1 h2;subst h1;subst h2;obtain⟨_,h3,h4⟩:=VN _ _ _ hp;have hw:wr ⟨2,w,0,0⟩=34::(w++[34]):=rfl;refine⟨?_,by omega,by simp;omega,by rw[hw];simp⟩;rw[hw,hc,List.take_succ_cons,h4]
    ·split at h
     ·cases h
     ·rename_i hs;injection h with h;injection h with h1 h2;subst h1;subst h2;have hw:wr ⟨3,Qbk (c::r),0,0⟩=Qbk (c::r):=rfl;obtain⟨h1,_,h3⟩:=Jbk (c::r);refine⟨by rw[hw,h3],?_,h1,by rw[hw]⟩
      cases hz:Qbk (c::r) with
      |nil=>exact absurd hz hs
      |cons a b=>simp
def Zx{t:Tok}(h:QcH l=some (t,n)):0<=t.kind/\t.kind<=3/\t.text.length<=24/\0<=t.n/\t.n<=1125899906842624/\t.off=0:=by
 cases l with
 |nil=>cases h
 |cons c r=>
  simp only[QcH]at h;split at h
  ·split at h
   ·rename_i P9;injection h with h;injection h with h1 h2;subst h1;exact⟨by simp,by simp,P9,by simp,by simp,rfl⟩
   ·cases h
  ·split at h
   ·cases hp:Qbm (QaS (c::r)) 0 1125899906842624 with
    |none=>rw[hp]at h;cases h
    |some m=>
     rw[hp]at h;injection h with h;injection h with h1 h2;subst h1;have:=JeB hp;exact⟨by simp,by simp,by simp,this.2.2.1,this.2.2.2,rfl⟩
   ·split at h
    ·cases hp:Qbt 25 r with
     |none=>rw[hp]at h;cases h
     |some w=>
      rw[hp]at h;injection h with h;injection h with h1 h2;subst h1;have:=VN _ _ _ hp;exact⟨by simp,by simp,by show w.length<=24;omega,by simp,by simp,rfl⟩
    ·split at h
     ·cases h
     ·injection h with h;injection h with h1 h2;subst h1;have:=(Jbk (c::r)).2.1;exact⟨by simp,by simp,by show (Qbk (c::r)).length<=24;omega,by simp,by simp,rfl⟩
inductive QeV where
 |ok (l:List Tok)
 |err (k:Nat)
def QeV.push(t:Tok):QeV->QeV
 |.ok l=>.ok (t::l)
 |.err k=>.err k
def QdY:Nat->Nat->By->QeV
 |0,k,_=>.ok [⟨4,[],0,k⟩]
 |_+1,k,[]=>.ok [⟨4,[],0,k⟩]
 |f+1,k,c::r=>
  if Qft c=true then QdY f (k+1) r
  else match QcH (c::r) with
   |none=>.err k
   |some (t,n)=>(QdY f (k+n) ((c::r).drop n)).push {t with off:=k}
def JfF:∀(f g k:Nat)(l:By),l.length<=f->l.length<=g->QdY f k l=QdY g k l:=by
 intro f
 induction f with
 |zero=>
  intro g k l h1 h2;obtain rfl:l=[]:=List.eq_nil_of_length_eq_zero zo
  cases g<;>rfl
 |succ f ih=>
  intro g k l h1 h2
  cases l with
  |nil=>cases g<;>rfl
  |cons c r=>
   cases g with
   |zero=>simp at h2
   |succ g=>
    simp only[length_cons]at h1 h2;simp only[QdY];split
    ·exact ih g _ r zo zo
    ·cases hp:QcH (c::r) with
     |none=>rfl
     |some x=>
      obtain⟨t,n⟩:=x;have:=(JbW hp).2.1;simp only;rw[ih g _ _ zr zr]
def sc(k:Nat)(l:By):QeV:=QdY l.length k l
def JeC(k:Nat):sc k []=.ok [⟨4,[],0,k⟩]:=rfl
def Jjo(k:Nat){c:UInt8}(r:By)(h:Qft c=true):sc k (c::r)=sc (k+1) r:=by
 unfold sc;simp only[length_cons,QdY];rw[if_pos h]
def Jbl(k:Nat){c:UInt8}(r:By)(h:Qft c=false)(ht:QcH (c::r)=none):sc k (c::r)=.err k:=by
 unfold sc;simp only[length_cons,QdY];rw[if_neg (by simp[h]),ht]
def Jbm(k:Nat){c:UInt8}(r:By){t:Tok}(h:Qft c=false)(ht:QcH (c::r)=some (t,n)):sc k (c::r)=(sc (k+n) ((c::r).drop n)).push {t with off:=k}:=by
 have:=(JbW ht).2.1;unfold sc;simp only[length_cons,QdY];rw[if_neg (by simp[h]),ht];simp only;rw[JfF _ ((c::r).drop n).length _ _ zr (Nat.le_refl _)]
def Jbn{P:Nat->By->Prop}(h0:∀k,P k [])(h1:∀k c r,Qft c=true->P (k+1) r->P k (c::r))(h2:∀k c r,Qft c=false->QcH (c::r)=none->P k (c::r))
  (h3:∀k c r t n,Qft c=false->QcH (c::r)=some (t,n)->1<=n->n<=(c::r).length->P (k+n) ((c::r).drop n)->P k (c::r)):∀l k,P k l:=by
 have h:∀m (l:By) k,l.length<=m->P k l:=by
  intro m
  induction m with
  |zero=>
   intro l k hl;obtain rfl:l=[]:=List.eq_nil_of_length_eq_zero zo;exact h0 k
  |succ m ih=>
   intro l k hl
   cases l with
   |nil=>exact h0 k
   |cons c r=>
    simp only[length_cons]at hl
    cases hs:Qft c with
    |true=>exact h1 k c r hs (ih r _ zo)
    |false=>
     cases ht:QcH (c::r) with
     |none=>exact h2 k c r hs ht
     |some x=>
      obtain⟨t,n⟩:=x;have hw:=JbW ht;exact h3 k c r t n hs ht hw.2.1 hw.2.2.1 (ih _ _ zr)
 intro l k;exact h _ l k (Nat.le_refl _)
def tab(f:Nat->Nat):Array Value:=((List.range 256).map λi=>Value.int .u8 (f i:Nat)).toArray
def Ko(f:Nat->Nat):(tab f).size=256:=by simp[tab]
def YN(f:Nat->Nat){i:Nat}(h:i<256):(tab f)[i]?=some (.int .u8 (f i:Nat)):=by
 simp[tab,h]
def Zy(f:Nat->Nat)(j v:Nat):(tab f).setIfInBounds j (.int .u8 (v:Nat))=tab (λi=>if i=j then v else f i):=by
 apply Array.ext_getElem?;intro i;rw[Array.getElem?_setIfInBounds,Ko]
 by_cases BG:j=i
 ·subst BG;rw[if_pos rfl]
  by_cases h:j<256
  ·rw[if_pos h,YN _ h,if_pos rfl]
  ·rw[if_neg h,Array.getElem?_eq_none (by rw[Ko];omega)]
 ·rw[if_neg BG]
  by_cases h:i<256
  ·rw[YN _ h,YN _ h,if_neg λe=>BG e.symm]
  ·rw[Array.getElem?_eq_none (by rw[Ko];omega),Array.getElem?_eq_none (by rw[Ko];omega)]
variable{f:Nat->Nat}
def Vu{g:Nat->Nat}(h:∀i,i<256->f i=g i):tab f=tab g:=by
 unfold tab
 congr 1
 apply List.map_congr_left;intro i hi;rw[h i (by simpa using hi)]
def zf:Nat->Nat:=λ_=>0
def Jbo:Tryz.zeroCells131=tab zf:=zk
def g1(k i:Nat):Nat:=if (i=9/\0<k)\/(i=10/\1<k)\/(i=13/\2<k)\/(i=32/\3<k) then 1 else 0
def g2(k i:Nat):Nat:=if 97<=i/\i<97+k then 2 else g1 4 i
def g3(k i:Nat):Nat:=if 48<=i/\i<48+k then 3 else g2 26 i
def QbV(i:Nat):Nat:=if i=34 then 5 else if i=95 then 4 else g3 10 i
def QkK:tab zf=tab (g1 0):=Vu λi _=>by simp[g1,zf]
def QkJ:tab (g1 4)=tab (g2 0):=Vu λi _=>by unfold g2;rw[if_neg zo]
def QkI:tab (g2 26)=tab (g3 0):=Vu λi _=>by unfold g3;rw[if_neg zo]
def Qiu{P:Prop}(h:P:=by
  rw[show (1:Int)=((1:Nat):Int) from rfl,Zy]
  exact Vu λi _=>by unfold g1;(repeat' split)<;>omega):P:=h
def Jlx:(tab (g1 0)).setIfInBounds 9 (.int .u8 1)=tab (g1 1):=by
 exact Qiu
def Jly:(tab (g1 1)).setIfInBounds 10 (.int .u8 1)=tab (g1 2):=by
 exact Qiu
def Jlz:(tab (g1 2)).setIfInBounds 13 (.int .u8 1)=tab (g1 3):=by
 exact Qiu
def JlA:(tab (g1 3)).setIfInBounds 32 (.int .u8 1)=tab (g1 4):=by
 exact Qiu
def Jno(k:Nat):(tab (g2 k)).setIfInBounds (97+k) (.int .u8 2)=tab (g2 (k+1)):=by
 rw[show (2:Int)=((2:Nat):Int) from rfl,Zy];exact Vu λi _=>by unfold g2;(repeat' split)<;>first|rfl|omega
def Jnp(k:Nat):(tab (g3 k)).setIfInBounds (48+k) (.int .u8 3)=tab (g3 (k+1)):=by
 rw[show (3:Int)=((3:Nat):Int) from rfl,Zy];exact Vu λi _=>by unfold g3;(repeat' split)<;>first|rfl|omega
def g4(i:Nat):Nat:=if i=95 then 4 else g3 10 i
def Jnq:(tab (g3 10)).setIfInBounds 95 (.int .u8 4)=tab g4:=by
 rw[show (4:Int)=((4:Nat):Int) from rfl,Zy];exact Vu λi _=>by unfold g4;split<;>rfl
def JlB:(tab g4).setIfInBounds 34 (.int .u8 5)=tab QbV:=by
 rw[show (5:Int)=((5:Nat):Int) from rfl,Zy];exact Vu λi _=>by unfold QbV g4;split<;>rfl
structure CW(B:Nat)(w wr:World)(f:Nat->Nat):Prop where
 t1:wr.heap[B+1]?=some (.cells (tab f) 131 (0,0))
 t0:wr.heap[B]?=some (.cells (tab zf) 131 (0,0))
 sz:B+2<=wr.heap.size
 bl:Below B w wr
def CW.set{w wr:World}{g:Nat->Nat}(h:CW B w wr f)(j:Nat)(v:Int)(e:(tab f).setIfInBounds j (.int .u8 v)=tab g):CW B w (wr.setCell ⟨B+1,j,none⟩ (.int .u8 v)) g:=by
 refine⟨?_,?_,?_,h.bl.setCell zq _⟩
 ·rw[heap_setCell_same _ _ _ _ _ _ h.t1,e]
 ·rw[heap_setCell_other _ _ _ _ zq,h.t0]
 ·have:=h.sz;simpa[World.setCell] using this
def CW.c1{w wr:World}(h:CW B w wr f){j:Nat}(hj:j<256):wr.cell? ⟨B+1,j,none⟩=some (.int .u8 (f j:Nat)):=by
 rw[cell_of_row _ _ _ _ _ _ h.t1,YN _ hj]
def CW.f1{w wr:World}(h:CW B w wr f)(j:Nat):wr.frozen? ⟨B+1,j,none⟩=false:=frozen_of_row _ _ _ _ _ h.t1
def JgL(f:Nat->Nat):(tab f).all (·.oneCell')=true:=by
 rw[Array.all_eq_true_iff_forall_mem];intro x hx;simp only[tab,List.mem_toArray,List.mem_map]at hx;obtain⟨i,_,rfl⟩:=hx;rfl
def QeS:(prog.info? 131).map (·.size)=some 256:=zk
def Qhj{P:Prop}(h:P:=by
  clear hC;go_wp2;go_roundw
  case rel=>exact⟨k+1,by omega,by go_num,HC.o⟩
  case measure=>simp[intOf];omega):P:=h
def Jdx(w:World):Calls prog 84 #[] w (λe w'=>e=.returned (.agg (tab QbV))/\Below w.heap.size w w'):=by
 obtain⟨B,hB⟩:∃B,w.heap.size=B:=⟨_,rfl⟩
 rw[hB];have aA:=Joins.run_convert_bytes_const_at (P:=prog) ((w.alloc (.cells Tryz.zeroCells131 131)).alloc (.cells Tryz.zeroCells131 131)) 60 5 #[.int .u8 9,.int .u8 10,.int .u8 13,.int .u8 32] 4 4 (B+1+1) (by simp[hB]) underlying60 underlying5;go_enter func84,ntmps84;go_wp2;obtain⟨W,hW⟩:∃W,W=((w.alloc (.cells Tryz.zeroCells131 131)).alloc (.cells Tryz.zeroCells131 131)).alloc (.cells #[.int .u8 9,.int .u8 10,.int .u8 13,.int .u8 32] 5 (4,5)):=⟨_,rfl⟩
 have hC:CW B w W (g1 0):=by
  have s1:(w.alloc (.cells Tryz.zeroCells131 131)).heap.size=B+1:=by simp[hB]
  have s2:((w.alloc (.cells Tryz.zeroCells131 131)).alloc (.cells Tryz.zeroCells131 131)).heap.size=B+2:=by simp[hB]
  refine⟨?_,?_,?_,?_⟩
  ·rw[hW,heap_alloc_old _ _ zo,<-s1,zQ,Jbo,QkK]
  ·rw[hW,heap_alloc_old _ _ zo,heap_alloc_old _ _ zo,<-hB,zQ,Jbo]
  ·rw[hW];simp[hB]
  ·rw[hW];exact((zO.alloc zo _).alloc zo _).alloc zo _
 have hD:W.heap[B+1+1]?=some (.cells #[.int .u8 9,.int .u8 10,.int .u8 13,.int .u8 32] 5 (4,5)):=by
  have s2:((w.alloc (.cells Tryz.zeroCells131 131)).alloc (.cells Tryz.zeroCells131 131)).heap.size=B+1+1:=by simp[hB]
  rw[hW,<-s2,zQ]
 have bA:B+2<W.heap.size:=by rw[hW];simp[hB]
 rw[<-hW];clear hW aA;go_loopw [9] (λv wr=>∃k:Nat,k<=4/\v=Iv k/\CW B w wr (g1 k)/\wr.heap[B+1+1]?=some (.cells #[.int .u8 9,.int .u8 10,.int .u8 13,.int .u8 32] 5 (4,5))) λv _=>4-(intOf v).toNat
 case atStart=>exact⟨0,by omega,rfl,hC,hD⟩
 case round=>
  obtain⟨k,hk,rfl,hC,hD⟩:=hrel;have zA:=λj=>cell_of_row wr _ j _ _ _ hD
  by_cases hlt:k<4
  ·rcases (by omega:k=0\/k=1\/k=2\/k=3) with rfl|rfl|rfl|rfl
   ·have q1:=zA 0;have q2:=hC.c1 (j:=9) zo;have q3:=hC.f1 9;clear zA;have yA:=hC.set 9 1 Jlx;have xA:=(heap_setCell_other wr ⟨B+1,9,none⟩ (B+1+1) (.int .u8 1) zq).trans hD;have HC:=Zh yA;have HD:=Zh xA;clear hC hD yA xA;go_wp2;go_roundw
    case rel=>exact⟨1,by omega,rfl,HC.o,HD.o⟩
    case measure=>simp[intOf]
   ·have q1:=zA 1;have q2:=hC.c1 (j:=10) zo;have q3:=hC.f1 10;clear zA;have yA:=hC.set 10 1 Jly;have xA:=(heap_setCell_other wr ⟨B+1,10,none⟩ (B+1+1) (.int .u8 1) zq).trans hD;have HC:=Zh yA;have HD:=Zh xA;clear hC hD yA xA;go_wp2;go_roundw
    case rel=>exact⟨2,by omega,rfl,HC.o,HD.o⟩
    case measure=>simp[intOf]
   ·have q1:=zA 2;have q2:=hC.c1 (j:=13) zo;have q3:=hC.f1 13;clear zA;have yA:=hC.set 13 1 Jlz;have xA:=(heap_setCell_other wr ⟨B+1,13,none⟩ (B+1+1) (.int .u8 1) zq).trans hD;have HC:=Zh yA;have HD:=Zh xA;clear hC hD yA xA;go_wp2;go_roundw
    case rel=>exact⟨3,by omega,rfl,HC.o,HD.o⟩
    case measure=>simp[intOf]
   ·have q1:=zA 3;have q2:=hC.c1 (j:=32) zo;have q3:=hC.f1 32;clear zA;have yA:=hC.set 32 1 JlA;have xA:=(heap_setCell_other wr ⟨B+1,32,none⟩ (B+1+1) (.int .u8 1) zq).trans hD;have HC:=Zh yA;have HD:=Zh xA;clear hC hD yA xA;go_wp2;go_roundw
    case rel=>exact⟨4,by omega,rfl,HC.o,HD.o⟩
    case measure=>simp[intOf]
  ·obtain rfl:k=4:=zo;clear zA hD;have hC:CW B w wr (g2 0):=⟨by rw[<-QkJ];exact hC.t1,hC.t0,hC.sz,hC.bl⟩
   have HC:=Zh hC;clear hC;go_wp2;obtain⟨w2,rfl⟩:=zJ wr;go_loopw [4] (λv wr=>∃k:Nat,k<=26/\v=.int .i32 (97+k)/\CW B w wr (g2 k)) λv _=>123-(intOf v).toNat
   case atStart=>exact⟨0,by omega,rfl,HC.o⟩
   case round=>
    clear HC;obtain⟨k,hk,rfl,hC⟩:=hrel
    by_cases hlt:k<26
    ·have q2:=hC.c1 (j:=97+k) zo;have q3:=hC.f1 (97+k);have HC:=Zh (hC.set (97+k) 2 (Jno k));have e1:(97+(k:Int)).toNat=97+k:=zo;exact Qhj
    ·obtain rfl:k=26:=zo;have hC:CW B w wr (g3 0):=⟨by rw[<-QkI];exact hC.t1,hC.t0,hC.sz,hC.bl⟩
     have HC:=Zh hC;clear hC;go_wp2;obtain⟨w3,rfl⟩:=zJ wr;go_loopw [5] (λv wr=>∃k:Nat,k<=10/\v=.int .i32 (48+k)/\CW B w wr (g3 k)) λv _=>58-(intOf v).toNat
     case atStart=>exact⟨0,by omega,rfl,HC.o⟩
     case round=>
      clear HC;obtain⟨k,hk,rfl,hC⟩:=hrel
      by_cases hlt:k<10
      ·have q2:=hC.c1 (j:=48+k) zo;have q3:=hC.f1 (48+k);have HC:=Zh (hC.set (48+k) 3 (Jnp k));have e1:(48+(k:Int)).toNat=48+k:=zo;exact Qhj
      ·obtain rfl:k=10:=zo;have q2:=hC.c1 (j:=95) zo;have q3:=hC.f1 95;have uA:=hC.set 95 4 Jnq;have q4:=uA.c1 (j:=34) zo;have q5:=uA.f1 34;have vA:=uA.set 34 5 JlB;have HC:=Zh vA;clear hC uA vA;have hu:(match (TypeDesc.array 256 5) with|.struct _|.array _ _=>true|_=>false)=true:=rfl
       go_wp2_with (first
        |(refine wpList_load_row rfl 131 (.tmp 1) rfl (B+1) rfl 131 (tab QbV) (0,0) _ HC.o.t1 underlying131 zt (by rw[Ko];exact QeS) ?_)
        |(refine wpList_store_row rfl 131 (.tmp 0) (.tmp 30) rfl B (tab QbV) rfl rfl 131 (tab zf) HC.o.t0 (by rw[Ko];exact QeS) (by rw[Ko,Ko]) (JgL _) ?_))
       refine bodyPost_ret (v:=.agg (tab QbV)) (results_cell_row rfl _ _ B 131 (tab QbV) (0,0) _ rfl (setRow_heap _ B (tab zf) _ 131 (0,0) HC.o.t0) underlying131 rfl (by rw[Ko];exact QeS)) rfl ⟨rfl,?_⟩;exact below_setRow HC.o.bl (Nat.le_refl _) _
def er(t:Tok):Tok:={t with off:=0}
def Jdy{t:Tok}{s:QeV}{l:List Tok}(h:s.push t=.ok l):∃r,s=.ok r/\l=t::r:=by
 cases s with
 |ok r=>simp only[QeV.push]at h;injection h with h;exact⟨r,rfl,h.symm⟩
 |err k=>cases h
def JlC:∀(l:By)(k:Nat)(ts:List Tok),sc k l=.ok ts->∃us,ts=us++[⟨4,[],0,(k+l.length:Nat)⟩]/\(∀t∈us,0<=t.kind/\t.kind<=3/\t.text.length<=24/\0<=t.n/\t.n<=1125899906842624)/\(∀t∈ts,(k:Int)<=t.off/\t.off<=k+l.length):=by
 refine Jbn (P:=λk l=>∀ts,sc k l=.ok ts->_) ?_ ?_ ?_ ?_
 ·intro k ts h;rw[JeC]at h;injection h with h;subst h;exact⟨[],rfl,by simp,by simp⟩
 ·intro k c r hs ih ts h;rw[Jjo k r hs]at h;obtain⟨us,h1,h2,h3⟩:=ih ts h;refine⟨us,by rw[h1];simp;omega,h2,λt ht=>?_⟩;have:=h3 t ht;simp only[List.length_cons];omega
 ·intro k c r hs ht ts h;rw[Jbl k r hs ht]at h
  cases h
 ·intro k c r t n hs ht h1 hn ih ts h;rw[Jbm k r hs ht]at h;obtain⟨rs,hr,rfl⟩:=Jdy h;obtain⟨us,e1,e2,e3⟩:=ih rs hr;have hl:((c::r).drop n).length=(c::r).length-n:=List.length_drop;rw[hl]at e1 e3;have hf:=Zx ht;refine⟨{t with off:=k}::us,?_,?_,?_⟩
  ·rw[e1];simp only[List.cons_append]
   congr 5
   omega
  ·intro x hx
   rcases List.mem_cons.1 hx with rfl|hx
   ·exact⟨hf.1,hf.2.1,hf.2.2.1,hf.2.2.2.1,hf.2.2.2.2.1⟩
   ·exact e2 x hx
  ·intro x hx
   rcases List.mem_cons.1 hx with rfl|hx
   ·exact⟨Int.le_refl _,by show (k:Int)<=_;omega⟩
   ·have:=e3 x hx;omega
def Va(l:By)(a b:Nat):(bs l).extract a b=bs ((l.drop a).take (b-a)):=by
 apply ByteArray.ext;simp[bs,ByteArray.data_extract]
def JlD(l:By)(h:k<l.length):∀h',((bs l)[k]'h').toNat=(l[k]'h).toNat:=by
 intro h';simp only[bs];rfl
def Qdz(w:World)(p:Nat):Prop:=∀i,i<256->w.cell? ⟨p,i,none⟩=some (.int .u8 (QbV i:Nat))
def Jlc{c:UInt8}:Qft c=true↔QbV c.toNat=1:=by
 have:=c.toNat_lt;simp only[Qft,QbV,g3,g2,g1,Bool.or_eq_true,beq_iff_eq,<-UInt8.toNat_inj]
 repeat' split
 all_goals simp
 all_goals omega
def JgM{c:UInt8}:Qef c=true↔QbV c.toNat=2:=by
 have:=c.toNat_lt;simp only[Qef,QbV,g3,g2,g1,Bool.and_eq_true,decide_eq_true_eq]
 repeat' split
 all_goals first|omega|(simp;omega)
def JgN{c:UInt8}:Qgi c=true↔QbV c.toNat=3:=by
 have:=c.toNat_lt;simp only[Qgi,QbV,g3,g2,g1,Bool.and_eq_true,decide_eq_true_eq]
 repeat' split
 all_goals first|omega|(simp;omega)
def Jnr{c:UInt8}:c=95↔QbV c.toNat=4:=by
 have:=c.toNat_lt;rw[<-UInt8.toNat_inj];simp only[QbV,g3,g2,g1]
 show c.toNat=95↔_
 repeat' split
 all_goals omega
def Jld{c:UInt8}:c=34↔QbV c.toNat=5:=by
 have:=c.toNat_lt;rw[<-UInt8.toNat_inj];simp only[QbV,g3,g2,g1]
 show c.toNat=34↔_
 repeat' split
 all_goals omega
def Jns{c:UInt8}:Qdw c=true↔QbV c.toNat=2\/QbV c.toNat=3\/QbV c.toNat=4:=by
 rw[<-JgM,<-JgN,<-Jnr];simp[Qdw,or_assoc]
def JgO(h:∀c∈l.take k,Qdw c=true)(hn:(l.drop k).head?.map Qdw≠some true):QaS l=l.take k:=by
 have:=Jdw h hn
 rwa [List.take_append_drop]at this
def QiH{P:Prop}(h:P:=by
  go_wp2;go_quiet (fail);go_wp2;go_roundw
  case rel=>exact⟨k+1,_,by omega,by go_num,H,by first|rfl|(simp;rfl)⟩
  case measure=>simp[intOf];omega):P:=h
def Zz(l:By)(p:Nat)(w:World)(hC:Qdz w p)(hl:l.length<=281474976710656):Calls prog 129 #[Pt p,Sv l] w (QeB w (QaS l)):=by
 have hs:=JJ l;go_enter func129,ntmps129;go_wp2;go_loopw [5] (λv wr=>∃k n:Nat,k<=l.length/\v=Iv k/\Hi (∀c∈l.take k,Qdw c=true)/\wr=w.drewN n) λv _=>l.length-(intOf v).toNat
 case atStart=>exact⟨0,0,by omega,rfl,by unfold Hi;simp,rfl⟩
 case round=>
  obtain⟨k,n,hk,rfl,HA,rfl⟩:=hrel;have fin:Hi ((l.drop k).head?.map Qdw≠some true)->Hi (QaS l=l.take k):=λh=>JgO HA.o h.o
  have zA:(bs l).extract 0 k=bs (l.take k):=by rw[Va];simp
  by_cases hlt:k<l.length
  ·have d1:decide ((k:Int)<(l.length:Int))=true:=zG zo;have hg:=JlD l hlt;have hx:l[k].toNat<256:=l[k].toNat_lt;have xA:=hC _ hx;have HW:=Zh (Jns (c:=l[k]))
   have HN:Qdw l[k]=true->Hi (∀c∈l.take (k+1),Qdw c=true):=by
    intro h c hc;rw[List.take_succ_eq_append_getElem hlt,List.mem_append]at hc
    rcases hc with hc|hc
    ·exact HA.o c hc
    ·rw[List.mem_singleton]at hc;rw[hc];exact h
   have HF:Qdw l[k]=false->Hi ((l.drop k).head?.map Qdw≠some true):=by
    intro h;unfold Hi;rw[List.drop_eq_getElem_cons hlt,List.head?_cons,Option.map_some,h];simp
   obtain⟨x,yA⟩:=yt (l[k].toNat)
   rw[yA]at hg xA HW hx;clear yA
   by_cases h2:QbV x=2
   ·have H:=HN (HW.o.2 (.inl h2));rw[h2]at xA;clear HN HF fin h2 HW hC;exact QiH
   ·by_cases h3:QbV x=3
    ·have H:=HN (HW.o.2 (.inr (.inl h3)));rw[h3]at xA;clear HN HF fin h2 h3 HW hC;exact QiH
    ·by_cases h4:QbV x=4
     ·have H:=HN (HW.o.2 (.inr (.inr h4)));rw[h4]at xA;clear HN HF fin h2 h3 h4 HW hC;exact QiH
     ·have hno:Qdw l[k]=false:=by
       cases h:Qdw l[k]with
       |false=>rfl
       |true=>rcases HW.o.1 h with h|h|h<;>contradiction
      have H:=fin (HF hno);generalize QbV x=cn at*;have e2:((cn:Int)==2)=false:=zM zo;have e3:((cn:Int)==3)=false:=zM zo;have e4:((cn:Int)==4)=false:=zM zo;clear HN HF fin h2 h3 h4 HW hC hno;go_wp2;go_quiet (fail);go_wp2;go_ret;exact⟨by rw[H.o];rfl,Ke zO _⟩
  ·have d1:decide ((k:Int)<(l.length:Int))=false:=zH zo;have H:=fin (by unfold Hi;rw[List.drop_eq_nil_of_le zo];simp);clear fin hC;go_wp2;go_quiet (fail);go_wp2;go_ret;exact⟨by rw[H.o];rfl,Ke zO _⟩
def Jjp:∀(k f:Nat)(l:By),(∀c∈l.take k,c≠34/\¬(c.toNat<32\/126<c.toNat\/c=92))->k<=l.length->k<=f->Qbt f l=(Qbt (f-k) (l.drop k)).map (l.take k++·):=by
 intro k
 induction k with
 |zero=>
  intro f l _ _ _;simp only[Nat.sub_zero,List.drop_zero,List.take_zero]
  cases Qbt f l<;>simp
 |succ k ih=>
  intro f l h hl hf
  cases l with
  |nil=>simp at hl
  |cons c r=>
   obtain⟨g,rfl⟩:∃g,f=g+1:=⟨f-1,by omega⟩
   have hc:=h c zq;simp only[Qbt];rw[if_neg hc.1,if_neg hc.2,ih g r (λd hd=>h d (by simp[hd])) (by simpa using hl) zo];rw[show g+1-(k+1)=g-k by omega];simp only[List.drop_succ_cons,List.take_succ_cons]
   cases Qbt (g-k) (r.drop k)<;>simp
def QeU(o:Option By)(w:World)(e:Ending)(w':World):Prop:=e=.returned (.tuple #[Sv (o.getD []),.bool o.isSome])/\w=w'
def zAa{P:Prop}(h:P:=by
  go_wp2;go_ret2;exact⟨by rw[H.o];rfl,rfl⟩):P:=h
def Jdz(l:By)(w:World)(hl:l.length<=281474976710656):Calls prog 131 #[Sv l] w (QeU (Qbt 25 l) w):=by
 have hs:=JJ l;have aA:bs []=(⟨#[]⟩:ByteArray):=rfl;go_enter func131,ntmps131;go_wp2;go_loop [4] (λv=>∃k:Nat,k<=l.length/\k<=25/\v=Iv k/\Hi (∀c∈l.take k,c≠34/\¬(c.toNat<32\/126<c.toNat\/c=92))) λv=>l.length-(intOf v).toNat
 case atStart=>exact⟨0,by omega,by omega,rfl,by unfold Hi;simp⟩
 case round=>
  obtain⟨k,hk,vA,rfl,HA⟩:=hrel;have dA:(bs l).extract 0 k=bs (l.take k):=by rw[Va];simp
  have HT:=Zh (Jjp k 25 l HA.o hk vA);have xA:Hi (Qbt 25 l=none)->Hi (QeU (Qbt 25 l) w (.returned (.tuple #[Em,.bool false])) w):=λh=>⟨by rw[h.o];rfl,rfl⟩
  by_cases hlt:k<l.length
  ·have d1:decide ((k:Int)<(l.length:Int))=true:=zG zo
   by_cases hlt2:k<25
   ·have d2:decide ((k:Int)<=24)=true:=zG zo;have hg:=JlD l hlt;have hx:l[k].toNat<256:=l[k].toNat_lt
    have HD:Hi (Qbt 25 l=if l[k]=34 then some (l.take k) else if l[k].toNat<32\/126<l[k].toNat\/l[k]=92 then none else Qbt 25 l):=by
     unfold Hi;have h1:=HT.o;rw[List.drop_eq_getElem_cons hlt,show 25-k=(24-k)+1 by omega]at h1;simp only[Qbt]at h1;split
     ·rename_i hq;rw[if_pos hq]at h1;rw[h1];simp
     ·rename_i hq;rw[if_neg hq]at h1;split
      ·rename_i hb;rw[if_pos hb]at h1;rw[h1];rfl
      ·rfl
    have HN:l[k]≠34->¬(l[k].toNat<32\/126<l[k].toNat\/l[k]=92)->Hi (∀c∈l.take (k+1),c≠34/\¬(c.toNat<32\/126<c.toNat\/c=92)):=by
     intro h1 h2 c hc;rw[List.take_succ_eq_append_getElem hlt,List.mem_append]at hc
     rcases hc with hc|hc
     ·exact HA.o c hc
     ·rw[List.mem_singleton]at hc;rw[hc];exact⟨h1,h2⟩
    have zA:l[k]=34↔l[k].toNat=34:=⟨λh=>by rw[h];rfl,λh=>UInt8.toNat_inj.1 h⟩
    have uA:l[k]=92↔l[k].toNat=92:=⟨λh=>by rw[h];rfl,λh=>UInt8.toNat_inj.1 h⟩
    simp only[Ne,zA,uA]at HN HD;obtain⟨x,yA⟩:=yt (l[k].toNat)
    rw[yA]at hg HD HN hx;clear yA zA uA HT
    by_cases WB:x=34
    ·have H:Hi (Qbt 25 l=some (l.take k)):=by unfold Hi;rw[HD.o,if_pos WB]
     subst WB;clear HD HN xA;exact zAa
    ·have bA:((x:Int)==34)=false:=zM zo
     by_cases EF:x<32
     ·have H:Hi (Qbt 25 l=none):=by unfold Hi;rw[HD.o,if_neg WB,if_pos (.inl EF)]
      have b1:decide ((x:Int)<32)=true:=zG zo;clear HD HN xA WB EF;exact zAa
     ·have b1:decide ((x:Int)<32)=false:=zH zo
      by_cases AC:126<x
      ·have H:Hi (Qbt 25 l=none):=by unfold Hi;rw[HD.o,if_neg WB,if_pos (.inr (.inl AC))]
       have b2:decide (126<(x:Int))=true:=zG zo;clear HD HN xA WB EF AC;exact zAa
      ·have b2:decide (126<(x:Int))=false:=zH zo
       by_cases CG:x=92
       ·have H:Hi (Qbt 25 l=none):=by unfold Hi;rw[HD.o,if_neg WB,if_pos (.inr (.inr CG))]
        subst CG;clear HD HN xA;exact zAa
       ·have cA:((x:Int)==92)=false:=zM zo;have H:=HN WB zo;clear HD HN xA WB EF AC CG;go_wp2;go_round
        case rel=>exact⟨k+1,by omega,by omega,by go_num,H⟩
        case measure=>simp[intOf];omega
   ·have d2:decide ((k:Int)<=24)=false:=zH zo;have H:Hi (Qbt 25 l=none):=by unfold Hi;rw[HT.o,show 25-k=0 by omega];rfl
    clear HT xA;exact zAa
  ·have d1:decide ((k:Int)<(l.length:Int))=false:=zH zo
   have H:Hi (Qbt 25 l=none):=by
    unfold Hi;rw[HT.o,List.drop_eq_nil_of_le zo]
    cases 25-k<;>rfl
   clear HT xA;exact zAa
def Qgx(l:By)(a b:UInt8):Lib.hasPrefix l [a,b]=decide (l.take 2=[a,b]):=by
 rw[<-Lib.hasPrefix_of_take]
 by_cases h:l.take 2=[a,b]
 ·have hl:2<=l.length:=by
   have:=congrArg List.length h;simp at this;omega
  simp[h,hl]
 ·have:(l.take 2==[a,b])=false:=by simpa using h
  simp only[List.length_cons,List.length_nil,this,Bool.and_false,h,decide_false]
def Jbp(l:By)(a b:UInt8)(w:World):Calls prog 156 #[Sv l,.string {data:=#[a,b]}] w (Qei (.bool (decide (l.take 2=[a,b]))) w):=by
 refine(Tryz.strings_HasPrefix (bs l) {data:=#[a,b]} w).mono ?_;rintro e w' ⟨rfl,rfl⟩;refine⟨?_,rfl⟩;rw[V5,<-Qgx]
def JlE(c:Nat)(hc:c<256)(w:World):Calls prog 157 #[.string {data:=#[40,41,44,58,61,60,62,43,45,42,47,37]},.int .u8 (c:Nat)] w (Qei (Iv (Lib.indexByte QcA c.toUInt8)) w):=by
 refine(Tryz.strings_IndexByte {data:=#[40,41,44,58,61,60,62,43,45,42,47,37]} (c:Nat) w).mono ?_;rintro e w' ⟨rfl,rfl⟩;exact⟨rfl,rfl⟩
def JlF(c:UInt8):0<=Lib.indexByte QcA c↔c∈QcA:=by
 have h:=Lib.contains_iff_indexByte QcA c;rw[Bool.eq_iff_iff,decide_eq_true_iff]at h;rw[<-h,List.contains_iff_mem]
def QhV{P:Prop}(h:P:=by
  generalize Lib.indexByte QcA c=z at*;clear hno hm HS;go_wp2_with fail;refine(hc _).mono ?_;rintro e w' ⟨rfl,rfl⟩;go_wp2;go_ret
  exact⟨by rw[HR.o];rfl,rfl⟩):P:=h
def JdA(c:UInt8)(r:By)(w:World)(hl:(c::r).length<=281474976710656):Calls prog 132 #[Sv (c::r)] w (Qei (Sv (Qbk (c::r))) w):=by
 obtain⟨l,hL⟩:∃l,l=c::r:=⟨_,rfl⟩
 have hg:∀h,((bs l)[0]'h).toNat=c.toNat:=by rw[hL];intro h;rfl
 have xA:l.length=r.length+1:=by rw[hL];rfl
 have uA:0<l.length:=zo;have vA:(bs l).extract 0 1=bs [c]:=by rw[Va,hL];simp
 have HS:Hi (Qbk l=if l.take 2∈Qea then l.take 2 else if c∈QcA then [c] else []):=by
  unfold Hi;rw[hL,Qbk];rw[if_neg (show ¬(c::r).head?=none by simp)];rfl
 rw[<-hL]at hl |-;have hs:=JJ l;clear hL xA;have hc:=JlE c.toNat c.toNat_lt;have zA:c.toNat.toUInt8=c:=zq;rw[zA]at hc;have HI:=Zh (JlF c);have i0:∀w,(Instr.index 178 (.agg #[.string {data:=#[61,61]},.string {data:=#[33,61]},.string {data:=#[60,61]},.string {data:=#[62,61]}]) (Iv 0)).run prog w=.ok (.string {data:=#[61,61]}) w:=λ_=>by kernel_rfl
 have i1:∀w,(Instr.index 178 (.agg #[.string {data:=#[61,61]},.string {data:=#[33,61]},.string {data:=#[60,61]},.string {data:=#[62,61]}]) (Iv 1)).run prog w=.ok (.string {data:=#[33,61]}) w:=λ_=>by kernel_rfl
 have i2:∀w,(Instr.index 178 (.agg #[.string {data:=#[61,61]},.string {data:=#[33,61]},.string {data:=#[60,61]},.string {data:=#[62,61]}]) (Iv 2)).run prog w=.ok (.string {data:=#[60,61]}) w:=λ_=>by kernel_rfl
 have i3:∀w,(Instr.index 178 (.agg #[.string {data:=#[61,61]},.string {data:=#[33,61]},.string {data:=#[60,61]},.string {data:=#[62,61]}]) (Iv 3)).run prog w=.ok (.string {data:=#[62,61]}) w:=λ_=>by kernel_rfl
 have b0:Hi ((⟨#[61,61]⟩:ByteArray)=bs [61,61]):=rfl;have b1:Hi ((⟨#[33,61]⟩:ByteArray)=bs [33,61]):=rfl;have b2:Hi ((⟨#[60,61]⟩:ByteArray)=bs [60,61]):=rfl;have b3:Hi ((⟨#[62,61]⟩:ByteArray)=bs [62,61]):=rfl;have b9:Hi ((⟨#[]⟩:ByteArray)=bs []):=rfl;generalize yA:c.toNat=x at*;have hx:x<256:=by rw[<-yA];exact c.toNat_lt
 clear yA zA;go_enter func132,ntmps132;go_wp2;go_loop [6,4] (λv _=>∃k:Nat,k<=4/\v=Iv k/\Hi ((0<k->l.take 2≠[61,61])/\(1<k->l.take 2≠[33,61])/\(2<k->l.take 2≠[60,61])/\(3<k->l.take 2≠[62,61]))) λv _=>4-(intOf v).toNat
 case atStart=>exact⟨0,by omega,rfl,by unfold Hi;refine⟨?_,?_,?_,?_⟩<;>(intro h;omega)⟩
 case round=>
  obtain⟨k,hk,rfl,HA⟩:=hrel
  by_cases hlt:k<4
  ·rcases (by omega:k=0\/k=1\/k=2\/k=3) with rfl|rfl|rfl|rfl
   ·go_wp2_with fail;refine(Jbp l 61 61 w).mono ?_
    by_cases h:l.take 2=[61,61]
    ·have HR:Hi (Qbk l=[61,61]):=by unfold Hi;rw[HS.o,if_pos (by rw[h];decide),h]
     have hd:decide (l.take 2=[61,61])=true:=zG h;rw[hd];rintro e w' ⟨rfl,rfl⟩;clear h hd;go_wp2;go_ret;exact⟨by rw[HR.o];unfold Sv;rw[<-b0.o];rfl,rfl⟩
    ·have H:Hi ((0<1->l.take 2≠[61,61])/\(1<1->l.take 2≠[33,61])/\(2<1->l.take 2≠[60,61])/\(3<1->l.take 2≠[62,61])):=⟨λ_=>h,by omega,by omega,by omega⟩
     have hd:decide (l.take 2=[61,61])=false:=zH h;rw[hd];rintro e w' ⟨rfl,rfl⟩;clear h hd;go_wp2;go_round
     case rel=>exact⟨1,by omega,rfl,H⟩
     case measure=>simp[intOf]
   ·go_wp2_with fail;refine(Jbp l 33 61 w).mono ?_
    by_cases h:l.take 2=[33,61]
    ·have HR:Hi (Qbk l=[33,61]):=by unfold Hi;rw[HS.o,if_pos (by rw[h];decide),h]
     have hd:decide (l.take 2=[33,61])=true:=zG h;rw[hd];rintro e w' ⟨rfl,rfl⟩;clear h hd;go_wp2;go_ret;exact⟨by rw[HR.o];unfold Sv;rw[<-b1.o];rfl,rfl⟩
    ·have H:Hi ((0<2->l.take 2≠[61,61])/\(1<2->l.take 2≠[33,61])/\(2<2->l.take 2≠[60,61])/\(3<2->l.take 2≠[62,61])):=⟨λ_=>HA.o.1 zo,λ_=>h,by omega,by omega⟩
     have hd:decide (l.take 2=[33,61])=false:=zH h;rw[hd];rintro e w' ⟨rfl,rfl⟩;clear h hd;go_wp2;go_round
     case rel=>exact⟨2,by omega,rfl,H⟩
     case measure=>simp[intOf]
   ·go_wp2_with fail;refine(Jbp l 60 61 w).mono ?_
    by_cases h:l.take 2=[60,61]
    ·have HR:Hi (Qbk l=[60,61]):=by unfold Hi;rw[HS.o,if_pos (by rw[h];decide),h]
     have hd:decide (l.take 2=[60,61])=true:=zG h;rw[hd];rintro e w' ⟨rfl,rfl⟩;clear h hd;go_wp2;go_ret;exact⟨by rw[HR.o];unfold Sv;rw[<-b2.o];rfl,rfl⟩
    ·have H:Hi ((0<3->l.take 2≠[61,61])/\(1<3->l.take 2≠[33,61])/\(2<3->l.take 2≠[60,61])/\(3<3->l.take 2≠[62,61])):=⟨λ_=>HA.o.1 zo,λ_=>HA.o.2.1 zo,λ_=>h,by omega⟩
     have hd:decide (l.take 2=[60,61])=false:=zH h;rw[hd];rintro e w' ⟨rfl,rfl⟩;clear h hd;go_wp2;go_round
     case rel=>exact⟨3,by omega,rfl,H⟩
     case measure=>simp[intOf]
   ·go_wp2_with fail;refine(Jbp l 62 61 w).mono ?_
    by_cases h:l.take 2=[62,61]
    ·have HR:Hi (Qbk l=[62,61]):=by unfold Hi;rw[HS.o,if_pos (by rw[h];decide),h]
     have hd:decide (l.take 2=[62,61])=true:=zG h;rw[hd];rintro e w' ⟨rfl,rfl⟩;clear h hd;go_wp2;go_ret;exact⟨by rw[HR.o];unfold Sv;rw[<-b3.o];rfl,rfl⟩
    ·have H:Hi ((0<4->l.take 2≠[61,61])/\(1<4->l.take 2≠[33,61])/\(2<4->l.take 2≠[60,61])/\(3<4->l.take 2≠[62,61])):=⟨λ_=>HA.o.1 zo,λ_=>HA.o.2.1 zo,λ_=>HA.o.2.2.1 zo,λ_=>h⟩
     have hd:decide (l.take 2=[62,61])=false:=zH h;rw[hd];rintro e w' ⟨rfl,rfl⟩;clear h hd;go_wp2;go_round
     case rel=>exact⟨4,by omega,rfl,H⟩
     case measure=>simp[intOf]
  ·obtain rfl:k=4:=zo
   have hno:l.take 2∉Qea:=by
    obtain⟨h1,h2,h3,h4⟩:=HA.o;simp[Qea];exact⟨h1 zo,h2 zo,h3 zo,h4 zo⟩
   by_cases hm:c∈QcA
   ·have HR:Hi (Qbk l=[c]):=by unfold Hi;rw[HS.o,if_neg hno,if_pos hm]
    have hd:decide (0<=Lib.indexByte QcA c)=true:=zG (HI.o.2 hm);exact QhV
   ·have HR:Hi (Qbk l=[]):=by unfold Hi;rw[HS.o,if_neg hno,if_neg hm]
    have hd:decide (0<=Lib.indexByte QcA c)=false:=zH λh=>hm (HI.o.1 h);exact QhV
def Qko(t:Tok):Array Value:=(yd t.kind t.text t.n t.off)
def Qdo(o:Option (Tok×Nat))(w:World)(e:Ending)(w':World):Prop:=
 (∃(t:Tok) (n:Int),e=.returned (.tuple #[.agg (Qko t),Iv n,.bool o.isSome])/\∀u k,o=some (u,k)->t=u/\n=(k:Nat))/\yr w w'
def Qdz.below{w:World}{p:Nat}(h:Qdz w p)(hb:yr w w')(hp:p<w.heap.size):Qdz w' p:=λi hi=>by
 rw[hb.cell (p:=⟨p,i,none⟩) hp];exact h i hi
def KY{o:Option (Tok×Nat)}{w:World}{t:Tok}{n:Int}{b:Bool}(hb:b=o.isSome)(h:∀u k,o=some (u,k)->t=u/\n=(k:Nat))(hB:yr w w'):
  Qdo o w (.returned (.tuple #[.agg (yd t.kind t.text t.n t.off),Iv n,.bool b])) w':=⟨⟨t,n,by rw[hb];rfl,h⟩,hB⟩
def JZ{P:Program}{fn:Func}{p a b:Tmp}{ty:TypeId}(h:fn.results=#[.cell p ty,.tmp a,.tmp b])(tmps:Array Value)(w:World)(g:Nat)(t:TypeId)(cs:Array Value)(fr:Nat×Nat)(d:TypeDesc)
  (hp:tmps.getD p undef=Pt g) (hg:w.heap[g]?=some (.cells cs t fr))
  (hu:P.underlying ty=some d) (hd:(match d with|.struct _|.array _ _=>true|_=>false)=true) (hi:(P.info? ty).map (·.size)=some cs.size):
  (results fn tmps).run P w=.ok (.tuple #[.agg cs,tmps.getD a undef,tmps.getD b undef]) w:=by
 have xA:tmps[p]?.getD undef=Pt g:=by simpa using hp
 simp[results,h,xA,asAddr,run_loadVar_row w g t ty cs fr d hg hu hd hi]
def QhT{P:Prop}(h:P:=by
  have h0:=heap_setCell_same _ _ 0 _ _ v0 h;have h1:=heap_setCell_same _ _ 1 _ _ v1 h0;have h2:=heap_setCell_same _ _ 2 _ _ v2 h1
  exact heap_setCell_same _ _ 3 _ _ v3 h2):P:=h
def Qgk{w:World}{T t:Nat}{a0 a1 a2 a3:Value}(v0 v1 v2 v3:Value)(h:w.heap[T]?=some (.cells #[a0,a1,a2,a3] t (0,0))):
  ((((w.setCell ⟨T,0,none⟩ v0).setCell ⟨T,1,none⟩ v1).setCell ⟨T,2,none⟩ v2).setCell ⟨T,3,none⟩ v3).heap[T]?=some (.cells #[v0,v1,v2,v3] t (0,0)):=by
 exact QhT
def Kt{w w1:World}{T:Nat}(v0 v1 v2 v3:Value)(h:Below B w w1)(hT:B<=T):Below B w ((((w1.setCell ⟨T,0,none⟩ v0).setCell ⟨T,1,none⟩ v1).setCell ⟨T,2,none⟩ v2).setCell ⟨T,3,none⟩ v3):=
 (((h.setCell hT v0).setCell hT v1).setCell hT v2).setCell hT v3
def Qds:(prog.info? 134).map (·.size)=some 4:=zk
section
variable (c:UInt8)(r:By)(p:Nat)(w:World)(hC:Qdz w p)(hp:p<w.heap.size)(hl:(c::r).length<=281474976710655)
include c r p w hC hp hl
theorem JbX(hc:Qef c=true)(hL:Laid w):
  Calls prog 85 #[Pt p,Sv (c::r)] w (Qdo (QcH (c::r)) w):=by
 have HF:Hi (QcH (c::r)=if (QaS (c::r)).length<=24 then some (⟨0,QaS (c::r),0,0⟩,(QaS (c::r)).length) else none):=by
  unfold Hi;simp only[QcH];rw[if_pos hc]
 obtain⟨l,yA⟩:∃l,l=c::r:=⟨_,rfl⟩
 have hg:∀h,((bs l)[0]'h).toNat=c.toNat:=by rw[yA];intro h;rfl
 have uA:l.length=r.length+1:=by rw[yA];rfl
 have cA:0<l.length:=zo;have xA:=hC c.toNat c.toNat_lt;rw[JgM.1 hc]at xA;have hx:c.toNat<256:=c.toNat_lt;rw[<-yA]at hl HF |-;have hs:=JJ l;have bA:=Zw l;clear yA uA;generalize c.toNat=x at*;have HC:=Zh hC;clear hC;go_enter func85,ntmps85;go_wp2;go_quiet (fail);go_wp2_with fail;obtain⟨W,hW⟩:∃W,W=(w.alloc (.cells (yh 0 Em 0 0) 134)).drewN nq:=⟨_,rfl⟩
 have zA:yr w W:=by rw[hW];exact Ke (zO.alloc zP _) _
 have g0:W.heap[w.heap.size]?=some (.cells (yh 0 Em 0 0) 134 (0,0)):=by rw[hW];exact zQ w _
 have z0:w.heap.size<W.heap.size:=by rw[hW];show _<(w.alloc _).heap.size;simp
 rw[<-hW];clear hW;have aA:=HC.o.below zA hp;refine(Zz l p W aA zo).mono ?_;rintro e w1 ⟨rfl,L1⟩;have g1:=(L1.block _ z0).trans g0;have hB:=zA.trans (L1.mono zA.size);have z1:w.heap.size<w1.heap.size:=Nat.lt_of_lt_of_le z0 L1.size;have eA:=JJ (QaS l);have G:=Zh g1;clear L1 zA g0 z0 aA HC g1
 by_cases P9:(QaS l).length<=24
 ·have HT:Hi (QcH l=some (⟨0,QaS l,0,0⟩,(QaS l).length)):=by unfold Hi;rw[HF.o,if_pos P9]
  clear HF xA;generalize vA:QaS l=wd at*;clear vA;have dA:decide ((wd.length:Int)<=24)=true:=zG zo;have q0:w1.cell? ⟨w.heap.size,0,none⟩=some (Iv 0):=by rw[cell_of_row _ _ _ _ _ _ G.o];rfl
  have q1:w1.cell? ⟨w.heap.size,1,none⟩=some Em:=by rw[cell_of_row _ _ _ _ _ _ G.o];rfl
  have q2:w1.cell? ⟨w.heap.size,2,none⟩=some (Iv 0):=by rw[cell_of_row _ _ _ _ _ _ G.o];rfl
  have q3:w1.cell? ⟨w.heap.size,3,none⟩=some (Iv 0):=by rw[cell_of_row _ _ _ _ _ _ G.o];rfl
  have f0:=frozen_of_row _ _ 0 _ _ G.o;have f1:=frozen_of_row _ _ 1 _ _ G.o;have f2:=frozen_of_row _ _ 2 _ _ G.o;have f3:=frozen_of_row _ _ 3 _ _ G.o;go_wp2_with fail;refine bodyPost_ret (JZ rfl _ _ w.heap.size 134 (yd 0 wd 0 0) (0,0) _ rfl (Qgk _ _ _ _ G.o) underlying134 rfl Qds) rfl ?_;rw[HT.o];exact KY (t:=⟨0,wd,0,0⟩) rfl (by intro u k h;injection h with h;injection h with h1 h2;subst h1;subst h2;exact⟨rfl,rfl⟩) (Kt _ _ _ _ hB zP)
 ·have HT:Hi (QcH l=none):=by unfold Hi;rw[HF.o,if_neg P9]
  clear HF xA;generalize vA:QaS l=wd at*;clear vA;have dA:decide ((wd.length:Int)<=24)=false:=zH zo;have q0:w1.cell? ⟨w.heap.size,0,none⟩=some (Iv 0):=by rw[cell_of_row _ _ _ _ _ _ G.o];rfl
  have q1:w1.cell? ⟨w.heap.size,1,none⟩=some Em:=by rw[cell_of_row _ _ _ _ _ _ G.o];rfl
  have q2:w1.cell? ⟨w.heap.size,2,none⟩=some (Iv 0):=by rw[cell_of_row _ _ _ _ _ _ G.o];rfl
  have q3:w1.cell? ⟨w.heap.size,3,none⟩=some (Iv 0):=by rw[cell_of_row _ _ _ _ _ _ G.o];rfl
  have f0:=frozen_of_row _ _ 0 _ _ G.o;have f1:=frozen_of_row _ _ 1 _ _ G.o;have f2:=frozen_of_row _ _ 2 _ _ G.o;have f3:=frozen_of_row _ _ 3 _ _ G.o;go_wp2_with fail;refine bodyPost_ret (JZ rfl _ _ w.heap.size 134 (yd 0 wd 0 0) (0,0) _ rfl (Qgk _ _ _ _ G.o) underlying134 rfl Qds) rfl ?_;rw[HT.o];exact KY (t:=⟨0,wd,0,0⟩) rfl (by intro u k h;cases h) (Kt _ _ _ _ hB zP)
theorem JdB(hc:Qgi c=true)(hc0:Qef c=false)(hL:Laid w):
  Calls prog 85 #[Pt p,Sv (c::r)] w (Qdo (QcH (c::r)) w):=by
 have HF:Hi (QcH (c::r)=(Qbm (QaS (c::r)) 0 1125899906842624).map λn=>(⟨1,[],n,0⟩,(QaS (c::r)).length)):=by
  unfold Hi;simp only[QcH];rw[if_neg (by simp[hc0]),if_pos hc]
 obtain⟨l,yA⟩:∃l,l=c::r:=⟨_,rfl⟩
 have hg:∀h,((bs l)[0]'h).toNat=c.toNat:=by rw[yA];intro h;rfl
 have uA:l.length=r.length+1:=by rw[yA];rfl
 have cA:0<l.length:=zo;have xA:=hC c.toNat c.toNat_lt;rw[JgN.1 hc]at xA;have hx:c.toNat<256:=c.toNat_lt;rw[<-yA]at hl HF |-;have hs:=JJ l;have aA:=Zw l;clear yA uA;generalize c.toNat=x at*;have HC:=Zh hC;clear hC;go_enter func85,ntmps85;go_wp2;go_quiet (fail);go_wp2_with fail;obtain⟨W,hW⟩:∃W,W=(w.alloc (.cells (yh 0 Em 0 0) 134)).drewN nq:=⟨_,rfl⟩
 have zA:yr w W:=by rw[hW];exact Ke (zO.alloc zP _) _
 have g0:W.heap[w.heap.size]?=some (.cells (yh 0 Em 0 0) 134 (0,0)):=by rw[hW];exact zQ w _
 have z0:w.heap.size<W.heap.size:=by rw[hW];show _<(w.alloc _).heap.size;simp
 rw[<-hW];clear hW;have vA:=HC.o.below zA hp;refine(Zz l p W vA zo).mono ?_;rintro e w1 ⟨rfl,L1⟩;have g1:=(L1.block _ z0).trans g0;have hB:=zA.trans (L1.mono zA.size);have z1:w.heap.size<w1.heap.size:=Nat.lt_of_lt_of_le z0 L1.size;have gA:=JJ (QaS l);have G:=Zh g1;clear L1 zA g0 z0 vA HC g1;have bA:(QaS l).length<=281474976710656:=zo;have cP:=JgH (QaS l) 0 1125899906842624 w1 bA (hL.below hB);have HP:∀o,Qbm (QaS l) 0 1125899906842624=o->Hi (QcH l=o.map λn=>(⟨1,[],n,0⟩,(QaS l).length)):=λo h=>by unfold Hi;rw[HF.o,h]
 clear HF xA;generalize dA:Qbm (QaS l) 0 1125899906842624=o at*;have HT:=HP o rfl;clear HP dA;generalize eA:QaS l=wd at*;clear eA
 cases o with
 |some m=>
  go_wp2_with fail;refine(Calls.mono cP ?_);rintro e w2 ⟨rfl,I0⟩;have G:=Zh ((I0.block _ z1).trans G.o);have hB:=hB.trans (I0.mono hB.size);clear I0 cP;have q0:w2.cell? ⟨w.heap.size,0,none⟩=some (Iv 0):=by rw[cell_of_row _ _ _ _ _ _ G.o];rfl
  have q1:w2.cell? ⟨w.heap.size,1,none⟩=some Em:=by rw[cell_of_row _ _ _ _ _ _ G.o];rfl
  have q2:w2.cell? ⟨w.heap.size,2,none⟩=some (Iv 0):=by rw[cell_of_row _ _ _ _ _ _ G.o];rfl
  have q3:w2.cell? ⟨w.heap.size,3,none⟩=some (Iv 0):=by rw[cell_of_row _ _ _ _ _ _ G.o];rfl
  have f0:=frozen_of_row _ _ 0 _ _ G.o;have f1:=frozen_of_row _ _ 1 _ _ G.o;have f2:=frozen_of_row _ _ 2 _ _ G.o;have f3:=frozen_of_row _ _ 3 _ _ G.o;go_wp2_with fail;refine bodyPost_ret (JZ rfl _ _ w.heap.size 134 (yh 1 (.string (⟨#[]⟩)) m 0) (0,0) _ rfl (Qgk _ _ _ _ G.o) underlying134 rfl Qds) rfl ?_;rw[HT.o];exact KY (t:=⟨1,[],m,0⟩) rfl (by intro u k h;injection h with h;injection h with h1 h2;subst h1;subst h2;exact⟨rfl,rfl⟩) (Kt _ _ _ _ hB zP)
 |none=>
  go_wp2_with fail;refine(Calls.mono cP ?_);rintro e w2 ⟨rfl,I0⟩;have G:=Zh ((I0.block _ z1).trans G.o);have hB:=hB.trans (I0.mono hB.size);clear I0 cP;have q0:w2.cell? ⟨w.heap.size,0,none⟩=some (Iv 0):=by rw[cell_of_row _ _ _ _ _ _ G.o];rfl
  have q1:w2.cell? ⟨w.heap.size,1,none⟩=some Em:=by rw[cell_of_row _ _ _ _ _ _ G.o];rfl
  have q2:w2.cell? ⟨w.heap.size,2,none⟩=some (Iv 0):=by rw[cell_of_row _ _ _ _ _ _ G.o];rfl
  have q3:w2.cell? ⟨w.heap.size,3,none⟩=some (Iv 0):=by rw[cell_of_row _ _ _ _ _ _ G.o];rfl
  have f0:=frozen_of_row _ _ 0 _ _ G.o;have f1:=frozen_of_row _ _ 1 _ _ G.o;have f2:=frozen_of_row _ _ 2 _ _ G.o;have f3:=frozen_of_row _ _ 3 _ _ G.o;go_wp2_with fail;refine bodyPost_ret (JZ rfl _ _ w.heap.size 134 (yh 1 (.string (⟨#[]⟩)) 0 0) (0,0) _ rfl (Qgk _ _ _ _ G.o) underlying134 rfl Qds) rfl ?_;rw[HT.o];exact KY (t:=⟨1,[],0,0⟩) rfl (by intro u k h;cases h) (Kt _ _ _ _ hB zP)
theorem JdC(hc:c=34)(hL:Laid w):
  Calls prog 85 #[Pt p,Sv (c::r)] w (Qdo (QcH (c::r)) w):=by
 have HF:Hi (QcH (c::r)=(Qbt 25 r).map λw=>(⟨2,w,0,0⟩,w.length+2)):=by
  unfold Hi;subst hc;simp only[QcH];rw[if_neg zp,if_neg zp,if_pos trivial]
 obtain⟨l,yA⟩:∃l,l=c::r:=⟨_,rfl⟩
 have hg:∀h,((bs l)[0]'h).toNat=c.toNat:=by rw[yA];intro h;rfl
 have uA:l.length=r.length+1:=by rw[yA];rfl
 have cA:0<l.length:=zo;have xA:=hC c.toNat c.toNat_lt;rw[Jld.1 hc]at xA;have hx:c.toNat<256:=c.toNat_lt;rw[<-yA]at hl HF |-;have hs:=JJ l;have bA:=Zw l;have gA:(bs l).extract 1 l.length=bs r:=by rw[Va,yA];simp
 have eA:r.length<=281474976710655:=zo;have vA:1<=l.length:=zo;clear yA uA;generalize c.toNat=x at*;have HC:=Zh hC;clear hC;go_enter func85,ntmps85;go_wp2;go_quiet (fail);go_wp2_with fail;obtain⟨W,hW⟩:∃W,W=(w.alloc (.cells (yh 0 Em 0 0) 134)).drewN nq:=⟨_,rfl⟩
 have zA:yr w W:=by rw[hW];exact Ke (zO.alloc zP _) _
 have g0:W.heap[w.heap.size]?=some (.cells (yh 0 Em 0 0) 134 (0,0)):=by rw[hW];exact zQ w _
 have z0:w.heap.size<W.heap.size:=by rw[hW];show _<(w.alloc _).heap.size;simp
 rw[<-hW];clear hW;have aA:=HC.o.below zA hp;have cT:=Jdz r W zo
 cases ho:Qbt 25 r with
 |some v=>
  have HT:Hi (QcH l=some (⟨2,v,0,0⟩,v.length+2)):=by unfold Hi;rw[HF.o,ho];rfl
  rw[ho]at cT;have hv:v.length<=24:=by have:=VN _ _ _ ho;omega
  clear HF xA ho;refine(Calls.mono cT ?_);rintro e w1 ⟨rfl,rfl⟩;have dA:=JJ v;have G:=Zh g0;have hB:=zA;clear zA g0 z0 aA HC cT;have q0:W.cell? ⟨w.heap.size,0,none⟩=some (Iv 0):=by rw[cell_of_row _ _ _ _ _ _ G.o];rfl
  have q1:W.cell? ⟨w.heap.size,1,none⟩=some Em:=by rw[cell_of_row _ _ _ _ _ _ G.o];rfl
  have q2:W.cell? ⟨w.heap.size,2,none⟩=some (Iv 0):=by rw[cell_of_row _ _ _ _ _ _ G.o];rfl
  have q3:W.cell? ⟨w.heap.size,3,none⟩=some (Iv 0):=by rw[cell_of_row _ _ _ _ _ _ G.o];rfl
  have f0:=frozen_of_row _ _ 0 _ _ G.o;have f1:=frozen_of_row _ _ 1 _ _ G.o;have f2:=frozen_of_row _ _ 2 _ _ G.o;have f3:=frozen_of_row _ _ 3 _ _ G.o;go_wp2_with fail;refine bodyPost_ret (JZ rfl _ _ w.heap.size 134 (yd 2 v 0 0) (0,0) _ rfl (Qgk _ _ _ _ G.o) underlying134 rfl Qds) rfl ?_;rw[HT.o];exact KY (t:=⟨2,v,0,0⟩) rfl (by intro u k h;injection h with h;injection h with h1 h2;subst h1;subst h2;exact⟨rfl,zq⟩) (Kt _ _ _ _ hB zP)
 |none=>
  have HT:Hi (QcH l=none):=by unfold Hi;rw[HF.o,ho];rfl
  rw[ho]at cT;clear HF xA ho;refine(Calls.mono cT ?_);rintro e w1 ⟨rfl,rfl⟩;have dA:=JJ [];have G:=Zh g0;have hB:=zA;clear zA g0 z0 aA HC cT;have q0:W.cell? ⟨w.heap.size,0,none⟩=some (Iv 0):=by rw[cell_of_row _ _ _ _ _ _ G.o];rfl
  have q1:W.cell? ⟨w.heap.size,1,none⟩=some Em:=by rw[cell_of_row _ _ _ _ _ _ G.o];rfl
  have q2:W.cell? ⟨w.heap.size,2,none⟩=some (Iv 0):=by rw[cell_of_row _ _ _ _ _ _ G.o];rfl
  have q3:W.cell? ⟨w.heap.size,3,none⟩=some (Iv 0):=by rw[cell_of_row _ _ _ _ _ _ G.o];rfl
  have f0:=frozen_of_row _ _ 0 _ _ G.o;have f1:=frozen_of_row _ _ 1 _ _ G.o;have f2:=frozen_of_row _ _ 2 _ _ G.o;have f3:=frozen_of_row _ _ 3 _ _ G.o;go_wp2_with fail;refine bodyPost_ret (JZ rfl _ _ w.heap.size 134 (yh 2 (.string (bs [])) 0 0) (0,0) _ rfl (Qgk _ _ _ _ G.o) underlying134 rfl Qds) rfl ?_;rw[HT.o];exact KY (t:=⟨2,[],0,0⟩) rfl (by intro u k h;cases h) (Kt _ _ _ _ hB zP)
theorem JfG(hc0:Qef c=false)(hc1:Qgi c=false)(S1:c≠34)(hL:Laid w):
  Calls prog 85 #[Pt p,Sv (c::r)] w (Qdo (QcH (c::r)) w):=by
 have HF:Hi (QcH (c::r)=if Qbk (c::r)=[] then none else some (⟨3,Qbk (c::r),0,0⟩,(Qbk (c::r)).length)):=by
  unfold Hi;simp only[QcH];rw[if_neg (by simp[hc0]),if_neg (by simp[hc1]),if_neg S1]
 have k2:((QbV c.toNat:Nat):Int)≠2:=λh=>by
  have h':QbV c.toNat=2:=zo;rw[JgM.2 h']at hc0;cases hc0
 have k3:((QbV c.toNat:Nat):Int)≠3:=λh=>by
  have h':QbV c.toNat=3:=zo;rw[JgN.2 h']at hc1;cases hc1
 have k5:((QbV c.toNat:Nat):Int)≠5:=λh=>by
  have h':QbV c.toNat=5:=zo;exact S1 (Jld.2 h')
 have e2:(((QbV c.toNat:Nat):Int)==2)=false:=zM k2;have e3:(((QbV c.toNat:Nat):Int)==3)=false:=zM k3;have e5:(((QbV c.toNat:Nat):Int)==5)=false:=zM k5;clear k2 k3 k5;have cS:=λW=>JdA c r W zo
 obtain⟨l,zA⟩:∃l,l=c::r:=⟨_,rfl⟩
 have hg:∀h,((bs l)[0]'h).toNat=c.toNat:=by rw[zA];intro h;rfl
 have vA:l.length=r.length+1:=by rw[zA];rfl
 have cA:0<l.length:=zo;have xA:=hC c.toNat c.toNat_lt;have hx:c.toNat<256:=c.toNat_lt;rw[<-zA]at hl HF cS |-;have hs:=JJ l;have bA:=Zw l;clear zA vA;generalize c.toNat=x at*;generalize QbV x=cn at*;have HC:=Zh hC;clear hC;go_enter func85,ntmps85;go_wp2;go_quiet (fail);go_wp2_with fail;obtain⟨W,hW⟩:∃W,W=(w.alloc (.cells (yh 0 Em 0 0) 134)).drewN nq:=⟨_,rfl⟩
 have yA:yr w W:=by rw[hW];exact Ke (zO.alloc zP _) _
 have g0:W.heap[w.heap.size]?=some (.cells (yh 0 Em 0 0) 134 (0,0)):=by rw[hW];exact zQ w _
 have z0:w.heap.size<W.heap.size:=by rw[hW];show _<(w.alloc _).heap.size;simp
 rw[<-hW];clear hW;have aA:=HC.o.below yA hp;have uA:=Jbk l
 by_cases h0:Qbk l=[]
 ·have HT:Hi (QcH l=none):=by unfold Hi;rw[HF.o,if_pos h0]
  rw[h0]at cS;clear HF xA h0;refine(cS _).mono ?_;rintro e w1 ⟨rfl,rfl⟩;have eA:=JJ [];have tl:=Jj [];have G:=Zh g0;have hB:=yA;clear yA g0 z0 aA HC cS uA;have q0:W.cell? ⟨w.heap.size,0,none⟩=some (Iv 0):=by rw[cell_of_row _ _ _ _ _ _ G.o];rfl
  have q1:W.cell? ⟨w.heap.size,1,none⟩=some Em:=by rw[cell_of_row _ _ _ _ _ _ G.o];rfl
  have q2:W.cell? ⟨w.heap.size,2,none⟩=some (Iv 0):=by rw[cell_of_row _ _ _ _ _ _ G.o];rfl
  have q3:W.cell? ⟨w.heap.size,3,none⟩=some (Iv 0):=by rw[cell_of_row _ _ _ _ _ _ G.o];rfl
  have f0:=frozen_of_row _ _ 0 _ _ G.o;have f1:=frozen_of_row _ _ 1 _ _ G.o;have f2:=frozen_of_row _ _ 2 _ _ G.o;have f3:=frozen_of_row _ _ 3 _ _ G.o;go_wp2_with fail;refine bodyPost_ret (JZ rfl _ _ w.heap.size 134 (yh 3 (.string (bs [])) 0 0) (0,0) _ rfl (Qgk _ _ _ _ G.o) underlying134 rfl Qds) rfl ?_;rw[HT.o];exact KY (t:=⟨3,[],0,0⟩) rfl (by intro u k h;cases h) (Kt _ _ _ _ hB zP)
 ·have HT:Hi (QcH l=some (⟨3,Qbk l,0,0⟩,(Qbk l).length)):=by unfold Hi;rw[HF.o,if_neg h0]
  clear HF xA;generalize dA:Qbk l=sg at*;clear dA;refine(cS _).mono ?_;rintro e w1 ⟨rfl,rfl⟩;have eA:=JJ sg;have tl:=Jj sg;have i0:sg.isEmpty=false:=by simpa using h0
  have gA:sg.length<=2:=uA.2.1;have G:=Zh g0;have hB:=yA;clear yA g0 z0 aA HC cS uA h0;have q0:W.cell? ⟨w.heap.size,0,none⟩=some (Iv 0):=by rw[cell_of_row _ _ _ _ _ _ G.o];rfl
  have q1:W.cell? ⟨w.heap.size,1,none⟩=some Em:=by rw[cell_of_row _ _ _ _ _ _ G.o];rfl
  have q2:W.cell? ⟨w.heap.size,2,none⟩=some (Iv 0):=by rw[cell_of_row _ _ _ _ _ _ G.o];rfl
  have q3:W.cell? ⟨w.heap.size,3,none⟩=some (Iv 0):=by rw[cell_of_row _ _ _ _ _ _ G.o];rfl
  have f0:=frozen_of_row _ _ 0 _ _ G.o;have f1:=frozen_of_row _ _ 1 _ _ G.o;have f2:=frozen_of_row _ _ 2 _ _ G.o;have f3:=frozen_of_row _ _ 3 _ _ G.o;go_wp2_with fail;refine bodyPost_ret (JZ rfl _ _ w.heap.size 134 (yd 3 sg 0 0) (0,0) _ rfl (Qgk _ _ _ _ G.o) underlying134 rfl Qds) rfl ?_;rw[HT.o];exact KY (t:=⟨3,sg,0,0⟩) rfl (by intro u k h;injection h with h;injection h with h1 h2;subst h1;subst h2;exact⟨rfl,rfl⟩) (Kt _ _ _ _ hB zP)
theorem JbY(hL:Laid w):
  Calls prog 85 #[Pt p,Sv (c::r)] w (Qdo (QcH (c::r)) w):=by
 cases h1:Qef c with
 |true=>exact JbX c r p w hC hp hl h1 hL
 |false=>
  cases h2:Qgi c with
  |true=>exact JdB c r p w hC hp hl h2 h1 hL
  |false=>
   by_cases h3:c=34
   ·exact JdC c r p w hC hp hl h3 hL
   ·exact JfG c r p w hC hp hl h1 h2 h3 hL
end
def QaO:List Tok->List Value
 |[]=>[]
 |t::l=>[Iv t.kind,Sv t.text,Iv t.n,Iv t.off]++QaO l
def Vv(a b:List Tok):QaO (a++b)=QaO a++QaO b:=by
 induction a with
 |nil=>rfl
 |cons t a ih=>simp[QaO,ih]
def QeV.prep(us:List Tok):QeV->QeV
 |.ok ts=>.ok (us++ts)
 |.err k=>.err k
def Jjq(s:QeV):s.prep []=s:=by cases s<;>rfl
def JgP(us:List Tok)(t:Tok)(s:QeV):(s.push t).prep us=s.prep (us++[t]):=by cases s<;>simp[QeV.push,QeV.prep]
def Qbi(l:By):List Tok×Int×Int:=
 if 4096<l.length then ([],7,0) else match sc 0 l with
  |.ok ts=>(ts,0,0)
  |.err k=>([],2,(k:Nat))
def Qec(R:List Tok×Int×Int)(w:World)(e:Ending)(w':World):Prop:=
 ∃v,e=.returned (.tuple #[v,Iv R.2.1,Iv R.2.2])/\w'.ownsRow w.heap.size 134 4 v R.1.length (QaO R.1)/\yr w w'
variable{w:World}{xs:List Value}
def Jv(h:w.ownsRow base e size v n xs):∃a c,v=.slice a n c:=by
 rcases h.2 with⟨rfl,rfl⟩|⟨g,cap,cur,rfl,_⟩
 ·exact⟨_,_,rfl⟩
 ·exact⟨_,_,rfl⟩
variable{cs:Array Value}{fr:Nat×Nat}
def JlG{t:Nat}(h:w.ownsRow base e size v n xs)(hg:w.heap[g]?=some (.cells cs t fr))(hne:e≠t):v.ownBlock≠some g:=by
 rcases h.2 with⟨rfl,_⟩|⟨g',cap,cur,rfl,_,hh,_⟩
 ·simp[Value.ownBlock]
 ·intro he;have:g'=g:=by simpa[Value.ownBlock] using he
  subst this;rw[hh]at hg;injection hg with hg;injection hg with _ ht;exact hne ht
def JX(h:w.ownsRow base e size v n xs)(hb:yr w w'):w'.ownsRow base e size v n xs:=by
 refine⟨h.1,?_⟩
 rcases h.2 with⟨rfl,rfl⟩|⟨g,cap,cur,rfl,hg,hh,q⟩
 ·exact .inl ⟨rfl,rfl⟩
 ·exact .inr ⟨g,cap,cur,rfl,hg,(hb.block g (Array.getElem?_eq_some_iff.1 hh).1).trans hh,q⟩
def Qib{P:Prop}(h:P:=by
  have hadd:(⟨w.heap.size,0,none⟩:Addr).add j=⟨w.heap.size,j,none⟩:=by unfold Addr.add;split<;>simp_all
  rw[hadd]
  exact cell_of_row _ _ _ _ _ (0,0) (zQ w _)):P:=h
def Kw(w:World)(cs:Array Value)(e:TypeId)(j:Nat):(w.alloc (.cells cs e)).cell? ((⟨w.heap.size,0,none⟩:Addr).add j)=cs[j]?:=by
 exact Qib
def ZG(h:w.ownsRow base e size v n xs):∀k,v.ownBlock=some k->base<=k:=by
 intro k hk;exact(World.ownsRow.lt h k hk).1
def JaA(w:World)(o:Obj)(cs:Array Value)(e:TypeId)(j:Nat):((w.alloc o).alloc (.cells cs e)).cell? ((⟨w.heap.size+1,0,none⟩:Addr).add j)=cs[j]?:=by
 have hadd:(⟨w.heap.size+1,0,none⟩:Addr).add j=⟨w.heap.size+1,j,none⟩:=by unfold Addr.add;split<;>simp_all
 rw[hadd];exact cell_of_row _ _ _ _ _ (0,0) (heap_alloc2_new w _ _)
def JfH{c:UInt8}{r:By}{t:Tok}(p:Nat)(w:World)(hC:Qdz w p)(hp:p<w.heap.size)(hl:(c::r).length<=281474976710655)(hL:Laid w)(h:QcH (c::r)=some (t,n)):
  Calls prog 85 #[Pt p,Sv (c::r)] w (λe w'=>e=.returned (.tuple #[.agg (yd t.kind t.text t.n 0),Iv n,.bool true])/\yr w w'):=by
 have hf:=(Zx h).2.2.2.2.2;refine(JbY c r p w hC hp hl hL).mono ?_;rintro e w' ⟨⟨u,m,rfl,hu⟩,hb⟩;obtain⟨rfl,rfl⟩:=hu t n h;refine⟨?_,hb⟩;rw[h];simp only[Qko,hf];rfl
def JfI{c:UInt8}{r:By}(p:Nat)(w:World)(hC:Qdz w p)(hp:p<w.heap.size)(hl:(c::r).length<=281474976710655)(hL:Laid w)(h:QcH (c::r)=none):
  Calls prog 85 #[Pt p,Sv (c::r)] w (λe w'=>∃(a b d m:Int) (x:ByteArray),e=.returned (.tuple #[.agg (yh a (.string x) b d),Iv m,.bool false])/\yr w w'):=by
 refine(JbY c r p w hC hp hl hL).mono ?_;rintro e w' ⟨⟨u,m,rfl,hu⟩,hb⟩;refine⟨u.kind,u.n,u.off,m,bs u.text,?_,hb⟩;rw[h];rfl
def JgQ(l:By)(w:World)(h:4096<l.length)(hl:l.length<=281474976710655):Calls prog 32 #[Sv l] w (Qec (Qbi l) w):=by
 have HR:Hi (Qbi l=([],7,0)):=by unfold Hi Qbi;rw[if_pos h]
 have hs:=JJ l;have d1:decide (4096<(l.length:Int))=true:=zG zo;clear h;go_enter func32,ntmps32;go_wp2;go_ret3;rw[HR.o];exact⟨_,rfl,World.ownsRow_nil _ _ _ _,zO⟩
def Qij:(prog.info? 134).map (λi=>(i.zero,i.size,i.bytes))=some (some (.agg (yh 0 Em 0 0)),4,40):=zk
def Jjr(l:By)(w:World)(h:l.length<=4096)(hL:Laid w):Calls prog 32 #[Sv l] w (Qec (Qbi l) w):=by
 have HR:Hi (Qbi l=match sc 0 l with|.ok ts=>(ts,0,0)|.err k=>([],2,(k:Nat))):=by unfold Hi Qbi;rw[if_neg zo]
 have hs:=JJ l;have d1:decide (4096<(l.length:Int))=false:=zH zo;obtain⟨i0,hi,qA,rA,nA⟩:=info_parts Qij;go_enter func32,ntmps32;go_wp2_with fail;refine(Jdx w).mono ?_;rintro e w1 ⟨rfl,L1⟩;have g0:(w1.alloc (.cells Tryz.zeroCells131 131)).heap[w1.heap.size]?=some (.cells (tab zf) 131 (0,0)):=by rw[zQ,Jbo]
 have G0:=Zh g0;clear g0;go_wp2_with (refine wpList_store_row rfl 131 (.tmp 5) (.tmp 14) rfl w1.heap.size (tab QbV) rfl rfl 131 (tab zf) G0.o (by rw[Ko];exact QeS) (by rw[Ko,Ko]) (JgL _) ?_);obtain⟨B,dA⟩:=yt w1.heap.size
 have lA:yr w ((w1.alloc (.cells Tryz.zeroCells131 131)).setRow w1.heap.size (tab QbV)):=below_setRow (L1.alloc L1.size _) L1.size _;have gB:((w1.alloc (.cells Tryz.zeroCells131 131)).setRow w1.heap.size (tab QbV)).heap[B]?=some (.cells (tab QbV) 131 (0,0)):=by rw[<-dA];exact setRow_heap _ _ (tab zf) _ _ _ G0.o
 have xB:w.heap.size<=B:=by rw[<-dA];exact L1.size
 generalize (w1.alloc (.cells Tryz.zeroCells131 131)).setRow w1.heap.size (tab QbV)=W2 at*;rw[dA];clear dA G0 L1;go_loopw [6,7] (λv6 v7 wr=>∃(us:List Tok) (k:Nat),k<=l.length/\v7=Iv k/\us.length<=k/\wr.ownsRow w.heap.size 134 4 v6 us.length (QaO us)/\wr.heap[B]?=some (.cells (tab QbV) 131 (0,0))/\yr w wr/\Hi (sc 0 l=(sc k (l.drop k)).prep us)) λ_ v7 _=>l.length-(intOf v7).toNat
 case atStart=>exact⟨[],0,by omega,rfl,by simp,World.ownsRow_nil _ _ _ _,gB,lA,by unfold Hi;rw[Jjq];rfl⟩
 case round=>
  obtain⟨us,k,hk,rfl,tA,xA,gB,zA,HS⟩:=hrel;have hA:=λ(j:Nat)=>cell_of_row wr B j _ _ _ gB
  obtain⟨va,vc,rfl⟩:=Jv xA
  by_cases hlt:k<l.length
  ·have hg:=JlD l hlt;have hx:l[k].toNat<256:=l[k].toNat_lt;have yA:=hA l[k].toNat;rw[YN _ hx]at yA;clear hA;have HD:=Zh (List.drop_eq_getElem_cons hlt);obtain⟨c,eA⟩:=yt (l[k])
   rw[eA]at HD hg yA hx
   cases hsp:Qft c with
   |true=>
    have hc1:=Jlc.1 hsp;rw[hc1]at yA;have H:Hi (sc 0 l=(sc (k+1) (l.drop (k+1))).prep us):=by unfold Hi;rw[HS.o,HD.o,Jjo k _ hsp]
    have HO:=Zh xA;have HB:=Zh gB;clear hc1 eA HS xA gB;generalize c.toNat=x at*;go_wp2;go_roundw
    case rel=>exact⟨us,k+1,by omega,by go_num,by omega,HO.o,HB.o,zA,H⟩
    case measure=>simp[intOf];omega
   |false=>
    have hc1:((QbV c.toNat:Nat):Int)≠1:=λh=>by
     have h':QbV c.toNat=1:=zo;rw[Jlc.2 h']at hsp;cases hsp
    have e1:(((QbV c.toNat:Nat):Int)==1)=false:=zM hc1;have yB:(bs l).extract k l.length=bs (c::l.drop (k+1)):=by rw[Va,List.take_of_length_le zq,HD.o]
    have hdl:(c::l.drop (k+1)).length<=4096:=zr;have gA:Qdz wr B:=λi hi=>by rw[cell_of_row _ _ _ _ _ _ gB,YN _ hi]
    have cA:=(Array.getElem?_eq_some_iff.1 gB).1
    cases ht:QcH (c::l.drop (k+1)) with
    |none=>
     have cT:=JfI B wr gA cA zo (hL.below zA) ht;have H:Hi (Qbi l=([],2,((k:Nat):Int))):=by unfold Hi;rw[HR.o,HS.o,HD.o,Jbl k _ hsp ht];rfl
     clear hc1 eA HS xA gB gA;generalize QbV c.toNat=cn at*;generalize c.toNat=x at*;go_wp2_with fail;refine(Calls.mono cT ?_);rintro e w3 ⟨fa,fb,fd,fm,fx,rfl,aA⟩;have R0:=zA.trans (aA.mono zA.size);clear aA cT;go_wp2_with fail;go_ret3;rw[H.o];exact⟨_,rfl,World.ownsRow_nil _ _ _ _,R0.alloc R0.size _⟩
    |some q=>
     obtain⟨t,n⟩:=q;have hw:=JbW ht;have cT:=JfH B wr gA cA zo (hL.below zA) ht
     have H:Hi (sc 0 l=(sc (k+n) (l.drop (k+n))).prep (us++[{t with off:=(k:Int)}])):=by
      unfold Hi;rw[HS.o,HD.o,Jbm k _ hsp ht,JgP,<-HD.o,List.drop_drop]
     have hn:k+n<=l.length:=by
      have h1:=hw.2.2.1;rw[<-HD.o,List.length_drop]at h1;omega
     have P4:=hw.2.1;obtain⟨tk,tt,tn,to⟩:=t;have HO:=Zh xA;have HB:=Zh gB;clear hc1 eA HS xA gB gA hw ht;generalize QbV c.toNat=cn at*;generalize c.toNat=x at*;go_wp2_with fail;refine(Calls.mono cT ?_);rintro e w3 ⟨rfl,aA⟩;have uA:=JX HO.o aA;have iA:=Zh ((aA.block _ cA).trans HB.o);have R0:=zA.trans (aA.mono zA.size);have kA:B<w3.heap.size:=Nat.lt_of_lt_of_le cA aA.size;clear aA cT HO HB;have vA:=Zh uA;clear uA;have jA:us.length+1<=5000:=zo;go_wp2_with (at_builtin;refine wpList_append_own _ rfl _ _ 84 rfl w.heap.size 134 i0 (.agg (yh 0 Em 0 0)) 4 40 underlying84 hi qA rA nA rfl zp _ _ _ rfl ((vA.o.alloc _).alloc _) ⟨w3.heap.size+1,0,none⟩ 1 1 [Iv tk,Sv tt,Iv tn,Iv (k:Nat)] rfl rfl ?c1 ?c2 ?c3 ?c4 ?c5 ?_)
     case c1=>
      intro j u hj;rw[JaA];simpa using hj
     case c2=>intro u hu;simp at hu;rcases hu with rfl|rfl|rfl|rfl<;>rfl
     case c3=>unfold maxLen;omega
     case c4=>omega
     case c5=>simp;exact Nat.le_trans R0.size zo
     intro v' w' Q0 hgrow _;have bA:=(R0.alloc R0.size (.cells (yd tk tt tn (k:Nat)) 134)).alloc (by simp;exact Nat.le_trans R0.size zo) (.cells (yd tk tt tn (k:Nat)) 134);have hsz:=bA.size;have mA:=bA.grown hgrow hsz (ZG vA.o)
     have sA:((w3.alloc (.cells (yd tk tt tn (k:Nat)) 134)).alloc (.cells (yd tk tt tn (k:Nat)) 134)).heap[B]?=some (.cells (tab QbV) 131 (0,0)):=by
      rw[heap_alloc_old _ _ zr,heap_alloc_old _ _ kA];exact iA.o
     have A4:=Zh ((hgrow.block B zr λe=>JlG vA.o iA.o zp e.symm).trans sA)
     have HOW:Hi (w'.ownsRow w.heap.size 134 4 v' (us++[(⟨tk,tt,tn,(k:Nat)⟩:Tok)]).length (QaO (us++[(⟨tk,tt,tn,(k:Nat)⟩:Tok)]))):=by
      unfold Hi;rw[List.length_append,Vv];exact Q0
     clear Q0 hgrow bA hsz sA vA iA;go_wp2;go_roundw
     case rel=>exact⟨us++[(⟨tk,tt,tn,(k:Nat)⟩:Tok)],k+n,by omega,by go_num,by simp;omega,HOW.o,A4.o,mA,H⟩
     case measure=>simp[intOf];omega
  ·have pA:k=l.length:=zo
   have H:Hi (Qbi l=(us++[⟨4,[],0,(l.length:Nat)⟩],0,0)):=by
    unfold Hi;rw[HR.o,HS.o,pA,List.drop_length,JeC];rfl
   subst pA;have vA:=Zh xA;clear xA gB hA HS;have jA:us.length+1<=5000:=zo;go_wp2_with (at_builtin;refine wpList_append_own _ rfl _ _ 84 rfl w.heap.size 134 i0 (.agg (yh 0 Em 0 0)) 4 40 underlying84 hi qA rA nA rfl zp _ _ _ rfl (vA.o.alloc _) ⟨wr.heap.size,0,none⟩ 1 1 [Iv 4,Em,Iv 0,Iv (l.length:Nat)] rfl rfl ?d1 ?d2 ?d3 ?d4 ?d5 ?_)
   case d1=>
    intro j u hj;rw[Kw];simpa using hj
   case d2=>intro u hu;simp at hu;rcases hu with rfl|rfl|rfl|rfl<;>rfl
   case d3=>unfold maxLen;omega
   case d4=>omega
   case d5=>simp;exact Nat.le_trans zA.size zo
   intro v' w' Q0 hgrow _;have bA:=zA.alloc zA.size (.cells (yh 4 Em 0 (l.length:Nat)) 134);have mA:=bA.grown hgrow bA.size (ZG vA.o)
   have HOW:Hi (w'.ownsRow w.heap.size 134 4 v' (us++[(⟨4,[],0,(l.length:Nat)⟩:Tok)]).length (QaO (us++[(⟨4,[],0,(l.length:Nat)⟩:Tok)]))):=by
    unfold Hi;rw[List.length_append,Vv];exact Q0
   clear Q0 hgrow bA vA;go_wp2_with fail;go_ret3;rw[H.o];exact⟨_,rfl,HOW.o,mA⟩
def JeD(l:By)(w:World)(hl:l.length<=281474976710655)(hL:Laid w):Calls prog 32 #[Sv l] w (Qec (Qbi l) w):=by
 by_cases h:4096<l.length
 ·exact JgQ l w h hl
 ·exact Jjr l w zo hL
structure Chg(S:List Nat)(w w':World):Prop where
 os:w'.os=w.os
 tape:w'.tape=w.tape
 output:w'.output=w.output
 size:w.heap.size<=w'.heap.size
 block:∀k,k<w.heap.size->k∉S->w'.heap[k]?=w.heap[k]?
section
variable {S S':List Nat}{a w w' w1:World}
def Chg.refl(S:List Nat)(w:World):Chg S w w:=⟨rfl,rfl,rfl,Nat.le_refl _,λ_ _ _=>rfl⟩
def Chg.trans(h:Chg S w w1)(k:Chg S w1 w'):Chg S w w':=
 ⟨k.os.trans h.os,k.tape.trans h.tape,k.output.trans h.output,Nat.le_trans h.size k.size,λi hi hn=>(k.block i (Nat.lt_of_lt_of_le hi h.size) hn).trans (h.block i hi hn)⟩
def Chg.mono(h:Chg S w w')(hs:∀k,k∈S->k∈S'\/w.heap.size<=k):Chg S' w w':=
 ⟨h.os,h.tape,h.output,h.size,λk hk hn=>h.block k hk λhm=>by rcases hs k hm with h1|h1;exact hn h1;omega⟩
def Chg.step(h:Chg S w w1)(k:Chg S' w1 w')(hs:∀b,b∈S'->b∈S\/w.heap.size<=b):Chg S w w':=
 ⟨k.os.trans h.os,k.tape.trans h.tape,k.output.trans h.output,Nat.le_trans h.size k.size,λi hi hn=>
  (k.block i (Nat.lt_of_lt_of_le hi h.size) λhm=>by rcases hs i hm with h1|h1;exact hn h1;omega).trans (h.block i hi hn)⟩
def Chg.drew(h:Chg S a w):Chg S a w.drew:=⟨h.os,h.tape,h.output,h.size,h.block⟩
def Chg.alloc(h:Chg S a w)(o:Obj):Chg S a (w.alloc o):=
 h.trans ⟨rfl,rfl,rfl,by simp,λk hk _=>Below.heap_alloc _ _ _ hk⟩
def Chg.setCell(h:Chg S a w){p:Addr}(hp:p.block∈S\/a.heap.size<=p.block)(u:Value):Chg S a (w.setCell p u):=
 h.step (S':=[p.block]) ⟨rfl,rfl,rfl,by simp[World.setCell],λk _ hn=>Below.heap_setCell _ _ _ _ (by simpa using hn)⟩ (by simpa using hp)
def Chg.of_below(h:yr w w')(S:List Nat):Chg S w w':=⟨h.os,h.tape,h.output,h.size,λk hk _=>h.block k hk⟩
def Chg.of_grownBy(h:w.grownBy w' (some g)):Chg [g] w w':=⟨h.os,h.tape,h.output,h.size,λk hk hn=>h.block k hk (by simpa using hn)⟩
def JaD{p:Addr}(h:w.cell? p=some v):p.block<w.heap.size:=World.block_lt_of_cell? w p h
def Jb{o:Obj}(h:w.heap[k]?=some o):k<w.heap.size:=(Array.getElem?_eq_some_iff.1 h).1
def Chg.heap_some{o:Obj}(h:Chg S w w')(hn:k∉S)(hc:w.heap[k]?=some o):w'.heap[k]?=some o:=
 (h.block k (Jb hc) hn).trans hc
def Chg.cell_some{p:Addr}(h:Chg S w w')(hn:p.block∉S)(hc:w.cell? p=some v):w'.cell? p=some v:=
 (World.cell?_of_block (w:=w) (h.block p.block (JaD hc) hn)).trans hc
end
variable{t:TypeId}
def Ja(hg:w.heap[g]?=some (.cells cs t fr))(j:Nat):w.cell? ⟨g,j,none⟩=cs[j]?:=
 cell_of_row w g j cs t fr hg
def Jc(hg:w.heap[g]?=some (.cells cs t (0,0)))(j:Nat):w.frozen? ⟨g,j,none⟩=false:=by
 simp[World.frozen?,hg]
def Jm(hg:w.heap[g]?=some (.cells cs t fr))(j:Nat)(u:Value):
  (w.setCell ⟨g,j,none⟩ u).heap[g]?=some (.cells (cs.setIfInBounds j u) t fr):=by
 simp[World.setCell,Array.getElem?_modify,hg]
def Ji{p:Addr}{o:Obj}(hg:w.heap[g]?=some o)(hn:g≠p.block)(u:Value):(w.setCell p u).heap[g]?=some o:=
 (Below.heap_setCell w p u g hn).trans hg
inductive Nd where
 |mk (kind n:Int) (name:By) (off:Int) (kids:List Nd)
inductive Exp where
 |mk (kind n:Int) (name:By) (kids:List Exp)
structure FnM where
 name:By
 params:List Int
 result:Int
 body:Exp
structure ClM where
 cond:Exp
 action:Int
 reason:By
structure Qah where
 funcs:List FnM
 clauses:List ClM
 action:Int
def QaR:Qah:=⟨[],[],0⟩
def Nd.kind:Nd->Int|.mk k _ _ _ _=>k
def Nd.num:Nd->Int|.mk _ n _ _ _=>n
def Nd.name:Nd->By|.mk _ _ s _ _=>s
def Nd.off:Nd->Int|.mk _ _ _ o _=>o
def Nd.kids:Nd->List Nd|.mk _ _ _ _ l=>l
def Exp.kind:Exp->Int|.mk k _ _ _=>k
def Exp.num:Exp->Int|.mk _ n _ _=>n
def Exp.name:Exp->By|.mk _ _ s _=>s
def Exp.kids:Exp->List Exp|.mk _ _ _ l=>l
def Qih:By:=[97,110,100]
def QeA:By:=[98,111,111,108]
def Qig:By:=[100,101,102]
def Qdd:By:=[100,101,102,97,117,108,116]
def Qfs:By:=[101,108,115,101]
def QeN:By:=[102,97,108,115,101]
def Qez:By:=[104,105,100,101]
def kIf:By:=[105,102]
def kIn:By:=[105,110]
def QgB:By:=[105,110,116]
def QeM:By:=[108,97,98,101,108]
def QgA:By:=[108,101,116]
def QdF:By:=[108,105,109,105,116]
def QdE:By:=[109,101,100,105,97]
def QgQ:By:=[110,111,116]
def kOr:By:=[111,114]
def Qey:By:=[115,104,111,119]
def Qen:By:=[116,104,101,110]
def QfU:By:=[116,114,117,101]
def Qfr:By:=[119,104,101,110]
def QfT:By:=[119,111,114,100]
def Qco:By:=[108,105,107,101,115]
def Qch:By:=[98,111,111,115,116,115]
def QbD:By:=[114,101,112,108,105,101,115]
def QbC:By:=[114,101,112,111,114,116,115]
def QfI:By:=[97,103,101]
def QdQ:By:=[104,111,109,101]
def QcS:By:=[115,99,111,112,101]
def Qcg:By:=[108,101,110,103,116,104]
def QbE:By:=[102,111,108,108,111,119,115]
def Qep:By:=[114,101,112,108,121]
def Qaq(s:By):Bool:=decide (s∈[Qih,QeA,Qig,Qdd,Qfs,QeN,Qez,kIf,kIn,QgB,QeM,QgA,QdF,QdE,QgQ,kOr,Qey,Qen,QfU,Qfr,QfT])
def QaU(s:By):Option Int:=
 if s∈[Qco,Qch,QbD,QbC,QfI,QdQ,QcS,Qcg] then some 0 else if s∈[QbE,Qep] then some 1 else none
def Qbr(s:By):Bool:=
 match s with
 |[]=>false
 |c::r=>decide (s.length<=24)&&Qef c&&(c::r).all Qdw&&(QaU s).isNone&&!Qaq s
def QcD(s:By):Bool:=s.all (λc=>decide (32<=c.toNat)&&decide (c.toNat<=126)&&c !=34&&c !=92)&&decide (s.length<=24)
inductive PR(α:Type) where
 |out
 |bad (off:Int)
 |ok (a:α) (r:List Tok)
def Qfy:Tok:=⟨4,[],0,0⟩
def hd(r:List Tok):Tok:=r.headD Qfy
def acc(k:Int)(s:By)(r:List Tok):Option (List Tok):=if (hd r).kind=k/\(hd r).text=s then some r.tail else none
def Qar(k:Int)(s:By)(r:List Tok):PR Unit:=match acc k s r with|some r'=>.ok () r'|none=>.bad (hd r).off
variable{α:Type}
def PR.bind{β:Type}(x:PR α)(f:α->List Tok->PR β):PR β:=match x with|.out=>.out|.bad o=>.bad o|.ok a r=>f a r
def Qbb(r:List Tok):PR (By×Int):=if (hd r).kind=0/\Qbr (hd r).text=true then .ok ((hd r).text,(hd r).off) r.tail else .bad (hd r).off
def Qct(r:List Tok):PR By:=if (hd r).kind=2 then .ok (hd r).text r.tail else .bad (hd r).off
def QaL(r:List Tok):PR By:=(Qar 3 [40] r).bind λ_ r1=>(Qct r1).bind λs r2=>(Qar 3 [41] r2).bind λ_ r3=>.ok s r3
def opK(lv:Nat)(t:Tok):Option Int:=
 if t.kind=0/\lv=1/\t.text=kOr then some 17
 else if t.kind=0/\lv=2/\t.text=Qih then some 16
 else if t.kind≠3 then none
 else if lv=5/\t.text=[43] then some 8
 else if lv=5/\t.text=[45] then some 9
 else if lv=6/\t.text=[42] then some 10
 else if lv=6/\t.text=[47] then some 11
 else if lv=6/\t.text=[37] then some 12
 else none
def Qeh(t:Tok):Option Int:=
 if t.kind≠3 then none
 else if t.text=[61,61]\/t.text=[33,61] then some 15
 else if t.text=[60]\/t.text=[62] then some 13
 else if t.text=[60,61]\/t.text=[62,61] then some 14
 else none
def QdV(t:Tok)(k:Int)(a b:Nd):Nd:=
 if t.text=[62]\/t.text=[62,61] then .mk k 0 [] a.off [b,a]
 else if t.text=[33,61] then .mk 7 0 [] a.off [.mk k 0 [] a.off [a,b]]
 else .mk k 0 [] a.off [a,b]
inductive Md where
 |expr
 |level (lv:Nat)
 |loop (lv:Nat) (off:Int) (a:Nd)
 |cmp
 |prim
 |named
 |args (name:By) (off:Int) (l:List Nd)
def pM:Nat->Md->List Tok->PR Nd
 |0,_,_=>.out
 |f+1,.expr,r=>
  match acc 0 QgA r with
  |some r1=>(Qbb r1).bind λnm r2=>(Qar 3 [61] r2).bind λ_ r3=>(pM f .expr r3).bind λv r4=>(Qar 0 kIn r4).bind λ_ r5=>(pM f .expr r5).bind λb r6=>.ok (.mk 19 0 nm.1 (hd r).off [v,b]) r6
  |none=>
   match acc 0 kIf r with
   |some r1=>(pM f .expr r1).bind λc r2=>(Qar 0 Qen r2).bind λ_ r3=>(pM f .expr r3).bind λy r4=>(Qar 0 Qfs r4).bind λ_ r5=>(pM f .expr r5).bind λz r6=>.ok (.mk 18 0 [] (hd r).off [c,y,z]) r6
   |none=>pM f (.level 1) r
 |f+1,.level lv,r=>
  if lv=3 then
   match acc 0 QgQ r with
   |some r1=>(pM f (.level 3) r1).bind λa r2=>.ok (.mk 7 0 [] (hd r).off [a]) r2
   |none=>pM f .cmp r
  else if lv=7 then
   match acc 3 [45] r with
   |some r1=>(pM f (.level 7) r1).bind λa r2=>.ok (.mk 6 0 [] (hd r).off [a]) r2
   |none=>pM f .prim r
  else (pM f (.level (lv+1)) r).bind λa r1=>pM f (.loop lv (hd r).off a) r1
 |f+1,.loop lv o a,r=>
  match opK lv (hd r) with
  |none=>.ok a r
  |some k=>(pM f (.level (lv+1)) r.tail).bind λb r1=>pM f (.loop lv o (.mk k 0 [] o [a,b])) r1
 |f+1,.cmp,r=>
  (pM f (.level 5) r).bind λa r1=>
   match Qeh (hd r1) with
   |none=>.ok a r1
   |some k=>(pM f (.level 5) r1.tail).bind λb r2=>.ok (QdV (hd r1) k a b) r2
 |f+1,.prim,r=>
  if (hd r).kind=1 then .ok (.mk 0 (hd r).n [] (hd r).off []) r.tail
  else match acc 3 [40] r with
  |some r1=>(pM f .expr r1).bind λn r2=>(Qar 3 [41] r2).bind λ_ r3=>.ok (.mk n.kind n.num n.name (hd r).off n.kids) r3
  |none=>
   match acc 0 QeN r with
   |some r1=>.ok (.mk 1 0 [] (hd r).off []) r1
   |none=>
    match acc 0 QfU r with
    |some r1=>.ok (.mk 1 1 [] (hd r).off []) r1
    |none=>
     match acc 0 QeM r with
     |some r1=>(QaL r1).bind λs r2=>.ok (.mk 4 0 s (hd r).off []) r2
     |none=>
      match acc 0 QfT r with
      |some r1=>(QaL r1).bind λs r2=>.ok (.mk 5 0 s (hd r).off []) r2
      |none=>if (QaU (hd r).text).isSome/\(hd r).kind=0 then .ok (.mk 3 0 (hd r).text (hd r).off []) r.tail else pM f .named r
 |f+1,.named,r=>
  (Qbb r).bind λnm r1=>
   match acc 3 [40] r1 with
   |none=>.ok (.mk 2 0 nm.1 nm.2 []) r1
   |some r2=>
    match acc 3 [41] r2 with
    |some r3=>.ok (.mk 20 0 nm.1 nm.2 []) r3
    |none=>pM f (.args nm.1 nm.2 []) r2
 |f+1,.args nm o l,r=>
  (pM f .expr r).bind λa r1=>
   match acc 3 [44] r1 with
   |some r2=>pM f (.args nm o (l++[a])) r2
   |none=>(Qar 3 [41] r1).bind λ_ r2=>.ok (.mk 20 0 nm o (l++[a])) r2
structure FnS where
 name:By×Int
 params:List (By×Int)
 types:List Int
 result:Int
 body:Nd
structure ClS where
 cond:Nd
 action:Int
 reason:By
structure Src where
 funcs:List FnS
 clauses:List ClS
 action:Int
def Qdu(r:List Tok):PR Int:=match acc 0 QgB r with|some r1=>.ok 0 r1|none=>match acc 0 QeA r with|some r1=>.ok 1 r1|none=>.bad (hd r).off
def Qdg(r:List Tok):PR Int:=
 match acc 0 Qey r with
 |some r1=>.ok 0 r1
 |none=>match acc 0 QdE r with
  |some r1=>.ok 1 r1
  |none=>match acc 0 QdF r with
   |some r1=>.ok 2 r1
   |none=>match acc 0 Qez r with
    |some r1=>.ok 3 r1
    |none=>.bad (hd r).off
def QaQ:Nat->List (By×Int)->List Int->List Tok->PR (List (By×Int)×List Int)
 |0,_,_,_=>.out
 |f+1,ps,ts,r=>(Qbb r).bind λnm r1=>(Qar 3 [58] r1).bind λ_ r2=>(Qdu r2).bind λt r3=>
  match acc 3 [44] r3 with
  |some r4=>QaQ f (ps++[nm]) (ts++[t]) r4
  |none=>(Qar 3 [41] r3).bind λ_ r4=>.ok (ps++[nm],ts++[t]) r4
def Qeg(f:Nat)(r:List Tok):PR FnS:=
 (Qbb r).bind λnm r1=>(Qar 3 [40] r1).bind λ_ r2=>
  (match acc 3 [41] r2 with
   |some r3=>PR.ok ([],[]) r3
   |none=>QaQ f [] [] r2).bind λpt r3=>(Qar 3 [58] r3).bind λ_ r4=>(Qdu r4).bind λt r5=>(Qar 3 [61] r5).bind λ_ r6=>(pM f .expr r6).bind λb r7=>.ok ⟨nm,pt.1,pt.2,t,b⟩ r7
def QcF(g:Nat):Nat->List FnS->List Tok->PR (List FnS)
 |0,_,_=>.out
 |f+1,l,r=>match acc 0 Qig r with|some r1=>(Qeg g r1).bind λx r2=>QcF g f (l++[x]) r2|none=>.ok l r
def QaP(g:Nat):Nat->List ClS->List Tok->PR (List ClS)
 |0,_,_=>.out
 |f+1,l,r=>match acc 0 Qfr r with
  |some r1=>(pM g .expr r1).bind λc r2=>(Qar 0 Qen r2).bind λ_ r3=>(Qdg r3).bind λa r4=>(Qct r4).bind λs r5=>QaP g f (l++[⟨c,a,s⟩]) r5
  |none=>.ok l r
def QdU(f:Nat)(r:List Tok):PR Src:=
 (QcF f f [] r).bind λfs r1=>(QaP f f [] r1).bind λcs r2=>(Qar 0 Qdd r2).bind λ_ r3=>(Qdg r3).bind λa r4=>if (hd r4).kind=4 then .ok ⟨fs,cs,a⟩ r4 else .bad (hd r4).off
mutual
def Qag:Nd->Nat
 |.mk _ _ _ _ l=>QbL l+1
def QbL:List Nd->Nat
 |[]=>0
 |a::l=>max (Qag a) (QbL l)
end
def Src.roots(s:Src):List Nd:=s.funcs.map (·.body)++s.clauses.map (·.cond)
def QbN(s:Src):Option Int:=(s.roots.find? λn=>decide (40<Qag n)).map Nd.off
def QaZ:List Int->Option Int
 |[]=>none
 |a::l=>some (match QaZ l with|none=>a|some b=>min a b)
def QaY(M0:List By)(s:By):Int:=
 (M0.foldl (λ(p:Int×Int) v=>(p.1+1,if v=s then p.1 else p.2)) (0,-1)).2
def Qal(fs:List By)(s:By):Option Nat:=fs.findIdx? λv=>decide (v=s)
mutual
def QcQ(fs:List By):List By->Nd->Nd×List Int
 |M0,.mk k n s o l=>
  if k=2 then
   let r:=QbS fs M0 l
   (.mk k (QaY M0 s) [] o r.1,(if QaY M0 s<0 then [o] else [])++r.2)
  else if k=20 then
   let r:=QbS fs M0 l
   (.mk k ((Qal fs s).getD 0) [] o r.1,(if (Qal fs s).isNone then [o] else [])++r.2)
  else if k=19 then
   match l with
   |[a,b]=>
    let x:=QcQ fs M0 a
    let y:=QcQ fs (M0++[s]) b
    (.mk k M0.length [] o [x.1,y.1],x.2++y.2)
   |l=>(.mk k n s o l,[])
  else
   let r:=QbS fs M0 l
   (.mk k n s o r.1,r.2)
def QbS(fs:List By):List By->List Nd->List Nd×List Int
 |_,[]=>([],[])
 |M0,a::l=>let x:=QcQ fs M0 a;let y:=QbS fs M0 l;(x.1::y.1,x.2++y.2)
end
def Qdk:List (By×Int)->List By->List Int
 |[],_=>[]
 |(s,o)::l,seen=>(if s∈seen then [o] else [])++Qdk l (seen++[s])
def resF(fs:List By)(f:FnS):FnS×List Int:=
 let b:=QcQ fs (f.params.map (·.1)) f.body
 ({f with body:=b.1},Qdk f.params []++b.2)
def resC(fs:List By)(c:ClS):ClS×List Int:=
 let b:=QcQ fs [] c.cond
 ({c with cond:=b.1},b.2)
def Qae(s:Src):Src×List Int:=
 let fs:=s.funcs.map (·.name.1)
 let a:=s.funcs.map (resF fs)
 let b:=s.clauses.map (resC fs)
 (⟨a.map (·.1),b.map (·.1),s.action⟩,Qdk (s.funcs.map (·.name)) []++(a.map (·.2)).flatten++(b.map (·.2)).flatten)
structure QaN where
 params:List Int
 result:Int
mutual
def ofN(fs:List QaN):List Int->Nd->Int×List Int
 |M0,.mk k n s o l=>
  if k=1\/k=5 then (1,[])
  else if k=2 then (M0.getD n.toNat 0,[])
  else if k=3 then ((QaU s).getD 0,[])
  else if k=6\/(8<=k/\k<=12) then (0,Qbp fs M0 0 l)
  else if k=13\/k=14 then (1,Qbp fs M0 0 l)
  else if k=15 then
   match l with
   |[a,b]=>let x:=ofN fs M0 a;let y:=ofN fs M0 b;(1,x.2++y.2++if y.1≠x.1 then [b.off] else [])
   |_=>(1,[])
  else if k=7\/k=16\/k=17 then (1,Qbp fs M0 1 l)
  else if k=18 then
   match l with
   |[c,a,b]=>let z:=ofN fs M0 c;let x:=ofN fs M0 a;let y:=ofN fs M0 b;(x.1,z.2++(if z.1≠1 then [c.off] else [])++x.2++y.2++if y.1≠x.1 then [b.off] else [])
   |_=>(0,[])
  else if k=19 then
   match l with
   |[a,b]=>let x:=ofN fs M0 a;let y:=ofN fs (M0++[x.1]) b;(y.1,x.2++y.2)
   |_=>(0,[])
  else if k=20 then
   let f:=fs.getD n.toNat ⟨[],0⟩
   (f.result,(if l.length≠f.params.length then [o] else [])++QcX fs M0 (l.length==f.params.length) f.params l)
  else (0,[])
def Qbp(fs:List QaN):List Int->Int->List Nd->List Int
 |_,_,[]=>[]
 |M0,t,a::l=>let x:=ofN fs M0 a;x.2++(if x.1≠t then [a.off] else [])++Qbp fs M0 t l
def QcX(fs:List QaN):List Int->Bool->List Int->List Nd->List Int
 |_,_,_,[]=>[]
 |M0,b,ps,a::l=>let x:=ofN fs M0 a;x.2++(if b=true/\x.1≠ps.headD 0 then [a.off] else [])++QcX fs M0 b ps.tail l
end
def QcT(fs:List QaN)(M0:List Int)(t:Int)(a:Nd):List Int:=let x:=ofN fs M0 a;x.2++if x.1≠t then [a.off] else []
def QbH(s:Src):List Int:=
 let fs:=s.funcs.map λf=>(⟨f.types,f.result⟩:QaN)
 (s.funcs.map λf=>QcT fs f.types f.result f.body).flatten++(s.clauses.map λc=>QcT fs [] 1 c.cond).flatten
mutual
def Qab:Nd->Exp
 |.mk k n s _ l=>.mk k n s (QaJ l)
def QaJ:List Nd->List Exp
 |[]=>[]
 |a::l=>Qab a::QaJ l
end
def QaE(s:Src):Qah:=⟨s.funcs.map λf=>⟨f.name.1,f.types,f.result,Qab f.body⟩,s.clauses.map λc=>⟨Qab c.cond,c.action,c.reason⟩,s.action⟩
def Qcc(f:Nat)(l:List Tok):Option (Qah×Int×Int):=
 match QdU f l with
 |.out=>none
 |.bad o=>some (QaR,2,o)
 |.ok s _=>
  match QbN s with
  |some o=>some (QaR,7,o)
  |none=>
   match QaZ (Qae s).2 with
   |some o=>some (QaR,16,o)
   |none=>
    match QaZ (QbH (Qae s).1) with
    |some o=>some (QaR,15,o)
    |none=>some (QaE (Qae s).1,0,0)
end Go.Proofs.YtfafpklefknomaaGreatDoor



