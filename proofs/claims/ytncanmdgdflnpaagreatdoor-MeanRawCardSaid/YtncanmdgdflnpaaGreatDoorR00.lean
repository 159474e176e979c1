import Derived.Below
import Derived.Deep.RegionHeld
import Derived.Lib.Hide
import Derived.Shelf.Small.Strs
import Derived.Shelf.Strconv.Atoi
import Derived.Shelf.Strconv.Itoa0
import Derived.Shelf.Strconv.Itoa1
import Derived.Shelf.LaysM
import Derived.Shelf.Strconv.Itoa2
import Derived.Shelf.Strconv.Itoa3
import Derived.Shelf.Strconv.AtoiErrFast
import Derived.Shelf.Strconv.ParseIntEmpty
import Derived.Shelf.Strconv.AtoiFail
import Derived.Shelf.Strconv.Clone
import Derived.Shelf.Strconv.SyntaxError
import Derived.Shelf.LaysC
import Derived.Shelf.Strconv.ToError
import Derived.Shelf.Strconv.AtoiErr
import Derived.Shelf.Strconv.ErrVar
import Derived.Shelf.Strconv.Lower
import Derived.Shelf.Strconv.ParseUint10
import Derived.Shelf.Strconv.ParseUint10Empty
import Derived.Shelf.Strconv.ParseUint10Any
import Derived.Shelf.Strconv.ParseInt10
import Derived.Shelf.Strconv.AtoiLong
import Derived.Shelf.Strconv.AtoiInnerAll
import Derived.Shelf.Strconv.RangeError
import Derived.Shelf.Strconv.ToErrorRange
import Derived.Shelf.Strconv.AtoiAll
import Derived.Shelf.Strconv.ErrVarAll
import Derived.Shelf.Strconv.ParseUintEmpty
import Derived.Shelf.Strings.Search1
import Derived.Shelf.Strings.Prefix
import Derived.Shelf.Bits.Mul64
import Derived.Shelf.Slices.Turned
import Derived.Test.YtncanmdgdflnpaaGreatDoorProg
import Derived.Lib.ItoaMem
import Derived.Lib.AtoiAllCases
import Derived.WalkKit
import Derived.ProofKit
import Derived.OpenShut
import Derived.Outline
import Derived.OwnWalk
import Derived.Deep.QuietTactic
import Derived.BigQuiet
import Derived.Shelf.Unicode.PredsPay
import Derived.Shelf.SlSorted.Search
import Derived.WalkSmall
import Derived.Laws.Strings
import Derived.Lib.LaidTab
import Derived.Stop.LaidErr
import Derived.LaidLaws
import Derived.ChangeSame
import Derived.Carry
import Derived.Laws.Rows
import Derived.Laws.Tables
import Derived.Laws.CopyOwn
import Derived.Lib.SmallJoins
import Derived.Test.YtncanmdgdflnpaaGreatDoorChecked
import Derived.Test.YtncanmdgdflnpaaGreatDoorRows
import Derived.Lib.IndexAny
import Derived.Laws.AppendOwn
import Derived.Laws.OwnMore
import Derived.Deep.Draws
import Derived.Laws.NewBlocks
set_option linter.all false
open List(length_cons)
open Nat(le_trans)
namespace Go.Proofs.YtncanmdgdflnpaaGreatDoor
set_option linter.all false
def Hi(p:Prop):Prop:=p
def Hi.o{p:Prop}(h:Hi p):p:=h
def Zh{p:Prop}(h:p):Hi p:=h
def zU{S:World->Prop}{X K:Act->World->Prop}{a:Act}{w:World}(h:Go.Shut (∀a w,S w->(S w->X a w)->K a w)):S w->(S w->X a w)->K a w:=h.out a w
def zI(i:Nat)(h:-9223372036854775808<=(i:Int)+1/\(i:Int)+1<=9223372036854775807:=by omega):IntKind.i64.wrap ((i:Int)+1)=(i:Int)+1:=IntWalk.i64_in _ h
theorem zE{p:Prop}[Decidable p](h:p):decide p=true:=decide_eq_true h
theorem zF{p:Prop}[Decidable p](h:¬p):decide p=false:=decide_eq_false h
theorem zG{α:Type}(a:α):∃b,b=a:=⟨a,rfl⟩
theorem zt{P Q:Prop}(q:Q)(h:Q->P:=by intro _;omega):P:=h q
theorem zu{P Q R:Prop}(q:Q)(r:R)(h:Q->R->P:=by intro _ _;omega):P:=h q r
def zo{P:Prop}(h:P:=by omega):P:=h
def zk{P:Prop}(h:P:=by kernel_rfl):P:=h
def zd{P:Prop}(h:P:=by decide):P:=h
def zp{P:Prop}(h:P:=by simp):P:=h
def zq{P:Prop}(h:P:=by(simp;omega)):P:=h
def zr{P:Prop}(h:P:=by rfl):P:=h
def ZA{α:Type}(l:List α)(i:Nat)(a:α):l.toArray.setIfInBounds i a=(l.set i a).toArray:=List.setIfInBounds_toArray l i a
def ZB{α:Type}(b:α)(x:α)(l:List α):(x::l).set 0 b=b::l:=rfl
def ZC{α:Type}(b:α)(x:α)(l:List α)(n:Nat):(x::l).set (n+1) b=x::l.set n b:=rfl
def ZD{α:Type}(l:List α)(i:Nat):l.toArray[i]?=l[i]?:=List.getElem?_toArray
def ZE{α:Type}(x:α)(l:List α)(n:Nat):(x::l)[n+1]?=l[n]?:=rfl
def ZF{α:Type}(x:α)(l:List α):(x::l)[0]?=some x:=rfl
def zX:(∀(a:Act)(d:Tmp)(v:Value),a.put (some d) v={a with tmps:=a.tmps.setIfInBounds d v})/\(∀(a:Act)(v:Value),a.put none v=a)/\(∀(α:Type)(l:List α)(i:Nat)(a:α),l.toArray.setIfInBounds i a=(l.set i a).toArray)/\(∀(α:Type)(b:α)(x:α)(l:List α),(x::l).set 0 b=b::l)/\∀(α:Type)(b:α)(x:α)(l:List α)(n:Nat),(x::l).set (n+1) b=x::l.set n b:=⟨λ_ _ _=>rfl,λ_ _=>rfl,@ZA,@ZB,@ZC⟩
def zW:(∀(α:Type)(l:List α)(i:Nat),l.toArray[i]?=l[i]?)/\(∀(α:Type)(x:α)(l:List α)(n:Nat),(x::l)[n+1]?=l[n]?)/\∀(α:Type)(x:α)(l:List α),(x::l)[0]?=some x:=⟨@ZD,@ZE,@ZF⟩
section
open Go
variable {P:Program}{md:Region.Mode}{ops:Array Oper}{Q:Exit->Act->World->Prop}{S:World->Prop}
def ZT{i:Nat}{d:Option Tmp}{o:Op}{t:TypeId}{p:String}{af:Array Edge}{g:Option (Nat×Bool)}{v:Value}{fuel:Nat}{Qbr:Array Bool}{a:Act}{w:World}(hi:ops[i]?=some ⟨d,o,t,p,af,g⟩)(hy:YieldsIf P ops S ⟨d,o,t,p,af,g⟩ v a)
  (h:wpAnyH P md ops Q S fuel (Qbr.setIfInBounds i true) (a.put d v) w) (hS:S w:=by assumption)
  (hs:Region.noSelect ops=true:=by kernel_rfl) (hf:Region.free md ops Qbr i=true:=by kernel_rfl) (hr:(Region.ready md ops Qbr).contains i=true:=by kernel_rfl)
  (hQ:∀c a w,Q (.panic c) (a.put d v) w->Q (.panic c) a w:=by exact λ_ _ _ h=>h):wpAnyH P md ops Q S (fuel+1) Qbr a w:=wpAnyH_take hi hs hf hr hQ hy hS h
def ZR{rs:List Nat}{fuel:Nat}{Qbr:Array Bool}{a:Act}{w:World}(h:AllReadyH P md ops Q S fuel Qbr a w rs)(hr:Region.ready md ops Qbr=rs:=by kernel_rfl)(hne:rs≠[]:=by simp):wpAnyH P md ops Q S (fuel+1) Qbr a w:=wpAnyH_ready hr hne h
def ZS(i:Nat){d:Option Tmp}{o:Op}{t:TypeId}{p:String}{af:Array Edge}{g:Option (Nat×Bool)}{fuel:Nat}{Qbr:Array Bool}{a:Act}{w:World}(ho:ops[i]?=some ⟨d,o,t,p,af,g⟩)
  (h:∀K':Act->World->Prop,Shut (∀a w,S w->(S w->wpAnyH P md ops Q S fuel (Qbr.setIfInBounds i true) a w)->K' a w)->if Region.wanted ⟨d,o,t,p,af,g⟩ (yielded ops a.tmps)=true then Oper.wp P ⟨d,o,t,p,af,g⟩ a w K' Q else K' (a.put d undef) w)
  (hr:Region.ready md ops Qbr=[i]:=by kernel_rfl):wpAnyH P md ops Q S (fuel+1) Qbr a w:=wpAnyH_ready hr zp (AllReadyH.cons ho h AllReadyH.nil)
def Zt{α:Type}{a:Option α}{b c:α}(h:a=some b)(e:b=c:=by kernel_rfl):a=some c:=by rw[h,e]
def ZyQ{P:Prop}(h:P:=by intro wX hSw;(try dsimp only at hSw);go_simp<;>with_reducible rfl):P:=h
end
open Go in
def zzl{n:Nat}:n<=n:=Nat.le_refl n
open Go in
def zzb{B:Nat}{w:World}:Go.RowKit.Below B w w:=Go.RowKit.Below.refl B w
open Go in
def zzq{α:Type}[BEq α][LawfulBEq α]{a b:α}(h:a≠b):(a==b)=false:=beq_eq_false_iff_ne.2 h
open Go in
def zzw(w:World)(o:Obj):(w.alloc o).heap[w.heap.size]?=some o:=Go.heap_alloc_new w o
end Go.Proofs.YtncanmdgdflnpaaGreatDoor
namespace Go.Proofs
open Go.Proofs.Tryz YtncanmdgdflnpaaGreatDoor
open Go.Shelf
def Tryz.lays137_ren:Go.Shelf.Ren:=⟨fun|137=>127|217=>146|266=>159|n=>n,fun|9=>9|5=>5|3=>3|n=>n,fun|n=>n⟩
def Tryz.lays137:Go.Proofs.Lays.n137 prog Tryz.lays137_ren:=⟨by kernel_rfl,Zt func127,Zt func146,Zt func159,underlying3,isAgg3,sizeOf3,zeroValue3,underlying5,isAgg5,sizeOf5,zeroValue5,underlying9,isAgg9,sizeOf9,zeroValue9⟩
open Go.RowKit in
def Tryz.strings_IndexByte(s:ByteArray)(c:Int)(w:World):
  Calls prog 127 #[.string s,.int .u8 c] w λe w'=>e=.returned (.int .i64 (Lib.indexByte s.data.toList c.toNat.toUInt8))/\w'=w:=Any.strings_IndexByte Tryz.lays137 s c w
def Tryz.laysM171_ren:Go.Shelf.Ren:=⟨fun|171=>144|243=>158|246=>169|283=>173|284=>174|285=>175|286=>176|129=>179|317=>178|318=>180|319=>181|320=>182|337=>183|338=>184|n=>n,fun|3=>3|9=>9|2=>2|4=>4|171=>214|0=>0|53=>98|37=>161|5=>5|173=>217|212=>219|51=>220|20=>20|213=>221|46=>160|232=>224|233=>225|n=>n,fun|17=>3|18=>4|19=>5|n=>n⟩
def Tryz.laysM171:Go.Proofs.LaysM.n171 prog Tryz.laysM171_ren:={
 mixed:=by kernel_rfl
 f129:=Zt func179
 f171:=Zt func144
 f243:=Zt func158
 f246:=Zt func169
 f283:=Zt func173
 f284:=Zt func174
 f285:=Zt func175
 f286:=Zt func176
 f317:=Zt func178
 f318:=Zt func180
 f319:=Zt func181
 f320:=Zt func182
 f337:=Zt func183
 f338:=Zt func184
 t0:=underlying0
 a0:=isAgg0
 z0:=sizeOf0
 v0:=zeroValue0
 t2:=underlying2
 a2:=isAgg2
 z2:=sizeOf2
 v2:=zeroValue2
 t3:=underlying3
 a3:=isAgg3
 z3:=sizeOf3
 v3:=zeroValue3
 t4:=underlying4
 a4:=isAgg4
 z4:=sizeOf4
 v4:=zeroValue4
 t5:=underlying5
 a5:=isAgg5
 z5:=sizeOf5
 v5:=zeroValue5
 t9:=underlying9
 a9:=isAgg9
 z9:=sizeOf9
 v9:=zeroValue9
 t20:=underlying20
 a20:=isAgg20
 z20:=sizeOf20
 v20:=zeroValue20
 t37:=underlying161
 a37:=isAgg161
 z37:=sizeOf161
 v37:=zeroValue161
 t46:=underlying160
 a46:=isAgg160
 z46:=sizeOf160
 v46:=zeroValue160
 t51:=underlying220
 a51:=isAgg220
 z51:=sizeOf220
 v51:=zeroValue220
 t53:=underlying98
 a53:=isAgg98
 z53:=sizeOf98
 v53:=zeroValue98
 t171:=underlying214
 a171:=isAgg214
 z171:=sizeOf214
 v171:=zeroValue214
 t173:=underlying217
 a173:=isAgg217
 z173:=sizeOf217
 v173:=zeroValue217
 t212:=underlying219
 a212:=isAgg219
 z212:=sizeOf219
 v212:=zeroValue219
 t213:=underlying221
 a213:=isAgg221
 z213:=sizeOf221
 t232:=underlying224
 a232:=isAgg224
 z232:=sizeOf224
 v232:=zeroValue224
 t233:=underlying225
 a233:=isAgg225
 z233:=sizeOf225
 v233:=zeroValue225
 g17:=by kernel_rfl
 g18:=by kernel_rfl
 g19:=by kernel_rfl
 i0:=by kernel_rfl
 i2:=by kernel_rfl
 i3:=by kernel_rfl
 i4:=by kernel_rfl
 i5:=by kernel_rfl
 i9:=by kernel_rfl
 i20:=by kernel_rfl
 i37:=by kernel_rfl
 i46:=by kernel_rfl
 i51:=by kernel_rfl
 i53:=by kernel_rfl
 i171:=by kernel_rfl
 i173:=by kernel_rfl
 i212:=by kernel_rfl
 i232:=by kernel_rfl
 i233:=by kernel_rfl
 m17:=by kernel_rfl
 m18:=by kernel_rfl
 m19:=by kernel_rfl}
open Go.RowKit Go.Sort Go.Lib in
def Tryz.strconv_Itoa(n:Int)(h0:-9223372036854775808<=n)(h1:n<=9223372036854775807)(w:World)(AC:Lib.TabIs prog w "internal/strconv.uint64pow10" .u64 Lib.pow10Tab):
  Calls prog 144 #[.int .i64 n] w λe w'=>e=.returned (.string ⟨(Lib.itoa n).toArray⟩)/\∃k os,w'=grow (w.drewN k) os:=Any.strconv_Itoa Tryz.laysM171 n h0 h1 w AC
def Tryz.laysC172_ren:Go.Shelf.Ren:=⟨fun|172=>124|244=>142|245=>143|247=>153|279=>154|280=>155|281=>156|282=>157|287=>166|316=>167|171=>144|205=>168|321=>171|322=>172|243=>158|246=>169|283=>173|284=>174|285=>175|286=>176|129=>179|317=>178|318=>180|319=>181|320=>182|337=>183|338=>184|n=>n,fun|9=>9|3=>3|75=>183|76=>184|4=>4|5=>5|167=>196|37=>161|0=>0|85=>197|2=>2|168=>199|53=>98|175=>203|46=>160|210=>206|127=>210|145=>213|143=>211|21=>21|171=>214|173=>217|212=>219|51=>220|20=>20|213=>221|232=>224|233=>225|80=>128|n=>n,fun|15=>0|16=>1|17=>3|18=>4|19=>5|n=>n⟩
def Tryz.laysC172:Go.Proofs.LaysC.n172 prog Tryz.laysC172_ren:={
 mixed:=by kernel_rfl
 f129:=Zt func179
 f171:=Zt func144
 f172:=Zt func124
 f205:=Zt func168
 f243:=Zt func158
 f244:=Zt func142
 f245:=Zt func143
 f246:=Zt func169
 f247:=Zt func153
 f279:=Zt func154
 f280:=Zt func155
 f281:=Zt func156
 f282:=Zt func157
 f283:=Zt func173
 f284:=Zt func174
 f285:=Zt func175
 f286:=Zt func176
 f287:=Zt func166
 f316:=Zt func167
 f317:=Zt func178
 f318:=Zt func180
 f319:=Zt func181
 f320:=Zt func182
 f321:=Zt func171
 f322:=Zt func172
 f337:=Zt func183
 f338:=Zt func184
 t0:=underlying0
 a0:=isAgg0
 z0:=sizeOf0
 v0:=zeroValue0
 t2:=underlying2
 a2:=isAgg2
 z2:=sizeOf2
 v2:=zeroValue2
 t3:=underlying3
 a3:=isAgg3
 z3:=sizeOf3
 v3:=zeroValue3
 t4:=underlying4
 a4:=isAgg4
 z4:=sizeOf4
 v4:=zeroValue4
 t5:=underlying5
 a5:=isAgg5
 z5:=sizeOf5
 v5:=zeroValue5
 t9:=underlying9
 a9:=isAgg9
 z9:=sizeOf9
 v9:=zeroValue9
 t20:=underlying20
 a20:=isAgg20
 z20:=sizeOf20
 v20:=zeroValue20
 t21:=underlying21
 a21:=isAgg21
 z21:=sizeOf21
 v21:=zeroValue21
 t37:=underlying161
 a37:=isAgg161
 z37:=sizeOf161
 v37:=zeroValue161
 t46:=underlying160
 a46:=isAgg160
 z46:=sizeOf160
 v46:=zeroValue160
 t51:=underlying220
 a51:=isAgg220
 z51:=sizeOf220
 v51:=zeroValue220
 t53:=underlying98
 a53:=isAgg98
 z53:=sizeOf98
 v53:=zeroValue98
 t75:=underlying183
 a75:=isAgg183
 z75:=sizeOf183
 v75:=zeroValue183
 t76:=underlying184
 a76:=isAgg184
 z76:=sizeOf184
 v76:=zeroValue184
 t85:=underlying197
 a85:=isAgg197
 z85:=sizeOf197
 v85:=zeroValue197
 t127:=underlying210
 a127:=isAgg210
 z127:=sizeOf210
 v127:=zeroValue210
 t143:=underlying211
 a143:=isAgg211
 z143:=sizeOf211
 v143:=zeroValue211
 t145:=underlying213
 a145:=isAgg213
 z145:=sizeOf213
 v145:=zeroValue213
 t167:=underlying196
 a167:=isAgg196
 z167:=sizeOf196
 v167:=zeroValue196
 t168:=underlying199
 a168:=isAgg199
 z168:=sizeOf199
 v168:=zeroValue199
 t171:=underlying214
 a171:=isAgg214
 z171:=sizeOf214
 v171:=zeroValue214
 t173:=underlying217
 a173:=isAgg217
 z173:=sizeOf217
 v173:=zeroValue217
 t175:=underlying203
 a175:=isAgg203
 z175:=sizeOf203
 v175:=zeroValue203
 t210:=underlying206
 a210:=isAgg206
 z210:=sizeOf206
 v210:=zeroValue206
 t212:=underlying219
 a212:=isAgg219
 z212:=sizeOf219
 v212:=zeroValue219
 t213:=underlying221
 a213:=isAgg221
 z213:=sizeOf221
 t232:=underlying224
 a232:=isAgg224
 z232:=sizeOf224
 v232:=zeroValue224
 t233:=underlying225
 a233:=isAgg225
 z233:=sizeOf225
 v233:=zeroValue225
 g15:=by kernel_rfl
 g16:=by kernel_rfl
 g17:=by kernel_rfl
 g18:=by kernel_rfl
 g19:=by kernel_rfl
 t80:=underlying128
 a80:=isAgg128
 z80:=sizeOf128
 v80:=zeroValue128
 i0:=by kernel_rfl
 i2:=by kernel_rfl
 i3:=by kernel_rfl
 i4:=by kernel_rfl
 i5:=by kernel_rfl
 i9:=by kernel_rfl
 i20:=by kernel_rfl
 i21:=by kernel_rfl
 i37:=by kernel_rfl
 i46:=by kernel_rfl
 i51:=by kernel_rfl
 i53:=by kernel_rfl
 i75:=by kernel_rfl
 i76:=by kernel_rfl
 i80:=by kernel_rfl
 i85:=by kernel_rfl
 i127:=by kernel_rfl
 i143:=by kernel_rfl
 i145:=by kernel_rfl
 i167:=by kernel_rfl
 i168:=by kernel_rfl
 i171:=by kernel_rfl
 i173:=by kernel_rfl
 i175:=by kernel_rfl
 i210:=by kernel_rfl
 i212:=by kernel_rfl
 i232:=by kernel_rfl
 i233:=by kernel_rfl
 m15:=by kernel_rfl
 m16:=by kernel_rfl
 m17:=by kernel_rfl
 m18:=by kernel_rfl
 m19:=by kernel_rfl
 c0:=by kernel_rfl
 c2:=by kernel_rfl
 c3:=by kernel_rfl
 c4:=by kernel_rfl
 c5:=by kernel_rfl
 c9:=by kernel_rfl
 c20:=by kernel_rfl
 c21:=by kernel_rfl
 c37:=by kernel_rfl
 c46:=by kernel_rfl
 c51:=by kernel_rfl
 c53:=by kernel_rfl
 c75:=by kernel_rfl
 c76:=by kernel_rfl
 c80:=by kernel_rfl
 c85:=by kernel_rfl
 c127:=by kernel_rfl
 c143:=by kernel_rfl
 c145:=by kernel_rfl
 c167:=by kernel_rfl
 c168:=by kernel_rfl
 c171:=by kernel_rfl
 c173:=by kernel_rfl
 c175:=by kernel_rfl
 c210:=by kernel_rfl
 c212:=by kernel_rfl
 c213:=by kernel_rfl
 c232:=by kernel_rfl
 c233:=by kernel_rfl}
open Go.RowKit in
def Tryz.strconv_Atoi_ok(s:ByteArray)(hmax:s.size<=9223372036854775806)(v:Int)(h:Lib.atoiAll s.data.toList=.ok v)(w:World):
  Calls prog 124 #[.string s] w λe w'=>e=.returned (.tuple #[.int .i64 v,.nilIface])/\(w'=w\/∃t,w'=Lib.bytesWorld w 5 t):=Any.strconv_Atoi_ok Tryz.laysC172 s hmax v h w
open Go.RowKit in
def Tryz.strconv_Atoi_syntax_var(s:ByteArray)(A9:s.size<=281474976710656)(h:Lib.atoiAll s.data.toList=Lib.atoiAll [])(tp:TypeId)(p:Value)(w:World)(M5:w.var? prog "strconv.ErrSyntax"=some #[.iface tp p]):
  Calls prog 124 #[.string s] w λe w'=>∃N,e=.returned (.tuple #[.int .i64 0,.iface 199 (.pointer (some ⟨N,0,none⟩))])/\w.heap.size<=N/\w'.heap[N]?=some (.cells #[.string ⟨#[65,116,111,105]⟩,.string s,.iface tp p] 206 (0,0))/\Below w.heap.size w w':=Any.strconv_Atoi_syntax_var Tryz.laysC172 s A9 h tp p w M5
open Go.RowKit in
def Tryz.strconv_Atoi_range_var(s:ByteArray)(A9:s.size<=281474976710656)(h:Lib.atoiAll s.data.toList=.range)(tp:TypeId)(p:Value)(w:World)(M5:w.var? prog "strconv.ErrRange"=some #[.iface tp p]):
  Calls prog 124 #[.string s] w λe w'=>∃N,e=.returned (.tuple #[.int .i64 (Lib.atoiSat s.data.toList),.iface 199 (.pointer (some ⟨N,0,none⟩))])/\w.heap.size<=N/\w'.heap[N]?=some (.cells #[.string ⟨#[65,116,111,105]⟩,.string s,.iface tp p] 206 (0,0))/\Below w.heap.size w w':=Any.strconv_Atoi_range_var Tryz.laysC172 s A9 h tp p w M5
def Tryz.lays99_ren:Go.Shelf.Ren:=⟨fun|99=>126|206=>145|n=>n,fun|9=>9|4=>4|3=>3|n=>n,fun|n=>n⟩
def Tryz.lays99:Go.Proofs.Lays.n99 prog Tryz.lays99_ren:=⟨by kernel_rfl,Zt func126,Zt func145,underlying3,isAgg3,sizeOf3,zeroValue3,underlying4,isAgg4,sizeOf4,zeroValue4,underlying9,isAgg9,sizeOf9,zeroValue9⟩
open Go.RowKit Go.Lib in
def Tryz.strings_HasPrefix(s p:ByteArray)(w:World):
  Calls prog 126 #[.string s,.string p] w λe w'=>e=.returned (.bool (Lib.hasPrefix s.data.toList p.data.toList))/\w'=w:=Any.strings_HasPrefix Tryz.lays99 s p w
def Tryz.lays264_ren:Go.Shelf.Ren:=⟨fun|264=>56|n=>n,fun|53=>98|46=>160|n=>n,fun|n=>n⟩
def Tryz.lays264:Go.Proofs.Lays.n264 prog Tryz.lays264_ren:=⟨by kernel_rfl,Zt func56,underlying160,isAgg160,sizeOf160,zeroValue160,underlying98,isAgg98,sizeOf98,zeroValue98⟩
open Go.RowKit Go.Lib in
def Tryz.bits_Mul64(x y:Nat)(hx:x<18446744073709551616)(hy:y<18446744073709551616)(w:World):
  Calls prog 56 #[.int .u64 x,.int .u64 y] w λe w'=>e=.returned (.tuple #[.int .u64 ((x*y / 18446744073709551616:Nat):Int),.int .u64 ((x*y % 18446744073709551616:Nat):Int)])/\w'=w:=Any.bits_Mul64 Tryz.lays264 x y hx hy w
def Tryz.lays110_ren:Go.Shelf.Ren:=⟨fun|110=>74|109=>107|n=>n,fun|31=>23|9=>9|4=>4|3=>3|0=>0|n=>n,fun|n=>n⟩
def Tryz.lays110:Go.Proofs.Lays.n110 prog Tryz.lays110_ren:=⟨by kernel_rfl,Zt func107,Zt func74,underlying0,isAgg0,sizeOf0,zeroValue0,underlying3,isAgg3,sizeOf3,zeroValue3,underlying4,isAgg4,sizeOf4,zeroValue4,underlying9,isAgg9,sizeOf9,zeroValue9,underlying23,isAgg23,sizeOf23,zeroValue23⟩
open Go.Lib in
def Tryz.slices_Contains_string(b off n c:Nat)(zs:List ByteArray)(x:ByteArray)(w:World)(hz:n<=zs.length)(N6:n<=9223372036854775807)(hc:∀j,j<zs.length->w.cell? ⟨b,off+j,none⟩=some (.string (zs.getD j ByteArray.empty))):
  Calls prog 74 #[.slice (some ⟨b,off,none⟩) n c,.string x] w λe w'=>e=.returned (.bool (Lib.containsS (zs.take n) x))/\w'=w:=Any.slices_Contains_string Tryz.lays110 b off n c zs x w hz N6 hc
open Go.Lib in
def Tryz.slices_Contains_string_empty(a:Option Addr)(c:Nat)(x:ByteArray)(w:World):
  Calls prog 74 #[.slice a 0 c,.string x] w λe w'=>e=.returned (.bool false)/\w'=w:=Any.slices_Contains_string_empty Tryz.lays110 a c x w
end Go.Proofs
namespace Go.Proofs.YtncanmdgdflnpaaGreatDoor
open Go Go.Lib
open _root_.Go.Proofs.Tryz
set_option linter.all false
set_option maxRecDepth 100000
set_option maxHeartbeats 32000000
def Qat(a:Int):Prop:=-9223372036854775808<=a/\a<=9223372036854775807
def QaL(l:List UInt8)(lo hi:Int):Option Int:=
 match Lib.atoiAll l with
 |.ok n=>if Lib.itoa n=l/\lo<=n/\n<=hi then some n else none
 |_=>none
def JcA{l:List UInt8}{lo hi m:Int}(h:QaL l lo hi=some m):itoa m=l/\Qat m/\lo<=m/\m<=hi:=by
 unfold QaL at h;split at h
 ·rename_i n hn;have hb:=atoiAll_bounds hn;split at h
  ·rename_i hc;injection h with h;subst h;exact⟨hc.1,hb,hc.2⟩
  ·cases h
 ·cases h
open Go.ChangeShapes Go.WideShapes Go.ChangeAt Go.RowKit Go.Lib
def Qcz(w:World)(n:Int)(e:Ending)(w':World):Prop:=e=.returned (.int .i64 n)/\Below w.heap.size w w'
def J2{B:Nat}{a w:World}(h:Below B a w)(n:Nat):Below B a (w.drewN n):=⟨h.os,h.tape,h.output,h.size,h.block⟩
def QkJ(w:World)(n:Int)(ok:Bool)(e:Ending)(w':World):Prop:=e=.returned (.tuple #[.int .i64 n,.bool ok])/\Below w.heap.size w w'
def Qfl(w:World)(b:Bool)(e:Ending)(w':World):Prop:=e=.returned (.bool b)/\Below w.heap.size w w'
def Qbj(v:Value)(w:World)(e:Ending)(w':World):Prop:=e=.returned v/\w=w'
def bs(l:List UInt8):ByteArray:=⟨l.toArray⟩
abbrev By:=List UInt8
abbrev Iv(n:Int):Value:=.int .i64 n
abbrev Sv(s:By):Value:=.string (bs s)
abbrev Nl:Value:=.slice none 0 0
abbrev Em:Value:=.string ⟨#[]⟩
abbrev Pt(b:Nat):Value:=.pointer (some ⟨b,0,none⟩)
def JP(l:By):(bs l).size=l.length:=by simp[bs,ByteArray.size]
def Jeq(s:ByteArray):∃l,s=bs l:=⟨s.data.toList,by simp[bs]⟩
def Jk(l:By):(bs l).toList=l:=by rw[ByteArray.toList_eq];simp[bs]
def Vm(l:By):(bs l).data.toList=l:=by simp[bs]
structure Laid(w:World):Prop where
 tab:Lib.TabIs prog w "internal/strconv.uint64pow10" .u64 Lib.pow10Tab
 syn:∃tp p,w.var? prog "strconv.ErrSyntax"=some #[.iface tp p]
 ran:∃tp p,w.var? prog "strconv.ErrRange"=some #[.iface tp p]
 size:5<=w.heap.size
def Qoa:prog.globalNamed "strconv.ErrSyntax"=some 0:=zk
def Qob:prog.globalNamed "strconv.ErrRange"=some 1:=zk
def QnZ:prog.globalNamed "internal/strconv.uint64pow10"=some 3:=zk
def Laid.below{w w':World}(h:Laid w)(hb:Below w.heap.size w w'):Laid w':=by
 have hs:=h.size;refine⟨?_,?_,?_,Nat.le_trans h.size hb.size⟩
 ·exact TabIs_below QnZ h.tab hb
 ·obtain⟨tp,p,hv⟩:=h.syn;exact⟨tp,p,var?_below hb Qoa zo hv⟩
 ·obtain⟨tp,p,hv⟩:=h.ran;exact⟨tp,p,var?_below hb Qob zo hv⟩
def Qgw(w:World)(l:By)(e:Ending)(w':World):Prop:=e=.returned (Sv l)/\Below w.heap.size w w'
def Jgz(n:Int)(w:World)(hn:Qat n)(hL:Laid w):Calls prog 125 #[Iv n] w (Qgw w (Lib.itoa n)):=by
 have c:Calls prog 144 #[Iv n] w (Qgw w (Lib.itoa n)):=(Tryz.strconv_Itoa n hn.1 hn.2 w hL.tab).mono (by
  rintro e w' ⟨rfl,k,os,rfl⟩
  exact⟨rfl,below_grown_sl _ w k os zzl⟩)
 go_enter func125,ntmps125;go_wp2_with (go_at_call 144;refine c.mono ?_;rintro e w1 ⟨rfl,hb⟩);go_ret;exact⟨rfl,hb⟩
def Qmp{P:Prop}(h:P:=by
  go_enter func99,ntmps99;go_wp2_with (first|(go_at_call 124;refine c.mono ?_;rintro e w1 ⟨rfl,A0⟩)|(go_at_call 125;refine(Jgz n _ hwf (hL.below A0)).mono ?_;rintro e w2 ⟨rfl,I0⟩));go_ret2
  exact⟨by rw[hP.o];rfl,A0.trans (I0.mono A0.size)⟩):P:=h
def Qnt{P:Prop}(h:P:=by
  have hP:Hi (QaL l lo hi=none):=by unfold Hi QaL;rw[ha]
  go_enter func99,ntmps99;go_wp2_with (go_at_call 124;refine c.mono ?_;rintro e w1 ⟨N,rfl,A0⟩);go_ret2
  exact⟨by rw[hP.o];rfl,A0⟩):P:=h
def Jer(l:By)(lo hi:Int)(w:World)(hl:l.length<=281474976710656)(hL:Laid w):
  Calls prog 99 #[Sv l,Iv lo,Iv hi] w (QkJ w ((QaL l lo hi).getD 0) (QaL l lo hi).isSome):=by
 have hsz:(bs l).size<=281474976710656:=by rw[JP];exact hl
 cases ha:Lib.atoiAll l with
 |ok n=>
  have c:Calls prog 124 #[Sv l] w (λe w'=>e=.returned (.tuple #[Iv n,.nilIface])/\Below w.heap.size w w'):=(Tryz.strconv_Atoi_ok (bs l) zo n (by rw[Vm];exact ha) w).mono (by
   rintro e w' ⟨rfl,h⟩;refine⟨rfl,?_⟩
   rcases h with rfl|⟨t,rfl⟩
   ·exact zzb
   ·exact⟨rfl,rfl,rfl,by rw[bytesWorld_size];omega,λk hk=>bytesWorld_at_old w 5 t k hk⟩)
  have hwf:Qat n:=by have:=Lib.atoiAll_bounds ha;exact this
  have ht:=Jk l;have X8:=Jk (Lib.itoa n)
  by_cases heq:Lib.itoa n=l
  ·have hq:(Lib.itoa n==l)=true:=by simpa using heq
   by_cases h1:n<lo
   ·have hP:Hi (QaL l lo hi=none):=by unfold Hi QaL;rw[ha];simp only;rw[if_neg zo]
    have d1:decide (n<lo)=true:=zE h1;clear heq h1;exact Qmp
   ·have d1:decide (n<lo)=false:=zF h1
    by_cases h2:hi<n
    ·have hP:Hi (QaL l lo hi=none):=by unfold Hi QaL;rw[ha];simp only;rw[if_neg zo]
     have d2:decide (hi<n)=true:=zE h2;clear heq h1 h2;exact Qmp
    ·have hP:Hi (QaL l lo hi=some n):=by unfold Hi QaL;rw[ha];simp only;rw[if_pos ⟨heq,by omega,by omega⟩]
     have d2:decide (hi<n)=false:=zF h2;clear heq h1 h2;exact Qmp
  ·have hq:(Lib.itoa n==l)=false:=by simpa using heq
   have hP:Hi (QaL l lo hi=none):=by unfold Hi QaL;rw[ha];simp only;rw[if_neg (by rintro⟨h,_⟩;exact heq h)]
   clear heq;exact Qmp
 |range=>
  obtain⟨tp,p,hv⟩:=hL.ran
  have c:Calls prog 124 #[Sv l] w (λe w'=>∃N:Nat,e=.returned (.tuple #[Iv (Lib.atoiSat l),.iface 199 (Pt N)])/\Below w.heap.size w w'):=(Tryz.strconv_Atoi_range_var (bs l) hsz (by rw[Vm];exact ha) tp p w hv).mono (by
   rintro e w' ⟨N,rfl,_,_,hb⟩
   exact⟨N,by rw[Vm],hb⟩)
  exact Qnt
 |_=>
  obtain⟨tp,p,hv⟩:=hL.syn
  have c:Calls prog 124 #[Sv l] w (λe w'=>∃N:Nat,e=.returned (.tuple #[Iv 0,.iface 199 (Pt N)])/\Below w.heap.size w w'):=(Tryz.strconv_Atoi_syntax_var (bs l) hsz (by rw[Vm];exact ha) tp p w hv).mono (by
   rintro e w' ⟨N,rfl,_,_,hb⟩
   exact⟨N,rfl,hb⟩)
  exact Qnt
def own:ownKnob prog.godebug=none:=zk
def Qis:laidOutB prog=true:=zk
def Qbr:List (String×DataW Unit):=[("math/bits.deBruijn32tab",Rows.laid_math_bits_deBruijn32tab),("math/bits.deBruijn64tab",Rows.laid_math_bits_deBruijn64tab),("internal/strconv.uint64pow10",Rows.laid_internal_strconv_uint64pow10),("strconv.ErrRange",Rows.laid_strconv_ErrRange),("strconv.ErrSyntax",Rows.laid_strconv_ErrSyntax)]
def Qop:prog.globalNamed "math/bits.deBruijn64tab"=some 5:=zk
def Jdt{P:Program}{W:World}{n:String}{d:DataW Unit}{r:List (String×DataW Unit)}{g:Nat}(hg:P.globalNamed n=some g)(h:laidMet P ((n,d)::r) W):g<W.heap.size:=by
 obtain⟨ps,⟨g',t',cs,xA,p,q,yA,zA,M5,hd,_,_⟩,_⟩:=h;obtain rfl:=Option.some.inj (hg.symm.trans yA);unfold World.var? at M5;rw[hg]at M5;simp only[Option.bind_some]at M5;refine Nat.lt_of_not_le λhn=>?_
 rw[Array.getElem?_eq_none hn]at M5
 cases M5
def Jim{W:World}(h:laidMet prog Qbr W):Laid W:=by
 have h2:=h.tail;have h3:=h.tail.tail;have h4:=h3.tail;have h5:=h4.tail;have hsz:=Jdt Qop h2;obtain⟨a1,s1,yA,_⟩:=laid_sentinel h4 (g:=1) (ti:=183) (tp:=211) (te:=213) Qob zk underlying183 (typeName_ptr_named (nm:="errors.errorString") zk zk zd) underlying211 underlying213 rfl rfl underlying9 zk zk;obtain⟨a2,s2,xA,_⟩:=laid_sentinel h5 (g:=0) (ti:=183) (tp:=211) (te:=213) Qoa zk underlying183 (typeName_ptr_named (nm:="errors.errorString") zk zk zd) underlying211 underlying213 rfl rfl underlying9 zk zk;refine⟨?_,⟨_,_,xA⟩,⟨_,_,yA⟩,by omega⟩;exact Lib.tabIs_of_head (e:=98) (t:=219) (n:=20) (g:=3) QnZ zk underlying219 underlying98 zk zk h3
abbrev Qoe:ByteArray:={data:=#[105,110,118,97,108,105,100,32,115,121,110,116,97,120]}
abbrev Qof:ByteArray:={data:=#[118,97,108,117,101,32,111,117,116,32,111,102,32,114,97,110,103,101]}
def QmM:List Int:=[0,1,28,2,29,14,24,3,30,22,20,15,25,17,4,8,31,27,13,23,21,19,16,7,26,12,18,6,11,5,10,9]
def QmL:List Int:=[0,1,56,2,57,49,28,3,61,58,42,50,38,29,17,4,62,47,59,36,45,43,51,22,53,39,33,30,24,18,12,5,63,55,48,27,60,41,37,16,46,35,44,21,52,32,23,11,54,26,40,15,34,20,31,10,25,14,19,9,13,8,7,6]
noncomputable def low:Nat:=(World.holding prog default ⟨#[],#[],[]⟩).heap.size
noncomputable def put(c:Array Value):Obj->Obj
 |.cells _ t frozen=>.cells c t frozen
 |o=>o
noncomputable def Qet(os:Os):World:=
 let w0:=World.holding prog os ⟨#[.cells #[.string Qoe] 213,.cells #[.string Qof] 213],#[],[]⟩
 {w0 with heap:=((((w0.heap.modify 0 (put #[.iface 211 (Pt low)])).modify 1 (put #[.iface 211 (.pointer (some ⟨low+1,0,none⟩))])).modify 3 (put (Lib.pow10Tab.map λz=>Value.int .u64 z).toArray)).modify 4 (put (QmM.map λz=>Value.int .u8 z).toArray)).modify 5 (put (QmL.map λz=>Value.int .u8 z).toArray)}
def ZO(os:Os)(args:Array Value):laidMet prog Qbr ((Qet os).forCall (λ_ _=>0) ⟨#[],args,[]⟩).memory:=
 laidMet_of_run' 8 zk zk
def Qew(c:UInt8):Bool:=c==9||c==10||c==13||c==32
def Qdg(c:UInt8):Bool:=decide (97<=c.toNat)&&decide (c.toNat<=122)
def QeL(c:UInt8):Bool:=decide (48<=c.toNat)&&decide (c.toNat<=57)
def QcQ(c:UInt8):Bool:=Qdg c||QeL c||c==95
def Qal(l:By):By:=l.takeWhile QcQ
def QaN:Nat->By->Option By
 |0,_=>none
 |_+1,[]=>none
 |f+1,c::r=>if c=34 then some [] else if c.toNat<32\/126<c.toNat\/c=92 then none else (QaN f r).map (c::·)
def Qef:List By:=[[61,61],[33,61],[60,61],[62,61]]
def QaW:By:=[40,41,44,58,61,60,62,43,45,42,47,37]
def Qay(l:By):By:=if l.take 2∈Qef then l.take 2 else if l.head?=none then [] else if l.headD 0∈QaW then [l.headD 0] else []
structure Tok where
 kind:Int
 text:By
 n:Int
 off:Int
deriving DecidableEq
def Qbv(l:By):Option (Tok×Nat):=
 match l with
 |[]=>none
 |c::r=>
  if Qdg c=true then (if (Qal l).length<=24 then some (⟨0,Qal l,0,0⟩,(Qal l).length) else none)
  else if QeL c=true then (QaL (Qal l) 0 1125899906842624).map λn=>(⟨1,[],n,0⟩,(Qal l).length)
  else if c=34 then (QaN 25 r).map λw=>(⟨2,w,0,0⟩,w.length+2)
  else if Qay l=[] then none else some (⟨3,Qay l,0,0⟩,(Qay l).length)
def wr(t:Tok):By:=if t.kind=1 then itoa t.n else if t.kind=2 then 34::(t.text++[34]) else t.text
def Yv(l:By):(Qal l).length<=l.length:=by
 unfold Qal;exact(List.takeWhile_prefix _).length_le
def Jes(l:By):l.take (Qal l).length=Qal l:=by
 have h:Qal l <+: l:=List.takeWhile_prefix _;exact(List.prefix_iff_eq_take.1 h).symm
def JbG{w r:By}(hw:∀c∈w,QcQ c=true)(hr:r.head?.map QcQ≠some true):Qal (w++r)=w:=by
 unfold Qal
 induction w with
 |nil=>
  cases r with
  |nil=>rfl
  |cons c r=>simp at hr;simp[hr]
 |cons c w ih=>
  rw[List.cons_append,List.takeWhile_cons_of_pos (hw c zp),ih λc h=>hw c (by simp[h])]
def Vc:∀(f:Nat)(l w:By),QaN f l=some w->w.length+1<=f/\w.length+1<=l.length/\l.take (w.length+1)=w++[34]:=by
 intro f
 induction f with
 |zero=>intro l w h;cases h
 |succ f ih=>
  intro l w h
  cases l with
  |nil=>cases h
  |cons c r=>
   simp only[QaN]at h;split at h
   ·rename_i hc;injection h with h;subst h;subst hc;simp
   ·split at h
    ·cases h
    ·cases hr:QaN f r with
     |none=>rw[hr]at h;cases h
     |some v=>
      rw[hr]at h;injection h with h;subst h;have:=ih r v hr;simp[this]
def Jdu(l:By):(Qay l∈Qef/\Qay l=l.take 2)\/(l.take 2∉Qef/\∃c r,l=c::r/\c∈QaW/\Qay l=[c])\/(Qay l=[]):=by
 unfold Qay
 by_cases h:l.take 2∈Qef
 ·rw[if_pos h];exact .inl ⟨h,rfl⟩
 ·rw[if_neg h]
  cases l with
  |nil=>exact .inr (.inr rfl)
  |cons c r=>
   by_cases hc:c∈QaW
   ·refine .inr (.inl ⟨h,c,r,rfl,hc,?_⟩);simp[hc]
   ·refine .inr (.inr ?_);simp[hc]
def Jet{w:By}(h:w∈Qef):w.length=2:=by
 simp[Qef]at h
 rcases h with rfl|rfl|rfl|rfl<;>rfl
def ZU(l:By):(Qay l).length<=l.length/\(Qay l).length<=2/\l.take (Qay l).length=Qay l:=by
 rcases Jdu l with⟨h,e⟩|⟨_,c,r,rfl,hc,e⟩|e
 ·have:=Jet h;rw[this];refine⟨?_,by omega,e.symm⟩;rw[e]at this;simp at this;omega
 ·rw[e];simp
 ·rw[e];simp
def Qlr{P:Prop}(h:P:=by
  refine⟨by rw[hw,Jes],?_,Yv _,by rw[hw]⟩;have hwo:QcQ c=true:=by simp[QcQ,hc]
  unfold Qal;rw[List.takeWhile_cons_of_pos hwo]
  simp):P:=h
def Jao{l:By}{t:Tok}{n:Nat}(h:Qbv l=some (t,n)):wr t=l.take n/\1<=n/\n<=l.length/\(wr t).length=n:=by
 cases l with
 |nil=>cases h
 |cons c r=>
  simp only[Qbv]at h;split at h
  ·rename_i hc;split at h
   ·rename_i R6;injection h with h;injection h with h1 h2;subst h1;subst h2;have hw:wr ⟨0,Qal (c::r),0,0⟩=Qal (c::r):=rfl;exact Qlr
   ·cases h
  ·split at h
   ·rename_i hc
    cases hp:QaL (Qal (c::r)) 0 1125899906842624 with
    |none=>rw[hp]at h;cases h
    |some m=>
     rw[hp]at h;injection h with h;injection h with h1 h2;subst h1;subst h2;have hw:wr ⟨1,[],m,0⟩=Qal (c::r):=(JcA hp).1;exact Qlr
   ·split at h
    ·rename_i hc
     cases hp:QaN 25 r with
     |none=>rw[hp]at h;cases h
     |some w=>
      rw[hp]at h;injection h with h;injection h with h1 h2;subst h1;subst h2;obtain⟨_,h3,h4⟩:=Vc _ _ _ hp;have hw:wr ⟨2,w,0,0⟩=34::(w++[34]):=rfl;refine⟨?_,by omega,by simp;omega,by rw[hw];simp⟩;rw[hw,hc,List.take_succ_cons,h4]
    ·split at h
     ·cases h
     ·rename_i hs;injection h with h;injection h with h1 h2;subst h1;subst h2;have hw:wr ⟨3,Qay (c::r),0,0⟩=Qay (c::r):=rfl;obtain⟨h1,_,h3⟩:=ZU (c::r);refine⟨by rw[hw,h3],?_,h1,by rw[hw]⟩
      cases hz:Qay (c::r) with
      |nil=>exact absurd hz hs
      |cons a b=>simp
def Yw{l:By}{t:Tok}{n:Nat}(h:Qbv l=some (t,n)):0<=t.kind/\t.kind<=3/\t.text.length<=24/\0<=t.n/\t.n<=1125899906842624/\t.off=0:=by
 cases l with
 |nil=>cases h
 |cons c r=>
  simp only[Qbv]at h;split at h
  ·split at h
   ·rename_i R6;injection h with h;injection h with h1 h2;subst h1;exact⟨by simp,by simp,R6,by simp,by simp,rfl⟩
   ·cases h
  ·split at h
   ·cases hp:QaL (Qal (c::r)) 0 1125899906842624 with
    |none=>rw[hp]at h;cases h
    |some m=>
     rw[hp]at h;injection h with h;injection h with h1 h2;subst h1;have:=JcA hp;exact⟨by simp,by simp,by simp,this.2.2.1,this.2.2.2,rfl⟩
   ·split at h
    ·cases hp:QaN 25 r with
     |none=>rw[hp]at h;cases h
     |some w=>
      rw[hp]at h;injection h with h;injection h with h1 h2;subst h1;have:=Vc _ _ _ hp;exact⟨by simp,by simp,by show w.length<=24;omega,by simp,by simp,rfl⟩
    ·split at h
     ·cases h
     ·injection h with h;injection h with h1 h2;subst h1;have:=(ZU (c::r)).2.1;exact⟨by simp,by simp,by show (Qay (c::r)).length<=24;omega,by simp,by simp,rfl⟩
inductive Qhd where
 |ok (l:List Tok)
 |err (k:Nat)
def Qhd.push(t:Tok):Qhd->Qhd
 |.ok l=>.ok (t::l)
 |.err k=>.err k
def Qfc:Nat->Nat->By->Qhd
 |0,k,_=>.ok [⟨4,[],0,k⟩]
 |_+1,k,[]=>.ok [⟨4,[],0,k⟩]
 |f+1,k,c::r=>
  if Qew c=true then Qfc f (k+1) r
  else match Qbv (c::r) with
   |none=>.err k
   |some (t,n)=>(Qfc f (k+n) ((c::r).drop n)).push {t with off:=k}
def Jdv:∀(f g k:Nat)(l:By),l.length<=f->l.length<=g->Qfc f k l=Qfc g k l:=by
 intro f
 induction f with
 |zero=>
  intro g k l h1 h2;obtain rfl:l=[]:=List.eq_nil_of_length_eq_zero zo
  cases g<;>rfl
 |succ f ih=>
  intro g k l h1 h2
  cases l with
  |nil=>cases g<;>rfl
  |cons c r=>
   cases g with
   |zero=>simp at h2
   |succ g=>
    simp only[length_cons]at h1 h2;simp only[Qfc];split
    ·exact ih g _ r zo zo
    ·cases hp:Qbv (c::r) with
     |none=>rfl
     |some x=>
      obtain⟨t,n⟩:=x;have:=(Jao hp).2.1;simp only;rw[ih g _ _ zq zq]
def sc(k:Nat)(l:By):Qhd:=Qfc l.length k l
def JcB(k:Nat):sc k []=.ok [⟨4,[],0,k⟩]:=rfl
def JgB(k:Nat){c:UInt8}(r:By)(h:Qew c=true):sc k (c::r)=sc (k+1) r:=by
 unfold sc;simp only[length_cons,Qfc];rw[if_pos h]
def ZV(k:Nat){c:UInt8}(r:By)(h:Qew c=false)(ht:Qbv (c::r)=none):sc k (c::r)=.err k:=by
 unfold sc;simp only[length_cons,Qfc];rw[if_neg (by simp[h]),ht]
def ZW(k:Nat){c:UInt8}(r:By){t:Tok}{n:Nat}(h:Qew c=false)(ht:Qbv (c::r)=some (t,n)):sc k (c::r)=(sc (k+n) ((c::r).drop n)).push {t with off:=k}:=by
 have:=(Jao ht).2.1;unfold sc;simp only[length_cons,Qfc];rw[if_neg (by simp[h]),ht];simp only;rw[Jdv _ ((c::r).drop n).length _ _ zq zzl]
def ZX{P:Nat->By->Prop}(h0:∀k,P k [])(h1:∀k c r,Qew c=true->P (k+1) r->P k (c::r))(h2:∀k c r,Qew c=false->Qbv (c::r)=none->P k (c::r))
  (h3:∀k c r t n,Qew c=false->Qbv (c::r)=some (t,n)->1<=n->n<=(c::r).length->P (k+n) ((c::r).drop n)->P k (c::r)):∀l k,P k l:=by
 have h:∀m (l:By) k,l.length<=m->P k l:=by
  intro m
  induction m with
  |zero=>
   intro l k hl;obtain rfl:l=[]:=List.eq_nil_of_length_eq_zero zo;exact h0 k
  |succ m ih=>
   intro l k hl
   cases l with
   |nil=>exact h0 k
   |cons c r=>
    simp only[length_cons]at hl
    cases hs:Qew c with
    |true=>exact h1 k c r hs (ih r _ zo)
    |false=>
     cases ht:Qbv (c::r) with
     |none=>exact h2 k c r hs ht
     |some x=>
      obtain⟨t,n⟩:=x;have hw:=Jao ht;exact h3 k c r t n hs ht hw.2.1 hw.2.2.1 (ih _ _ zq)
 intro l k;exact h _ l k zzl
def tab(f:Nat->Nat):Array Value:=((List.range 256).map λi=>Value.int .u8 (f i:Nat)).toArray
def Kb(f:Nat->Nat):(tab f).size=256:=by simp[tab]
def VT(f:Nat->Nat){i:Nat}(h:i<256):(tab f)[i]?=some (.int .u8 (f i:Nat)):=by
 simp[tab,h]
def Yx(f:Nat->Nat)(j v:Nat):(tab f).setIfInBounds j (.int .u8 (v:Nat))=tab (λi=>if i=j then v else f i):=by
 apply Array.ext_getElem?;intro i;rw[Array.getElem?_setIfInBounds,Kb]
 by_cases BC:j=i
 ·subst BC;rw[if_pos rfl]
  by_cases h:j<256
  ·rw[if_pos h,VT _ h,if_pos rfl]
  ·rw[if_neg h,Array.getElem?_eq_none (by rw[Kb];omega)]
 ·rw[if_neg BC]
  by_cases h:i<256
  ·rw[VT _ h,VT _ h,if_neg λe=>BC e.symm]
  ·rw[Array.getElem?_eq_none (by rw[Kb];omega),Array.getElem?_eq_none (by rw[Kb];omega)]
def KY{f g:Nat->Nat}(h:∀i,i<256->f i=g i):tab f=tab g:=by
 unfold tab
 congr 1
 apply List.map_congr_left;intro i hi;rw[h i (by simpa using hi)]
def zf:Nat->Nat:=λ_=>0
def ZY:Tryz.zeroCells102=tab zf:=zk
def g1(k i:Nat):Nat:=if (i=9/\0<k)\/(i=10/\1<k)\/(i=13/\2<k)\/(i=32/\3<k) then 1 else 0
def g2(k i:Nat):Nat:=if 97<=i/\i<97+k then 2 else g1 4 i
def g3(k i:Nat):Nat:=if 48<=i/\i<48+k then 3 else g2 26 i
def Qcj(i:Nat):Nat:=if i=34 then 5 else if i=95 then 4 else g3 10 i
def Qos:tab zf=tab (g1 0):=KY λi _=>by simp[g1,zf]
def Qor:tab (g1 4)=tab (g2 0):=KY λi _=>by unfold g2;rw[if_neg zo]
def Qoq:tab (g2 26)=tab (g3 0):=KY λi _=>by unfold g3;rw[if_neg zo]
def Qmm{P:Prop}(h:P:=by
  rw[show (1:Int)=((1:Nat):Int) from rfl,Yx]
  exact KY λi _=>by unfold g1;(repeat' split)<;>omega):P:=h
def Jin:(tab (g1 0)).setIfInBounds 9 (.int .u8 1)=tab (g1 1):=by
 exact Qmm
def Jio:(tab (g1 1)).setIfInBounds 10 (.int .u8 1)=tab (g1 2):=by
 exact Qmm
def Jip:(tab (g1 2)).setIfInBounds 13 (.int .u8 1)=tab (g1 3):=by
 exact Qmm
def Jiq:(tab (g1 3)).setIfInBounds 32 (.int .u8 1)=tab (g1 4):=by
 exact Qmm
def JjJ(k:Nat):(tab (g2 k)).setIfInBounds (97+k) (.int .u8 2)=tab (g2 (k+1)):=by
 rw[show (2:Int)=((2:Nat):Int) from rfl,Yx];exact KY λi _=>by unfold g2;(repeat' split)<;>first|rfl|omega
def JjK(k:Nat):(tab (g3 k)).setIfInBounds (48+k) (.int .u8 3)=tab (g3 (k+1)):=by
 rw[show (3:Int)=((3:Nat):Int) from rfl,Yx];exact KY λi _=>by unfold g3;(repeat' split)<;>first|rfl|omega
def g4(i:Nat):Nat:=if i=95 then 4 else g3 10 i
def JjL:(tab (g3 10)).setIfInBounds 95 (.int .u8 4)=tab g4:=by
 rw[show (4:Int)=((4:Nat):Int) from rfl,Yx];exact KY λi _=>by unfold g4;split<;>rfl
def Jir:(tab g4).setIfInBounds 34 (.int .u8 5)=tab Qcj:=by
 rw[show (5:Int)=((5:Nat):Int) from rfl,Yx];exact KY λi _=>by unfold Qcj g4;split<;>rfl
structure CW(B:Nat)(w wr:World)(f:Nat->Nat):Prop where
 t1:wr.heap[B+1]?=some (.cells (tab f) 102 (0,0))
 t0:wr.heap[B]?=some (.cells (tab zf) 102 (0,0))
 sz:B+2<=wr.heap.size
 bl:Below B w wr
def CW.set{B:Nat}{w wr:World}{f g:Nat->Nat}(h:CW B w wr f)(j:Nat)(v:Int)(e:(tab f).setIfInBounds j (.int .u8 v)=tab g):CW B w (wr.setCell ⟨B+1,j,none⟩ (.int .u8 v)) g:=by
 refine⟨?_,?_,?_,h.bl.setCell zp _⟩
 ·rw[heap_setCell_same _ _ _ _ _ _ h.t1,e]
 ·rw[heap_setCell_other _ _ _ _ zp,h.t0]
 ·have:=h.sz;simpa[World.setCell] using this
def CW.c1{B:Nat}{w wr:World}{f:Nat->Nat}(h:CW B w wr f){j:Nat}(hj:j<256):wr.cell? ⟨B+1,j,none⟩=some (.int .u8 (f j:Nat)):=by
 rw[cell_of_row _ _ _ _ _ _ h.t1,VT _ hj]
def CW.f1{B:Nat}{w wr:World}{f:Nat->Nat}(h:CW B w wr f)(j:Nat):wr.frozen? ⟨B+1,j,none⟩=false:=frozen_of_row _ _ _ _ _ h.t1
def Jeu(f:Nat->Nat):(tab f).all (·.oneCell')=true:=by
 rw[Array.all_eq_true_iff_forall_mem];intro x hx;simp only[tab,List.mem_toArray,List.mem_map]at hx;obtain⟨i,_,rfl⟩:=hx;rfl
def QgU:(prog.info? 102).map (·.size)=some 256:=zk
def Qle{P:Prop}(h:P:=by
  clear hC;go_wp2;go_roundw
  case rel=>exact⟨k+1,by omega,by go_num,HC.o⟩
  case measure=>simp[intOf];omega):P:=h
def JbH(w:World):Calls prog 61 #[] w (λe w'=>e=.returned (.agg (tab Qcj))/\Below w.heap.size w w'):=by
 obtain⟨B,hB⟩:∃B,w.heap.size=B:=⟨_,rfl⟩
 rw[hB];have aA:=Joins.run_convert_bytes_const_at (P:=prog) ((w.alloc (.cells Tryz.zeroCells102 102)).alloc (.cells Tryz.zeroCells102 102)) 161 5 #[.int .u8 9,.int .u8 10,.int .u8 13,.int .u8 32] 4 4 (B+1+1) (by simp[hB]) underlying161 underlying5;go_enter func61,ntmps61;go_wp2;obtain⟨W,hW⟩:∃W,W=((w.alloc (.cells Tryz.zeroCells102 102)).alloc (.cells Tryz.zeroCells102 102)).alloc (.cells #[.int .u8 9,.int .u8 10,.int .u8 13,.int .u8 32] 5 (4,5)):=⟨_,rfl⟩
 have hC:CW B w W (g1 0):=by
  have s1:(w.alloc (.cells Tryz.zeroCells102 102)).heap.size=B+1:=by simp[hB]
  have s2:((w.alloc (.cells Tryz.zeroCells102 102)).alloc (.cells Tryz.zeroCells102 102)).heap.size=B+2:=by simp[hB]
  refine⟨?_,?_,?_,?_⟩
  ·rw[hW,heap_alloc_old _ _ zo,<-s1,zzw,ZY,Qos]
  ·rw[hW,heap_alloc_old _ _ zo,heap_alloc_old _ _ zo,<-hB,zzw,ZY]
  ·rw[hW];simp[hB]
  ·rw[hW];exact((zzb.alloc zo _).alloc zo _).alloc zo _
 have hD:W.heap[B+1+1]?=some (.cells #[.int .u8 9,.int .u8 10,.int .u8 13,.int .u8 32] 5 (4,5)):=by
  have s2:((w.alloc (.cells Tryz.zeroCells102 102)).alloc (.cells Tryz.zeroCells102 102)).heap.size=B+1+1:=by simp[hB]
  rw[hW,<-s2,zzw]
 have bA:B+2<W.heap.size:=by rw[hW];simp[hB]
 rw[<-hW];clear hW aA;go_loopw [9] (λv wr=>∃k:Nat,k<=4/\v=Iv k/\CW B w wr (g1 k)/\wr.heap[B+1+1]?=some (.cells #[.int .u8 9,.int .u8 10,.int .u8 13,.int .u8 32] 5 (4,5))) λv _=>4-(intOf v).toNat
 case atStart=>exact⟨0,by omega,rfl,hC,hD⟩
 case round=>
  obtain⟨k,hk,rfl,hC,hD⟩:=hrel;have zA:=λj=>cell_of_row wr _ j _ _ _ hD
  by_cases hlt:k<4
  ·rcases (by omega:k=0\/k=1\/k=2\/k=3) with rfl|rfl|rfl|rfl
   ·have q1:=zA 0;have q2:=hC.c1 (j:=9) zo;have q3:=hC.f1 9;clear zA;have yA:=hC.set 9 1 Jin;have xA:=(heap_setCell_other wr ⟨B+1,9,none⟩ (B+1+1) (.int .u8 1) zp).trans hD;have HC:=Zh yA;have HD:=Zh xA;clear hC hD yA xA;go_wp2;go_roundw
    case rel=>exact⟨1,by omega,rfl,HC.o,HD.o⟩
    case measure=>simp[intOf]
   ·have q1:=zA 1;have q2:=hC.c1 (j:=10) zo;have q3:=hC.f1 10;clear zA;have yA:=hC.set 10 1 Jio;have xA:=(heap_setCell_other wr ⟨B+1,10,none⟩ (B+1+1) (.int .u8 1) zp).trans hD;have HC:=Zh yA;have HD:=Zh xA;clear hC hD yA xA;go_wp2;go_roundw
    case rel=>exact⟨2,by omega,rfl,HC.o,HD.o⟩
    case measure=>simp[intOf]
   ·have q1:=zA 2;have q2:=hC.c1 (j:=13) zo;have q3:=hC.f1 13;clear zA;have yA:=hC.set 13 1 Jip;have xA:=(heap_setCell_other wr ⟨B+1,13,none⟩ (B+1+1) (.int .u8 1) zp).trans hD;have HC:=Zh yA;have HD:=Zh xA;clear hC hD yA xA;go_wp2;go_roundw
    case rel=>exact⟨3,by omega,rfl,HC.o,HD.o⟩
    case measure=>simp[intOf]
   ·have q1:=zA 3;have q2:=hC.c1 (j:=32) zo;have q3:=hC.f1 32;clear zA;have yA:=hC.set 32 1 Jiq;have xA:=(heap_setCell_other wr ⟨B+1,32,none⟩ (B+1+1) (.int .u8 1) zp).trans hD;have HC:=Zh yA;have HD:=Zh xA;clear hC hD yA xA;go_wp2;go_roundw
    case rel=>exact⟨4,by omega,rfl,HC.o,HD.o⟩
    case measure=>simp[intOf]
  ·obtain rfl:k=4:=zo
   clear zA hD;have hC:CW B w wr (g2 0):=⟨by rw[<-Qor];exact hC.t1,hC.t0,hC.sz,hC.bl⟩
   have HC:=Zh hC;clear hC;go_wp2;obtain⟨w2,rfl⟩:=zG wr
   go_loopw [4] (λv wr=>∃k:Nat,k<=26/\v=.int .i32 (97+k)/\CW B w wr (g2 k)) λv _=>123-(intOf v).toNat
   case atStart=>exact⟨0,by omega,rfl,HC.o⟩
   case round=>
    clear HC;obtain⟨k,hk,rfl,hC⟩:=hrel
    by_cases hlt:k<26
    ·have q2:=hC.c1 (j:=97+k) zo;have q3:=hC.f1 (97+k);have HC:=Zh (hC.set (97+k) 2 (JjJ k));have e1:(97+(k:Int)).toNat=97+k:=zo
     exact Qle
    ·obtain rfl:k=26:=zo
     have hC:CW B w wr (g3 0):=⟨by rw[<-Qoq];exact hC.t1,hC.t0,hC.sz,hC.bl⟩
     have HC:=Zh hC;clear hC;go_wp2;obtain⟨w3,rfl⟩:=zG wr
     go_loopw [5] (λv wr=>∃k:Nat,k<=10/\v=.int .i32 (48+k)/\CW B w wr (g3 k)) λv _=>58-(intOf v).toNat
     case atStart=>exact⟨0,by omega,rfl,HC.o⟩
     case round=>
      clear HC;obtain⟨k,hk,rfl,hC⟩:=hrel
      by_cases hlt:k<10
      ·have q2:=hC.c1 (j:=48+k) zo;have q3:=hC.f1 (48+k);have HC:=Zh (hC.set (48+k) 3 (JjK k));have e1:(48+(k:Int)).toNat=48+k:=zo
       exact Qle
      ·obtain rfl:k=10:=zo
       have q2:=hC.c1 (j:=95) zo;have q3:=hC.f1 95;have uA:=hC.set 95 4 JjL;have q4:=uA.c1 (j:=34) zo;have q5:=uA.f1 34;have vA:=uA.set 34 5 Jir;have HC:=Zh vA;clear hC uA vA;have hu:(match (TypeDesc.array 256 5) with|.struct _|.array _ _=>true|_=>false)=true:=rfl
       go_wp2_with (first
        |(refine wpList_load_row rfl 102 (.tmp 1) rfl (B+1) rfl 102 (tab Qcj) (0,0) _ HC.o.t1 underlying102 zr (by rw[Kb];exact QgU) ?_)
        |(refine wpList_store_row rfl 102 (.tmp 0) (.tmp 30) rfl B (tab Qcj) rfl rfl 102 (tab zf) HC.o.t0 (by rw[Kb];exact QgU) (by rw[Kb,Kb]) (Jeu _) ?_))
       refine bodyPost_ret (v:=.agg (tab Qcj)) (results_cell_row rfl _ _ B 102 (tab Qcj) (0,0) _ rfl (setRow_heap _ B (tab zf) _ 102 (0,0) HC.o.t0) underlying102 rfl (by rw[Kb];exact QgU)) rfl ⟨rfl,?_⟩;exact below_setRow HC.o.bl zzl _
def er(t:Tok):Tok:={t with off:=0}
def JbI{t:Tok}{s:Qhd}{l:List Tok}(h:s.push t=.ok l):∃r,s=.ok r/\l=t::r:=by
 cases s with
 |ok r=>simp only[Qhd.push]at h;injection h with h;exact⟨r,rfl,h.symm⟩
 |err k=>cases h
def Jis:∀(l:By)(k:Nat)(ts:List Tok),sc k l=.ok ts->∃us,ts=us++[⟨4,[],0,(k+l.length:Nat)⟩]/\(∀t∈us,0<=t.kind/\t.kind<=3/\t.text.length<=24/\0<=t.n/\t.n<=1125899906842624)/\(∀t∈ts,(k:Int)<=t.off/\t.off<=k+l.length):=by
 refine ZX (P:=λk l=>∀ts,sc k l=.ok ts->_) ?_ ?_ ?_ ?_
 ·intro k ts h;rw[JcB]at h;injection h with h;subst h;exact⟨[],rfl,by simp,by simp⟩
 ·intro k c r hs ih ts h;rw[JgB k r hs]at h;obtain⟨us,h1,h2,h3⟩:=ih ts h;refine⟨us,by rw[h1];simp;omega,h2,λt ht=>?_⟩;have:=h3 t ht;simp only[length_cons];omega
 ·intro k c r hs ht ts h;rw[ZV k r hs ht]at h
  cases h
 ·intro k c r t n hs ht h1 hn ih ts h;rw[ZW k r hs ht]at h;obtain⟨rs,hr,rfl⟩:=JbI h;obtain⟨us,e1,e2,e3⟩:=ih rs hr;have hl:((c::r).drop n).length=(c::r).length-n:=List.length_drop;rw[hl]at e1 e3;have hf:=Yw ht;refine⟨{t with off:=k}::us,?_,?_,?_⟩
  ·rw[e1];simp only[List.cons_append]
   congr 5
   omega
  ·intro x hx
   rcases List.mem_cons.1 hx with rfl|hx
   ·exact⟨hf.1,hf.2.1,hf.2.2.1,hf.2.2.2.1,hf.2.2.2.2.1⟩
   ·exact e2 x hx
  ·intro x hx
   rcases List.mem_cons.1 hx with rfl|hx
   ·exact⟨Int.le_refl _,by show (k:Int)<=_;omega⟩
   ·have:=e3 x hx;omega
def KH(l:By)(a b:Nat):(bs l).extract a b=bs ((l.drop a).take (b-a)):=by
 apply ByteArray.ext;simp[bs,ByteArray.data_extract]
def Jit(l:By){k:Nat}(h:k<l.length):∀h',((bs l)[k]'h').toNat=(l[k]'h).toNat:=by
 intro h';simp only[bs];rfl
def Qei(w:World)(p:Nat):Prop:=∀i,i<256->w.cell? ⟨p,i,none⟩=some (.int .u8 (Qcj i:Nat))
def Jib{c:UInt8}:Qew c=true↔Qcj c.toNat=1:=by
 have:=c.toNat_lt;simp only[Qew,Qcj,g3,g2,g1,Bool.or_eq_true,beq_iff_eq,<-UInt8.toNat_inj]
 repeat' split
 all_goals simp
 all_goals omega
def Jev{c:UInt8}:Qdg c=true↔Qcj c.toNat=2:=by
 have:=c.toNat_lt;simp only[Qdg,Qcj,g3,g2,g1,Bool.and_eq_true,decide_eq_true_eq]
 repeat' split
 all_goals first|omega|(simp;omega)
def Jew{c:UInt8}:QeL c=true↔Qcj c.toNat=3:=by
 have:=c.toNat_lt;simp only[QeL,Qcj,g3,g2,g1,Bool.and_eq_true,decide_eq_true_eq]
 repeat' split
 all_goals first|omega|(simp;omega)
def JjM{c:UInt8}:c=95↔Qcj c.toNat=4:=by
 have:=c.toNat_lt;rw[<-UInt8.toNat_inj];simp only[Qcj,g3,g2,g1]
 show c.toNat=95↔_
 repeat' split
 all_goals omega
def Jic{c:UInt8}:c=34↔Qcj c.toNat=5:=by
 have:=c.toNat_lt;rw[<-UInt8.toNat_inj];simp only[Qcj,g3,g2,g1]
 show c.toNat=34↔_
 repeat' split
 all_goals omega
def JjN{c:UInt8}:QcQ c=true↔Qcj c.toNat=2\/Qcj c.toNat=3\/Qcj c.toNat=4:=by
 rw[<-Jev,<-Jew,<-JjM];simp[QcQ,or_assoc]
def Jex{l:By}{k:Nat}(h:∀c∈l.take k,QcQ c=true)(hn:(l.drop k).head?.map QcQ≠some true):Qal l=l.take k:=by
 have:=JbG h hn
 rwa [List.take_append_drop]at this
def QmA{P:Prop}(h:P:=by
  go_wp2;go_quiet (fail);go_wp2;go_roundw
  case rel=>exact⟨k+1,_,by omega,by go_num,H,by first|rfl|(simp;rfl)⟩
  case measure=>simp[intOf];omega):P:=h
def Yy(l:By)(p:Nat)(w:World)(hC:Qei w p)(hl:l.length<=281474976710656):Calls prog 98 #[Pt p,Sv l] w (Qgw w (Qal l)):=by
 have hs:=JP l;go_enter func98,ntmps98;go_wp2;go_loopw [5] (λv wr=>∃k n:Nat,k<=l.length/\v=Iv k/\Hi (∀c∈l.take k,QcQ c=true)/\wr=w.drewN n) λv _=>l.length-(intOf v).toNat
 case atStart=>exact⟨0,0,by omega,rfl,by unfold Hi;simp,rfl⟩
 case round=>
  obtain⟨k,n,hk,rfl,HA,rfl⟩:=hrel;have fin:Hi ((l.drop k).head?.map QcQ≠some true)->Hi (Qal l=l.take k):=λh=>Jex HA.o h.o
  have zA:(bs l).extract 0 k=bs (l.take k):=by rw[KH];simp
  by_cases hlt:k<l.length
  ·have d1:decide ((k:Int)<(l.length:Int))=true:=zE zo;have hg:=Jit l hlt;have hx:l[k].toNat<256:=l[k].toNat_lt;have xA:=hC _ hx;have HW:=Zh (JjN (c:=l[k]))
   have HN:QcQ l[k]=true->Hi (∀c∈l.take (k+1),QcQ c=true):=by
    intro h c hc;rw[List.take_succ_eq_append_getElem hlt,List.mem_append]at hc
    rcases hc with hc|hc
    ·exact HA.o c hc
    ·rw[List.mem_singleton]at hc;rw[hc];exact h
   have HF:QcQ l[k]=false->Hi ((l.drop k).head?.map QcQ≠some true):=by
    intro h;unfold Hi;rw[List.drop_eq_getElem_cons hlt,List.head?_cons,Option.map_some,h];simp
   obtain⟨x,yA⟩:∃x,l[k].toNat=x:=⟨_,rfl⟩
   rw[yA]at hg xA HW hx;clear yA
   by_cases h2:Qcj x=2
   ·have H:=HN (HW.o.2 (.inl h2));rw[h2]at xA;clear HN HF fin h2 HW hC;exact QmA
   ·by_cases h3:Qcj x=3
    ·have H:=HN (HW.o.2 (.inr (.inl h3)));rw[h3]at xA;clear HN HF fin h2 h3 HW hC;exact QmA
    ·by_cases h4:Qcj x=4
     ·have H:=HN (HW.o.2 (.inr (.inr h4)));rw[h4]at xA;clear HN HF fin h2 h3 h4 HW hC;exact QmA
     ·have hno:QcQ l[k]=false:=by
       cases h:QcQ l[k]with
       |false=>rfl
       |true=>rcases HW.o.1 h with h|h|h<;>contradiction
      have H:=fin (HF hno);generalize Qcj x=cn at*;have e2:((cn:Int)==2)=false:=zzq zo;have e3:((cn:Int)==3)=false:=zzq zo;have e4:((cn:Int)==4)=false:=zzq zo;clear HN HF fin h2 h3 h4 HW hC hno;go_wp2;go_quiet (fail);go_wp2;go_ret;exact⟨by rw[H.o];rfl,J2 zzb _⟩
  ·have d1:decide ((k:Int)<(l.length:Int))=false:=zF zo;have H:=fin (by unfold Hi;rw[List.drop_eq_nil_of_le zo];simp);clear fin hC;go_wp2;go_quiet (fail);go_wp2;go_ret;exact⟨by rw[H.o];rfl,J2 zzb _⟩
def JgC:∀(k f:Nat)(l:By),(∀c∈l.take k,c≠34/\¬(c.toNat<32\/126<c.toNat\/c=92))->k<=l.length->k<=f->QaN f l=(QaN (f-k) (l.drop k)).map (l.take k++·):=by
 intro k
 induction k with
 |zero=>
  intro f l _ _ _;simp only[Nat.sub_zero,List.drop_zero,List.take_zero]
  cases QaN f l<;>simp
 |succ k ih=>
  intro f l h hl hf
  cases l with
  |nil=>simp at hl
  |cons c r=>
   obtain⟨g,rfl⟩:∃g,f=g+1:=⟨f-1,by omega⟩
   have hc:=h c zp;simp only[QaN];rw[if_neg hc.1,if_neg hc.2,ih g r (λd hd=>h d (by simp[hd])) (by simpa using hl) zo];rw[show g+1-(k+1)=g-k by omega];simp only[List.drop_succ_cons,List.take_succ_cons]
   cases QaN (g-k) (r.drop k)<;>simp
def Qhc(o:Option By)(w:World)(e:Ending)(w':World):Prop:=e=.returned (.tuple #[Sv (o.getD []),.bool o.isSome])/\w=w'
def JbJ(l:By)(w:World)(hl:l.length<=281474976710656):Calls prog 100 #[Sv l] w (Qhc (QaN 25 l) w):=by
 have hs:=JP l;have aA:bs []=(⟨#[]⟩:ByteArray):=rfl;go_enter func100,ntmps100;go_wp2;go_loop [4] (λv=>∃k:Nat,k<=l.length/\k<=25/\v=Iv k/\Hi (∀c∈l.take k,c≠34/\¬(c.toNat<32\/126<c.toNat\/c=92))) λv=>l.length-(intOf v).toNat
 case atStart=>exact⟨0,by omega,by omega,rfl,by unfold Hi;simp⟩
 case round=>
  obtain⟨k,hk,vA,rfl,HA⟩:=hrel;have dA:(bs l).extract 0 k=bs (l.take k):=by rw[KH];simp
  have HT:=Zh (JgC k 25 l HA.o hk vA);have xA:Hi (QaN 25 l=none)->Hi (Qhc (QaN 25 l) w (.returned (.tuple #[Em,.bool false])) w):=λh=>⟨by rw[h.o];rfl,rfl⟩
  by_cases hlt:k<l.length
  ·have d1:decide ((k:Int)<(l.length:Int))=true:=zE zo
   by_cases CC:k<25
   ·have d2:decide ((k:Int)<=24)=true:=zE zo;have hg:=Jit l hlt;have hx:l[k].toNat<256:=l[k].toNat_lt
    have HD:Hi (QaN 25 l=if l[k]=34 then some (l.take k) else if l[k].toNat<32\/126<l[k].toNat\/l[k]=92 then none else QaN 25 l):=by
     unfold Hi;have h1:=HT.o;rw[List.drop_eq_getElem_cons hlt,show 25-k=(24-k)+1 by omega]at h1;simp only[QaN]at h1;split
     ·rename_i hq;rw[if_pos hq]at h1;rw[h1];simp
     ·rename_i hq;rw[if_neg hq]at h1;split
      ·rename_i hb;rw[if_pos hb]at h1;rw[h1];rfl
      ·rfl
    have HN:l[k]≠34->¬(l[k].toNat<32\/126<l[k].toNat\/l[k]=92)->Hi (∀c∈l.take (k+1),c≠34/\¬(c.toNat<32\/126<c.toNat\/c=92)):=by
     intro h1 h2 c hc;rw[List.take_succ_eq_append_getElem hlt,List.mem_append]at hc
     rcases hc with hc|hc
     ·exact HA.o c hc
     ·rw[List.mem_singleton]at hc;rw[hc];exact⟨h1,h2⟩
    have zA:l[k]=34↔l[k].toNat=34:=⟨λh=>by rw[h];rfl,λh=>UInt8.toNat_inj.1 h⟩
    have uA:l[k]=92↔l[k].toNat=92:=⟨λh=>by rw[h];rfl,λh=>UInt8.toNat_inj.1 h⟩
    simp only[Ne,zA,uA]at HN HD;obtain⟨x,yA⟩:∃x,l[k].toNat=x:=⟨_,rfl⟩
    rw[yA]at hg HD HN hx;clear yA zA uA HT
    by_cases N7:x=34
    ·have H:Hi (QaN 25 l=some (l.take k)):=by unfold Hi;rw[HD.o,if_pos N7]
     subst N7;clear HD HN xA;go_wp2;go_ret2;exact⟨by rw[H.o];rfl,rfl⟩
    ·have bA:((x:Int)==34)=false:=zzq zo
     by_cases NA:x<32
     ·have H:Hi (QaN 25 l=none):=by unfold Hi;rw[HD.o,if_neg N7,if_pos (.inl NA)]
      have b1:decide ((x:Int)<32)=true:=zE zo;clear HD HN xA N7 NA;go_wp2;go_ret2;exact⟨by rw[H.o];rfl,rfl⟩
     ·have b1:decide ((x:Int)<32)=false:=zF zo
      by_cases Y8:126<x
      ·have H:Hi (QaN 25 l=none):=by unfold Hi;rw[HD.o,if_neg N7,if_pos (.inr (.inl Y8))]
       have b2:decide (126<(x:Int))=true:=zE zo;clear HD HN xA N7 NA Y8;go_wp2;go_ret2;exact⟨by rw[H.o];rfl,rfl⟩
      ·have b2:decide (126<(x:Int))=false:=zF zo
       by_cases PA:x=92
       ·have H:Hi (QaN 25 l=none):=by unfold Hi;rw[HD.o,if_neg N7,if_pos (.inr (.inr PA))]
        subst PA;clear HD HN xA;go_wp2;go_ret2;exact⟨by rw[H.o];rfl,rfl⟩
       ·have cA:((x:Int)==92)=false:=zzq zo;have H:=HN N7 zo;clear HD HN xA N7 NA Y8 PA;go_wp2;go_round
        case rel=>exact⟨k+1,by omega,by omega,by go_num,H⟩
        case measure=>simp[intOf];omega
   ·have d2:decide ((k:Int)<=24)=false:=zF zo;have H:Hi (QaN 25 l=none):=by unfold Hi;rw[HT.o,show 25-k=0 by omega];rfl
    clear HT xA;go_wp2;go_ret2;exact⟨by rw[H.o];rfl,rfl⟩
  ·have d1:decide ((k:Int)<(l.length:Int))=false:=zF zo
   have H:Hi (QaN 25 l=none):=by
    unfold Hi;rw[HT.o,List.drop_eq_nil_of_le zo]
    cases 25-k<;>rfl
   clear HT xA;go_wp2;go_ret2;exact⟨by rw[H.o];rfl,rfl⟩
def QjY(l:By)(a b:UInt8):Lib.hasPrefix l [a,b]=decide (l.take 2=[a,b]):=by
 rw[<-Lib.hasPrefix_of_take]
 by_cases h:l.take 2=[a,b]
 ·have hl:2<=l.length:=by
   have:=congrArg List.length h;simp at this;omega
  simp[h,hl]
 ·have:(l.take 2==[a,b])=false:=by simpa using h
  simp only[List.length_cons,List.length_nil,this,Bool.and_false,h,decide_false]
def ZZ(l:By)(a b:UInt8)(w:World):Calls prog 126 #[Sv l,.string {data:=#[a,b]}] w (Qbj (.bool (decide (l.take 2=[a,b]))) w):=by
 refine(Tryz.strings_HasPrefix (bs l) {data:=#[a,b]} w).mono ?_;rintro e w' ⟨rfl,rfl⟩;refine⟨?_,rfl⟩;rw[Vm,<-QjY]
def Jiu(c:Nat)(hc:c<256)(w:World):Calls prog 127 #[.string {data:=#[40,41,44,58,61,60,62,43,45,42,47,37]},.int .u8 (c:Nat)] w (Qbj (Iv (Lib.indexByte QaW c.toUInt8)) w):=by
 refine(Tryz.strings_IndexByte {data:=#[40,41,44,58,61,60,62,43,45,42,47,37]} (c:Nat) w).mono ?_;rintro e w' ⟨rfl,rfl⟩;exact⟨rfl,rfl⟩
def Jiv(c:UInt8):0<=Lib.indexByte QaW c↔c∈QaW:=by
 have h:=Lib.contains_iff_indexByte QaW c;rw[Bool.eq_iff_iff,decide_eq_true_iff]at h;rw[<-h,List.contains_iff_mem]
def Qnh{P:Prop}(h:P:=by
  generalize Lib.indexByte QaW c=z at*;clear hno hm HS;go_wp2_with fail;refine(hc _).mono ?_;rintro e w' ⟨rfl,rfl⟩;go_wp2;go_ret
  exact⟨by rw[HR.o];rfl,rfl⟩):P:=h
def JbK(c:UInt8)(r:By)(w:World)(hl:(c::r).length<=281474976710656):Calls prog 101 #[Sv (c::r)] w (Qbj (Sv (Qay (c::r))) w):=by
 obtain⟨l,hL⟩:∃l,l=c::r:=⟨_,rfl⟩
 have hg:∀h,((bs l)[0]'h).toNat=c.toNat:=by rw[hL];intro h;rfl
 have xA:l.length=r.length+1:=by rw[hL];rfl
 have uA:0<l.length:=zo
 have vA:(bs l).extract 0 1=bs [c]:=by rw[KH,hL];simp
 have HS:Hi (Qay l=if l.take 2∈Qef then l.take 2 else if c∈QaW then [c] else []):=by
  unfold Hi;rw[hL,Qay];rw[if_neg (show ¬(c::r).head?=none by simp)];rfl
 rw[<-hL]at hl |-;have hs:=JP l;clear hL xA;have hc:=Jiu c.toNat c.toNat_lt;have zA:c.toNat.toUInt8=c:=zp
 rw[zA]at hc;have HI:=Zh (Jiv c);have i0:∀w,(Instr.index 186 (.agg #[.string {data:=#[61,61]},.string {data:=#[33,61]},.string {data:=#[60,61]},.string {data:=#[62,61]}]) (Iv 0)).run prog w=.ok (.string {data:=#[61,61]}) w:=λ_=>by kernel_rfl
 have i1:∀w,(Instr.index 186 (.agg #[.string {data:=#[61,61]},.string {data:=#[33,61]},.string {data:=#[60,61]},.string {data:=#[62,61]}]) (Iv 1)).run prog w=.ok (.string {data:=#[33,61]}) w:=λ_=>by kernel_rfl
 have i2:∀w,(Instr.index 186 (.agg #[.string {data:=#[61,61]},.string {data:=#[33,61]},.string {data:=#[60,61]},.string {data:=#[62,61]}]) (Iv 2)).run prog w=.ok (.string {data:=#[60,61]}) w:=λ_=>by kernel_rfl
 have i3:∀w,(Instr.index 186 (.agg #[.string {data:=#[61,61]},.string {data:=#[33,61]},.string {data:=#[60,61]},.string {data:=#[62,61]}]) (Iv 3)).run prog w=.ok (.string {data:=#[62,61]}) w:=λ_=>by kernel_rfl
 have b0:Hi ((⟨#[61,61]⟩:ByteArray)=bs [61,61]):=rfl;have b1:Hi ((⟨#[33,61]⟩:ByteArray)=bs [33,61]):=rfl;have b2:Hi ((⟨#[60,61]⟩:ByteArray)=bs [60,61]):=rfl;have b3:Hi ((⟨#[62,61]⟩:ByteArray)=bs [62,61]):=rfl;have b9:Hi ((⟨#[]⟩:ByteArray)=bs []):=rfl;generalize yA:c.toNat=x at*;have hx:x<256:=by rw[<-yA];exact c.toNat_lt
 clear yA zA;go_enter func101,ntmps101;go_wp2;go_loop [6,4] (λv _=>∃k:Nat,k<=4/\v=Iv k/\Hi ((0<k->l.take 2≠[61,61])/\(1<k->l.take 2≠[33,61])/\(2<k->l.take 2≠[60,61])/\(3<k->l.take 2≠[62,61]))) λv _=>4-(intOf v).toNat
 case atStart=>exact⟨0,by omega,rfl,by unfold Hi;refine⟨?_,?_,?_,?_⟩<;>(intro h;omega)⟩
 case round=>
  obtain⟨k,hk,rfl,HA⟩:=hrel
  by_cases hlt:k<4
  ·rcases (by omega:k=0\/k=1\/k=2\/k=3) with rfl|rfl|rfl|rfl
   ·go_wp2_with fail;refine(ZZ l 61 61 w).mono ?_
    by_cases h:l.take 2=[61,61]
    ·have HR:Hi (Qay l=[61,61]):=by unfold Hi;rw[HS.o,if_pos (by rw[h];decide),h]
     have hd:decide (l.take 2=[61,61])=true:=zE h;rw[hd];rintro e w' ⟨rfl,rfl⟩;clear h hd;go_wp2;go_ret;exact⟨by rw[HR.o];unfold Sv;rw[<-b0.o];rfl,rfl⟩
    ·have H:Hi ((0<1->l.take 2≠[61,61])/\(1<1->l.take 2≠[33,61])/\(2<1->l.take 2≠[60,61])/\(3<1->l.take 2≠[62,61])):=⟨λ_=>h,by omega,by omega,by omega⟩
     have hd:decide (l.take 2=[61,61])=false:=zF h;rw[hd];rintro e w' ⟨rfl,rfl⟩;clear h hd;go_wp2;go_round
     case rel=>exact⟨1,by omega,rfl,H⟩
     case measure=>simp[intOf]
   ·go_wp2_with fail;refine(ZZ l 33 61 w).mono ?_
    by_cases h:l.take 2=[33,61]
    ·have HR:Hi (Qay l=[33,61]):=by unfold Hi;rw[HS.o,if_pos (by rw[h];decide),h]
     have hd:decide (l.take 2=[33,61])=true:=zE h;rw[hd];rintro e w' ⟨rfl,rfl⟩;clear h hd;go_wp2;go_ret;exact⟨by rw[HR.o];unfold Sv;rw[<-b1.o];rfl,rfl⟩
    ·have H:Hi ((0<2->l.take 2≠[61,61])/\(1<2->l.take 2≠[33,61])/\(2<2->l.take 2≠[60,61])/\(3<2->l.take 2≠[62,61])):=⟨λ_=>HA.o.1 zo,λ_=>h,by omega,by omega⟩
     have hd:decide (l.take 2=[33,61])=false:=zF h;rw[hd];rintro e w' ⟨rfl,rfl⟩;clear h hd;go_wp2;go_round
     case rel=>exact⟨2,by omega,rfl,H⟩
     case measure=>simp[intOf]
   ·go_wp2_with fail;refine(ZZ l 60 61 w).mono ?_
    by_cases h:l.take 2=[60,61]
    ·have HR:Hi (Qay l=[60,61]):=by unfold Hi;rw[HS.o,if_pos (by rw[h];decide),h]
     have hd:decide (l.take 2=[60,61])=true:=zE h;rw[hd];rintro e w' ⟨rfl,rfl⟩;clear h hd;go_wp2;go_ret;exact⟨by rw[HR.o];unfold Sv;rw[<-b2.o];rfl,rfl⟩
    ·have H:Hi ((0<3->l.take 2≠[61,61])/\(1<3->l.take 2≠[33,61])/\(2<3->l.take 2≠[60,61])/\(3<3->l.take 2≠[62,61])):=⟨λ_=>HA.o.1 zo,λ_=>HA.o.2.1 zo,λ_=>h,by omega⟩
     have hd:decide (l.take 2=[60,61])=false:=zF h;rw[hd];rintro e w' ⟨rfl,rfl⟩;clear h hd;go_wp2;go_round
     case rel=>exact⟨3,by omega,rfl,H⟩
     case measure=>simp[intOf]
   ·go_wp2_with fail;refine(ZZ l 62 61 w).mono ?_
    by_cases h:l.take 2=[62,61]
    ·have HR:Hi (Qay l=[62,61]):=by unfold Hi;rw[HS.o,if_pos (by rw[h];decide),h]
     have hd:decide (l.take 2=[62,61])=true:=zE h;rw[hd];rintro e w' ⟨rfl,rfl⟩;clear h hd;go_wp2;go_ret;exact⟨by rw[HR.o];unfold Sv;rw[<-b3.o];rfl,rfl⟩
    ·have H:Hi ((0<4->l.take 2≠[61,61])/\(1<4->l.take 2≠[33,61])/\(2<4->l.take 2≠[60,61])/\(3<4->l.take 2≠[62,61])):=⟨λ_=>HA.o.1 zo,λ_=>HA.o.2.1 zo,λ_=>HA.o.2.2.1 zo,λ_=>h⟩
     have hd:decide (l.take 2=[62,61])=false:=zF h;rw[hd];rintro e w' ⟨rfl,rfl⟩;clear h hd;go_wp2;go_round
     case rel=>exact⟨4,by omega,rfl,H⟩
     case measure=>simp[intOf]
  ·obtain rfl:k=4:=zo
   have hno:l.take 2∉Qef:=by
    obtain⟨h1,h2,h3,h4⟩:=HA.o;simp[Qef];exact⟨h1 zo,h2 zo,h3 zo,h4 zo⟩
   by_cases hm:c∈QaW
   ·have HR:Hi (Qay l=[c]):=by unfold Hi;rw[HS.o,if_neg hno,if_pos hm]
    have hd:decide (0<=Lib.indexByte QaW c)=true:=zE (HI.o.2 hm);exact Qnh
   ·have HR:Hi (Qay l=[]):=by unfold Hi;rw[HS.o,if_neg hno,if_neg hm]
    have hd:decide (0<=Lib.indexByte QaW c)=false:=zF λh=>hm (HI.o.1 h);exact Qnh
def QmJ(t:Tok):Array Value:=#[Iv t.kind,.string (bs t.text),Iv t.n,Iv t.off]
def QdV(o:Option (Tok×Nat))(w:World)(e:Ending)(w':World):Prop:=
 (∃(t:Tok) (n:Int),e=.returned (.tuple #[.agg (QmJ t),Iv n,.bool o.isSome])/\∀u k,o=some (u,k)->t=u/\n=(k:Nat))/\Below w.heap.size w w'
def Qei.below{w w':World}{p:Nat}(h:Qei w p)(hb:Below w.heap.size w w')(hp:p<w.heap.size):Qei w' p:=λi hi=>by
 rw[hb.cell (p:=⟨p,i,none⟩) hp];exact h i hi
def Ky{o:Option (Tok×Nat)}{w w':World}{t:Tok}{n:Int}{b:Bool}(hb:b=o.isSome)(h:∀u k,o=some (u,k)->t=u/\n=(k:Nat))(hB:Below w.heap.size w w'):
  QdV o w (.returned (.tuple #[.agg #[Iv t.kind,.string (bs t.text),Iv t.n,Iv t.off],Iv n,.bool b])) w':=⟨⟨t,n,by rw[hb];rfl,h⟩,hB⟩
def JS{P:Program}{fn:Func}{p a b:Tmp}{ty:TypeId}(h:fn.results=#[.cell p ty,.tmp a,.tmp b])(tmps:Array Value)(w:World)(g:Nat)(t:TypeId)(cs:Array Value)(fr:Nat×Nat)(d:TypeDesc)
  (hp:tmps.getD p undef=Pt g) (hg:w.heap[g]?=some (.cells cs t fr))
  (hu:P.underlying ty=some d) (hd:(match d with|.struct _|.array _ _=>true|_=>false)=true) (hi:(P.info? ty).map (·.size)=some cs.size):
  (results fn tmps).run P w=.ok (.tuple #[.agg cs,tmps.getD a undef,tmps.getD b undef]) w:=by
 have xA:tmps[p]?.getD undef=Pt g:=by simpa using hp
 simp[results,h,xA,asAddr,run_loadVar_row w g t ty cs fr d hg hu hd hi]
def Qnf{P:Prop}(h:P:=by
  have h0:=heap_setCell_same _ _ 0 _ _ v0 h;have h1:=heap_setCell_same _ _ 1 _ _ v1 h0;have h2:=heap_setCell_same _ _ 2 _ _ v2 h1
  exact heap_setCell_same _ _ 3 _ _ v3 h2):P:=h
def Qjx{w:World}{T t:Nat}{a0 a1 a2 a3:Value}(v0 v1 v2 v3:Value)(h:w.heap[T]?=some (.cells #[a0,a1,a2,a3] t (0,0))):
  ((((w.setCell ⟨T,0,none⟩ v0).setCell ⟨T,1,none⟩ v1).setCell ⟨T,2,none⟩ v2).setCell ⟨T,3,none⟩ v3).heap[T]?=some (.cells #[v0,v1,v2,v3] t (0,0)):=by
 exact Qnf
def Ke{B:Nat}{w w1:World}{T:Nat}(v0 v1 v2 v3:Value)(h:Below B w w1)(hT:B<=T):Below B w ((((w1.setCell ⟨T,0,none⟩ v0).setCell ⟨T,1,none⟩ v1).setCell ⟨T,2,none⟩ v2).setCell ⟨T,3,none⟩ v3):=
 (((h.setCell hT v0).setCell hT v1).setCell hT v2).setCell hT v3
def Qci:(prog.info? 105).map (·.size)=some 4:=zk
def Jap(c:UInt8)(r:By)(p:Nat)(w:World)(hC:Qei w p)(hp:p<w.heap.size)(hl:(c::r).length<=281474976710655)(hc:Qdg c=true)(hL:Laid w):
  Calls prog 62 #[Pt p,Sv (c::r)] w (QdV (Qbv (c::r)) w):=by
 have HF:Hi (Qbv (c::r)=if (Qal (c::r)).length<=24 then some (⟨0,Qal (c::r),0,0⟩,(Qal (c::r)).length) else none):=by
  unfold Hi;simp only[Qbv];rw[if_pos hc]
 obtain⟨l,yA⟩:∃l,l=c::r:=⟨_,rfl⟩
 have hg:∀h,((bs l)[0]'h).toNat=c.toNat:=by rw[yA];intro h;rfl
 have uA:l.length=r.length+1:=by rw[yA];rfl
 have cA:0<l.length:=zo
 have xA:=hC c.toNat c.toNat_lt;rw[Jev.1 hc]at xA;have hx:c.toNat<256:=c.toNat_lt;rw[<-yA]at hl HF |-;have hs:=JP l;clear yA uA;generalize c.toNat=x at*;have HC:=Zh hC;clear hC;go_enter func62,ntmps62;go_wp2;go_quiet (fail);go_wp2_with fail;obtain⟨W,hW⟩:∃W,W=(w.alloc (.cells #[Iv 0,Em,Iv 0,Iv 0] 105)).drewN nq:=⟨_,rfl⟩
 have zA:Below w.heap.size w W:=by rw[hW];exact J2 (zzb.alloc zzl _) _
 have g0:W.heap[w.heap.size]?=some (.cells #[Iv 0,Em,Iv 0,Iv 0] 105 (0,0)):=by rw[hW];exact zzw w _
 have z0:w.heap.size<W.heap.size:=by rw[hW];simp
 rw[<-hW];have aA:=HC.o.below zA hp;refine(Yy l p W aA zo).mono ?_;rintro e w1 ⟨rfl,A0⟩;have g1:=(A0.block _ z0).trans g0;have hB:=zA.trans (A0.mono zA.size);have eA:=JP (Qal l);have G:=Zh g1
 by_cases R6:(Qal l).length<=24
 ·have HT:Hi (Qbv l=some (⟨0,Qal l,0,0⟩,(Qal l).length)):=by unfold Hi;rw[HF.o,if_pos R6]
  generalize vA:Qal l=wd at*;have dA:decide ((wd.length:Int)<=24)=true:=zE zo;have q0:w1.cell? ⟨w.heap.size,0,none⟩=some (Iv 0):=by rw[cell_of_row _ _ _ _ _ _ G.o];rfl
  have q1:w1.cell? ⟨w.heap.size,1,none⟩=some Em:=by rw[cell_of_row _ _ _ _ _ _ G.o];rfl
  have q2:w1.cell? ⟨w.heap.size,2,none⟩=some (Iv 0):=by rw[cell_of_row _ _ _ _ _ _ G.o];rfl
  have q3:w1.cell? ⟨w.heap.size,3,none⟩=some (Iv 0):=by rw[cell_of_row _ _ _ _ _ _ G.o];rfl
  have f0:=frozen_of_row _ _ 0 _ _ G.o;have f1:=frozen_of_row _ _ 1 _ _ G.o;have f2:=frozen_of_row _ _ 2 _ _ G.o;have f3:=frozen_of_row _ _ 3 _ _ G.o;go_wp2_with fail;refine bodyPost_ret (JS rfl _ _ w.heap.size 105 #[Iv 0,Sv wd,Iv 0,Iv 0] (0,0) _ rfl (Qjx _ _ _ _ G.o) underlying105 rfl Qci) rfl ?_;rw[HT.o];exact Ky (t:=⟨0,wd,0,0⟩) rfl (by intro u k h;injection h with h;injection h with h1 h2;subst h1;subst h2;exact⟨rfl,rfl⟩) (Ke _ _ _ _ hB zzl)
 ·have HT:Hi (Qbv l=none):=by unfold Hi;rw[HF.o,if_neg R6]
  generalize vA:Qal l=wd at*;have dA:decide ((wd.length:Int)<=24)=false:=zF zo;have q0:w1.cell? ⟨w.heap.size,0,none⟩=some (Iv 0):=by rw[cell_of_row _ _ _ _ _ _ G.o];rfl
  have q1:w1.cell? ⟨w.heap.size,1,none⟩=some Em:=by rw[cell_of_row _ _ _ _ _ _ G.o];rfl
  have q2:w1.cell? ⟨w.heap.size,2,none⟩=some (Iv 0):=by rw[cell_of_row _ _ _ _ _ _ G.o];rfl
  have q3:w1.cell? ⟨w.heap.size,3,none⟩=some (Iv 0):=by rw[cell_of_row _ _ _ _ _ _ G.o];rfl
  have f0:=frozen_of_row _ _ 0 _ _ G.o;have f1:=frozen_of_row _ _ 1 _ _ G.o;have f2:=frozen_of_row _ _ 2 _ _ G.o;have f3:=frozen_of_row _ _ 3 _ _ G.o;go_wp2_with fail;refine bodyPost_ret (JS rfl _ _ w.heap.size 105 #[Iv 0,Sv wd,Iv 0,Iv 0] (0,0) _ rfl (Qjx _ _ _ _ G.o) underlying105 rfl Qci) rfl ?_;rw[HT.o];exact Ky (t:=⟨0,wd,0,0⟩) rfl (by intro u k h;cases h) (Ke _ _ _ _ hB zzl)
def JbL(c:UInt8)(r:By)(p:Nat)(w:World)(hC:Qei w p)(hp:p<w.heap.size)(hl:(c::r).length<=281474976710655)(hc:QeL c=true)(hc0:Qdg c=false)(hL:Laid w):
  Calls prog 62 #[Pt p,Sv (c::r)] w (QdV (Qbv (c::r)) w):=by
 have HF:Hi (Qbv (c::r)=(QaL (Qal (c::r)) 0 1125899906842624).map λn=>(⟨1,[],n,0⟩,(Qal (c::r)).length)):=by
  unfold Hi;simp only[Qbv];rw[if_neg (by simp[hc0]),if_pos hc]
 obtain⟨l,yA⟩:∃l,l=c::r:=⟨_,rfl⟩
 have hg:∀h,((bs l)[0]'h).toNat=c.toNat:=by rw[yA];intro h;rfl
 have uA:l.length=r.length+1:=by rw[yA];rfl
 have cA:0<l.length:=zo
 have xA:=hC c.toNat c.toNat_lt;rw[Jew.1 hc]at xA;have hx:c.toNat<256:=c.toNat_lt;rw[<-yA]at hl HF |-;have hs:=JP l;have aA:=Yv l;clear yA uA;generalize c.toNat=x at*;have HC:=Zh hC;clear hC;go_enter func62,ntmps62;go_wp2;go_quiet (fail);go_wp2_with fail;obtain⟨W,hW⟩:∃W,W=(w.alloc (.cells #[Iv 0,Em,Iv 0,Iv 0] 105)).drewN nq:=⟨_,rfl⟩
 have zA:Below w.heap.size w W:=by rw[hW];exact J2 (zzb.alloc zzl _) _
 have g0:W.heap[w.heap.size]?=some (.cells #[Iv 0,Em,Iv 0,Iv 0] 105 (0,0)):=by rw[hW];exact zzw w _
 have z0:w.heap.size<W.heap.size:=by rw[hW];simp
 rw[<-hW];have vA:=HC.o.below zA hp;refine(Yy l p W vA zo).mono ?_;rintro e w1 ⟨rfl,A0⟩;have g1:=(A0.block _ z0).trans g0;have hB:=zA.trans (A0.mono zA.size);have z1:w.heap.size<w1.heap.size:=Nat.lt_of_lt_of_le z0 A0.size;have G:=Zh g1;have bA:(Qal l).length<=281474976710656:=zo
 have cP:=Jer (Qal l) 0 1125899906842624 w1 bA (hL.below hB);have HP:∀o,QaL (Qal l) 0 1125899906842624=o->Hi (Qbv l=o.map λn=>(⟨1,[],n,0⟩,(Qal l).length)):=λo h=>by unfold Hi;rw[HF.o,h]
 generalize dA:QaL (Qal l) 0 1125899906842624=o at*;have HT:=HP o rfl;generalize eA:Qal l=wd at*
 cases o with
 |some m=>
  go_wp2_with fail;refine(Calls.mono cP ?_);rintro e w2 ⟨rfl,I0⟩;have G:=Zh ((I0.block _ z1).trans G.o);have hB:=hB.trans (I0.mono hB.size);have q0:w2.cell? ⟨w.heap.size,0,none⟩=some (Iv 0):=by rw[cell_of_row _ _ _ _ _ _ G.o];rfl
  have q1:w2.cell? ⟨w.heap.size,1,none⟩=some Em:=by rw[cell_of_row _ _ _ _ _ _ G.o];rfl
  have q2:w2.cell? ⟨w.heap.size,2,none⟩=some (Iv 0):=by rw[cell_of_row _ _ _ _ _ _ G.o];rfl
  have q3:w2.cell? ⟨w.heap.size,3,none⟩=some (Iv 0):=by rw[cell_of_row _ _ _ _ _ _ G.o];rfl
  have f0:=frozen_of_row _ _ 0 _ _ G.o;have f1:=frozen_of_row _ _ 1 _ _ G.o;have f2:=frozen_of_row _ _ 2 _ _ G.o;have f3:=frozen_of_row _ _ 3 _ _ G.o;go_wp2_with fail;refine bodyPost_ret (JS rfl _ _ w.heap.size 105 #[Iv 1,.string (⟨#[]⟩),Iv m,Iv 0] (0,0) _ rfl (Qjx _ _ _ _ G.o) underlying105 rfl Qci) rfl ?_;rw[HT.o];exact Ky (t:=⟨1,[],m,0⟩) rfl (by intro u k h;injection h with h;injection h with h1 h2;subst h1;subst h2;exact⟨rfl,rfl⟩) (Ke _ _ _ _ hB zzl)
 |none=>
  go_wp2_with fail;refine(Calls.mono cP ?_);rintro e w2 ⟨rfl,I0⟩;have G:=Zh ((I0.block _ z1).trans G.o);have hB:=hB.trans (I0.mono hB.size);have q0:w2.cell? ⟨w.heap.size,0,none⟩=some (Iv 0):=by rw[cell_of_row _ _ _ _ _ _ G.o];rfl
  have q1:w2.cell? ⟨w.heap.size,1,none⟩=some Em:=by rw[cell_of_row _ _ _ _ _ _ G.o];rfl
  have q2:w2.cell? ⟨w.heap.size,2,none⟩=some (Iv 0):=by rw[cell_of_row _ _ _ _ _ _ G.o];rfl
  have q3:w2.cell? ⟨w.heap.size,3,none⟩=some (Iv 0):=by rw[cell_of_row _ _ _ _ _ _ G.o];rfl
  have f0:=frozen_of_row _ _ 0 _ _ G.o;have f1:=frozen_of_row _ _ 1 _ _ G.o;have f2:=frozen_of_row _ _ 2 _ _ G.o;have f3:=frozen_of_row _ _ 3 _ _ G.o;go_wp2_with fail;refine bodyPost_ret (JS rfl _ _ w.heap.size 105 #[Iv 1,.string (⟨#[]⟩),Iv 0,Iv 0] (0,0) _ rfl (Qjx _ _ _ _ G.o) underlying105 rfl Qci) rfl ?_;rw[HT.o];exact Ky (t:=⟨1,[],0,0⟩) rfl (by intro u k h;cases h) (Ke _ _ _ _ hB zzl)
def JbM(c:UInt8)(r:By)(p:Nat)(w:World)(hC:Qei w p)(hp:p<w.heap.size)(hl:(c::r).length<=281474976710655)(hc:c=34)(hL:Laid w):
  Calls prog 62 #[Pt p,Sv (c::r)] w (QdV (Qbv (c::r)) w):=by
 have HF:Hi (Qbv (c::r)=(QaN 25 r).map λw=>(⟨2,w,0,0⟩,w.length+2)):=by
  unfold Hi;subst hc;simp only[Qbv];rw[if_neg zd,if_neg zd,if_pos trivial]
 obtain⟨l,yA⟩:∃l,l=c::r:=⟨_,rfl⟩
 have hg:∀h,((bs l)[0]'h).toNat=c.toNat:=by rw[yA];intro h;rfl
 have uA:l.length=r.length+1:=by rw[yA];rfl
 have cA:0<l.length:=zo
 have xA:=hC c.toNat c.toNat_lt;rw[Jic.1 hc]at xA;have hx:c.toNat<256:=c.toNat_lt;rw[<-yA]at hl HF |-;have hs:=JP l;have bA:=Yv l;have gA:(bs l).extract 1 l.length=bs r:=by rw[KH,yA];simp
 have eA:r.length<=281474976710655:=zo
 have vA:1<=l.length:=zo
 clear yA uA;generalize c.toNat=x at*;have HC:=Zh hC;clear hC;go_enter func62,ntmps62;go_wp2;go_quiet (fail);go_wp2_with fail;obtain⟨W,hW⟩:∃W,W=(w.alloc (.cells #[Iv 0,Em,Iv 0,Iv 0] 105)).drewN nq:=⟨_,rfl⟩
 have zA:Below w.heap.size w W:=by rw[hW];exact J2 (zzb.alloc zzl _) _
 have g0:W.heap[w.heap.size]?=some (.cells #[Iv 0,Em,Iv 0,Iv 0] 105 (0,0)):=by rw[hW];exact zzw w _
 have z0:w.heap.size<W.heap.size:=by rw[hW];simp
 rw[<-hW];clear hW;have aA:=HC.o.below zA hp;have cT:=JbJ r W zo
 cases ho:QaN 25 r with
 |some v=>
  have HT:Hi (Qbv l=some (⟨2,v,0,0⟩,v.length+2)):=by unfold Hi;rw[HF.o,ho];rfl
  rw[ho]at cT;have hv:v.length<=24:=by have:=Vc _ _ _ ho;omega
  refine(Calls.mono cT ?_);rintro e w1 ⟨rfl,rfl⟩;have dA:=JP v;have G:=Zh g0;have hB:=zA;have q0:W.cell? ⟨w.heap.size,0,none⟩=some (Iv 0):=by rw[cell_of_row _ _ _ _ _ _ G.o];rfl
  have q1:W.cell? ⟨w.heap.size,1,none⟩=some Em:=by rw[cell_of_row _ _ _ _ _ _ G.o];rfl
  have q2:W.cell? ⟨w.heap.size,2,none⟩=some (Iv 0):=by rw[cell_of_row _ _ _ _ _ _ G.o];rfl
  have q3:W.cell? ⟨w.heap.size,3,none⟩=some (Iv 0):=by rw[cell_of_row _ _ _ _ _ _ G.o];rfl
  have f0:=frozen_of_row _ _ 0 _ _ G.o;have f1:=frozen_of_row _ _ 1 _ _ G.o;have f2:=frozen_of_row _ _ 2 _ _ G.o;have f3:=frozen_of_row _ _ 3 _ _ G.o;go_wp2_with fail;refine bodyPost_ret (JS rfl _ _ w.heap.size 105 #[Iv 2,Sv v,Iv 0,Iv 0] (0,0) _ rfl (Qjx _ _ _ _ G.o) underlying105 rfl Qci) rfl ?_;rw[HT.o];exact Ky (t:=⟨2,v,0,0⟩) rfl (by intro u k h;injection h with h;injection h with h1 h2;subst h1;subst h2;exact⟨rfl,zp⟩) (Ke _ _ _ _ hB zzl)
 |none=>
  have HT:Hi (Qbv l=none):=by unfold Hi;rw[HF.o,ho];rfl
  rw[ho]at cT;refine(Calls.mono cT ?_);rintro e w1 ⟨rfl,rfl⟩;have dA:=JP [];have G:=Zh g0;have hB:=zA;have q0:W.cell? ⟨w.heap.size,0,none⟩=some (Iv 0):=by rw[cell_of_row _ _ _ _ _ _ G.o];rfl
  have q1:W.cell? ⟨w.heap.size,1,none⟩=some Em:=by rw[cell_of_row _ _ _ _ _ _ G.o];rfl
  have q2:W.cell? ⟨w.heap.size,2,none⟩=some (Iv 0):=by rw[cell_of_row _ _ _ _ _ _ G.o];rfl
  have q3:W.cell? ⟨w.heap.size,3,none⟩=some (Iv 0):=by rw[cell_of_row _ _ _ _ _ _ G.o];rfl
  have f0:=frozen_of_row _ _ 0 _ _ G.o;have f1:=frozen_of_row _ _ 1 _ _ G.o;have f2:=frozen_of_row _ _ 2 _ _ G.o;have f3:=frozen_of_row _ _ 3 _ _ G.o;go_wp2_with fail;refine bodyPost_ret (JS rfl _ _ w.heap.size 105 #[Iv 2,.string (bs []),Iv 0,Iv 0] (0,0) _ rfl (Qjx _ _ _ _ G.o) underlying105 rfl Qci) rfl ?_;rw[HT.o];exact Ky (t:=⟨2,[],0,0⟩) rfl (by intro u k h;cases h) (Ke _ _ _ _ hB zzl)
def Jdw(c:UInt8)(r:By)(p:Nat)(w:World)(hC:Qei w p)(hp:p<w.heap.size)(hl:(c::r).length<=281474976710655)(hc0:Qdg c=false)(hc1:QeL c=false)(E1:c≠34)(hL:Laid w):
  Calls prog 62 #[Pt p,Sv (c::r)] w (QdV (Qbv (c::r)) w):=by
 have HF:Hi (Qbv (c::r)=if Qay (c::r)=[] then none else some (⟨3,Qay (c::r),0,0⟩,(Qay (c::r)).length)):=by
  unfold Hi;simp only[Qbv];rw[if_neg (by simp[hc0]),if_neg (by simp[hc1]),if_neg E1]
 have k2:((Qcj c.toNat:Nat):Int)≠2:=λh=>by
  have h':Qcj c.toNat=2:=zo
  rw[Jev.2 h']at hc0;cases hc0
 have k3:((Qcj c.toNat:Nat):Int)≠3:=λh=>by
  have h':Qcj c.toNat=3:=zo
  rw[Jew.2 h']at hc1;cases hc1
 have k5:((Qcj c.toNat:Nat):Int)≠5:=λh=>by
  have h':Qcj c.toNat=5:=zo
  exact E1 (Jic.2 h')
 have e2:(((Qcj c.toNat:Nat):Int)==2)=false:=zzq k2;have e3:(((Qcj c.toNat:Nat):Int)==3)=false:=zzq k3;have e5:(((Qcj c.toNat:Nat):Int)==5)=false:=zzq k5;have cS:=λW=>JbK c r W zo
 obtain⟨l,zA⟩:∃l,l=c::r:=⟨_,rfl⟩
 have hg:∀h,((bs l)[0]'h).toNat=c.toNat:=by rw[zA];intro h;rfl
 have vA:l.length=r.length+1:=by rw[zA];rfl
 have cA:0<l.length:=zo
 have xA:=hC c.toNat c.toNat_lt;have hx:c.toNat<256:=c.toNat_lt;rw[<-zA]at hl HF cS |-;have hs:=JP l;have bA:=Yv l;clear zA vA;generalize c.toNat=x at*;generalize Qcj x=cn at*;have HC:=Zh hC;clear hC;go_enter func62,ntmps62;go_wp2;go_quiet (fail);go_wp2_with fail;obtain⟨W,hW⟩:∃W,W=(w.alloc (.cells #[Iv 0,Em,Iv 0,Iv 0] 105)).drewN nq:=⟨_,rfl⟩
 have yA:Below w.heap.size w W:=by rw[hW];exact J2 (zzb.alloc zzl _) _
 have g0:W.heap[w.heap.size]?=some (.cells #[Iv 0,Em,Iv 0,Iv 0] 105 (0,0)):=by rw[hW];exact zzw w _
 have z0:w.heap.size<W.heap.size:=by rw[hW];simp
 rw[<-hW];clear hW;have aA:=HC.o.below yA hp;have uA:=ZU l
 by_cases h0:Qay l=[]
 ·have HT:Hi (Qbv l=none):=by unfold Hi;rw[HF.o,if_pos h0]
  rw[h0]at cS;refine(cS _).mono ?_;rintro e w1 ⟨rfl,rfl⟩;have eA:=JP [];have tl:=Jk [];have G:=Zh g0;have hB:=yA;have q0:W.cell? ⟨w.heap.size,0,none⟩=some (Iv 0):=by rw[cell_of_row _ _ _ _ _ _ G.o];rfl
  have q1:W.cell? ⟨w.heap.size,1,none⟩=some Em:=by rw[cell_of_row _ _ _ _ _ _ G.o];rfl
  have q2:W.cell? ⟨w.heap.size,2,none⟩=some (Iv 0):=by rw[cell_of_row _ _ _ _ _ _ G.o];rfl
  have q3:W.cell? ⟨w.heap.size,3,none⟩=some (Iv 0):=by rw[cell_of_row _ _ _ _ _ _ G.o];rfl
  have f0:=frozen_of_row _ _ 0 _ _ G.o;have f1:=frozen_of_row _ _ 1 _ _ G.o;have f2:=frozen_of_row _ _ 2 _ _ G.o;have f3:=frozen_of_row _ _ 3 _ _ G.o;go_wp2_with fail;refine bodyPost_ret (JS rfl _ _ w.heap.size 105 #[Iv 3,.string (bs []),Iv 0,Iv 0] (0,0) _ rfl (Qjx _ _ _ _ G.o) underlying105 rfl Qci) rfl ?_;rw[HT.o];exact Ky (t:=⟨3,[],0,0⟩) rfl (by intro u k h;cases h) (Ke _ _ _ _ hB zzl)
 ·have HT:Hi (Qbv l=some (⟨3,Qay l,0,0⟩,(Qay l).length)):=by unfold Hi;rw[HF.o,if_neg h0]
  generalize dA:Qay l=sg at*;refine(cS _).mono ?_;rintro e w1 ⟨rfl,rfl⟩;have eA:=JP sg;have tl:=Jk sg;have i0:sg.isEmpty=false:=by simpa using h0
  have G:=Zh g0;have hB:=yA;have q0:W.cell? ⟨w.heap.size,0,none⟩=some (Iv 0):=by rw[cell_of_row _ _ _ _ _ _ G.o];rfl
  have q1:W.cell? ⟨w.heap.size,1,none⟩=some Em:=by rw[cell_of_row _ _ _ _ _ _ G.o];rfl
  have q2:W.cell? ⟨w.heap.size,2,none⟩=some (Iv 0):=by rw[cell_of_row _ _ _ _ _ _ G.o];rfl
  have q3:W.cell? ⟨w.heap.size,3,none⟩=some (Iv 0):=by rw[cell_of_row _ _ _ _ _ _ G.o];rfl
  have f0:=frozen_of_row _ _ 0 _ _ G.o;have f1:=frozen_of_row _ _ 1 _ _ G.o;have f2:=frozen_of_row _ _ 2 _ _ G.o;have f3:=frozen_of_row _ _ 3 _ _ G.o;go_wp2_with fail;refine bodyPost_ret (JS rfl _ _ w.heap.size 105 #[Iv 3,Sv sg,Iv 0,Iv 0] (0,0) _ rfl (Qjx _ _ _ _ G.o) underlying105 rfl Qci) rfl ?_;rw[HT.o];exact Ky (t:=⟨3,sg,0,0⟩) rfl (by intro u k h;injection h with h;injection h with h1 h2;subst h1;subst h2;exact⟨rfl,rfl⟩) (Ke _ _ _ _ hB zzl)
def Jaq(c:UInt8)(r:By)(p:Nat)(w:World)(hC:Qei w p)(hp:p<w.heap.size)(hl:(c::r).length<=281474976710655)(hL:Laid w):
  Calls prog 62 #[Pt p,Sv (c::r)] w (QdV (Qbv (c::r)) w):=by
 cases h1:Qdg c with
 |true=>exact Jap c r p w hC hp hl h1 hL
 |false=>
  cases h2:QeL c with
  |true=>exact JbL c r p w hC hp hl h2 h1 hL
  |false=>
   by_cases h3:c=34
   ·exact JbM c r p w hC hp hl h3 hL
   ·exact Jdw c r p w hC hp hl h1 h2 h3 hL
def Qax:List Tok->List Value
 |[]=>[]
 |t::l=>[Iv t.kind,.string (bs t.text),Iv t.n,Iv t.off]++Qax l
def KZ(a b:List Tok):Qax (a++b)=Qax a++Qax b:=by
 induction a with
 |nil=>rfl
 |cons t a ih=>simp[Qax,ih]
def Qhd.prep(us:List Tok):Qhd->Qhd
 |.ok ts=>.ok (us++ts)
 |.err k=>.err k
def JgD(s:Qhd):s.prep []=s:=by cases s<;>rfl
def Jey(us:List Tok)(t:Tok)(s:Qhd):(s.push t).prep us=s.prep (us++[t]):=by cases s<;>simp[Qhd.push,Qhd.prep]
def QaQ(l:By):List Tok×Int×Int:=
 if 4096<l.length then ([],7,0) else match sc 0 l with
  |.ok ts=>(ts,0,0)
  |.err k=>([],2,(k:Nat))
def Qdl(R:List Tok×Int×Int)(w:World)(e:Ending)(w':World):Prop:=
 ∃v,e=.returned (.tuple #[v,Iv R.2.1,Iv R.2.2])/\w'.ownsRow w.heap.size 105 4 v R.1.length (Qax R.1)/\Below w.heap.size w w'
def Z0{w:World}{base e size n:Nat}{v:Value}{xs:List Value}(h:w.ownsRow base e size v n xs):∃a c,v=.slice a n c:=by
 rcases h.2 with⟨rfl,rfl⟩|⟨g,cap,cur,rfl,_⟩
 ·exact⟨_,_,rfl⟩
 ·exact⟨_,_,rfl⟩
def Jiw{w:World}{base g n:Nat}{e t:Nat}{size:Nat}{v:Value}{xs:List Value}{cs:Array Value}{fr:Nat×Nat}(h:w.ownsRow base e size v n xs)(hg:w.heap[g]?=some (.cells cs t fr))(hne:e≠t):v.ownBlock≠some g:=by
 rcases h.2 with⟨rfl,_⟩|⟨g',cap,cur,rfl,_,hh,_⟩
 ·simp[Value.ownBlock]
 ·intro he;have:g'=g:=by simpa[Value.ownBlock] using he
  subst this;rw[hh]at hg;injection hg with hg;injection hg with _ ht;exact hne ht
def Jdx{w w':World}{base n e size:Nat}{v:Value}{xs:List Value}(h:w.ownsRow base e size v n xs)(hb:Below w.heap.size w w'):w'.ownsRow base e size v n xs:=by
 refine⟨h.1,?_⟩
 rcases h.2 with⟨rfl,rfl⟩|⟨g,cap,cur,rfl,hg,hh,q⟩
 ·exact .inl ⟨rfl,rfl⟩
 ·exact .inr ⟨g,cap,cur,rfl,hg,(hb.block g (Array.getElem?_eq_some_iff.1 hh).1).trans hh,q⟩
def Qnm{P:Prop}(h:P:=by
  have hadd:(⟨w.heap.size,0,none⟩:Addr).add j=⟨w.heap.size,j,none⟩:=by unfold Addr.add;split<;>simp_all
  rw[hadd]
  exact cell_of_row _ _ _ _ _ (0,0) (zzw w _)):P:=h
def Z1(w:World)(cs:Array Value)(e:TypeId)(j:Nat):(w.alloc (.cells cs e)).cell? ((⟨w.heap.size,0,none⟩:Addr).add j)=cs[j]?:=by
 exact Qnm
def Jar{w:World}{base e size n:Nat}{v:Value}{xs:List Value}(h:w.ownsRow base e size v n xs):∀k,v.ownBlock=some k->base<=k:=by
 intro k hk;exact(World.ownsRow.lt h k hk).1
def Zd(w:World)(o:Obj)(cs:Array Value)(e:TypeId)(j:Nat):((w.alloc o).alloc (.cells cs e)).cell? ((⟨w.heap.size+1,0,none⟩:Addr).add j)=cs[j]?:=by
 have hadd:(⟨w.heap.size+1,0,none⟩:Addr).add j=⟨w.heap.size+1,j,none⟩:=by unfold Addr.add;split<;>simp_all
 rw[hadd];exact cell_of_row _ _ _ _ _ (0,0) (heap_alloc2_new w _ _)
def Jdy{c:UInt8}{r:By}{t:Tok}{n:Nat}(p:Nat)(w:World)(hC:Qei w p)(hp:p<w.heap.size)(hl:(c::r).length<=281474976710655)(hL:Laid w)(h:Qbv (c::r)=some (t,n)):
  Calls prog 62 #[Pt p,Sv (c::r)] w (λe w'=>e=.returned (.tuple #[.agg #[Iv t.kind,.string (bs t.text),Iv t.n,Iv 0],Iv n,.bool true])/\Below w.heap.size w w'):=by
 have hf:=(Yw h).2.2.2.2.2;refine(Jaq c r p w hC hp hl hL).mono ?_;rintro e w' ⟨⟨u,m,rfl,hu⟩,hb⟩;obtain⟨rfl,rfl⟩:=hu t n h;refine⟨?_,hb⟩;rw[h];simp only[QmJ,hf];rfl
def Jdz{c:UInt8}{r:By}(p:Nat)(w:World)(hC:Qei w p)(hp:p<w.heap.size)(hl:(c::r).length<=281474976710655)(hL:Laid w)(h:Qbv (c::r)=none):
  Calls prog 62 #[Pt p,Sv (c::r)] w (λe w'=>∃(a b d m:Int) (x:ByteArray),e=.returned (.tuple #[.agg #[Iv a,.string x,Iv b,Iv d],Iv m,.bool false])/\Below w.heap.size w w'):=by
 refine(Jaq c r p w hC hp hl hL).mono ?_;rintro e w' ⟨⟨u,m,rfl,hu⟩,hb⟩;refine⟨u.kind,u.n,u.off,m,bs u.text,?_,hb⟩;rw[h];rfl
def Jez(l:By)(w:World)(h:4096<l.length)(hl:l.length<=281474976710655):Calls prog 32 #[Sv l] w (Qdl (QaQ l) w):=by
 have HR:Hi (QaQ l=([],7,0)):=by unfold Hi QaQ;rw[if_pos h]
 have hs:=JP l;have d1:decide (4096<(l.length:Int))=true:=zE zo;clear h;go_enter func32,ntmps32;go_wp2;go_ret3;rw[HR.o];exact⟨_,rfl,World.ownsRow_nil _ _ _ _,zzb⟩
def QjI:(prog.info? 105).map (λi=>(i.zero,i.size,i.bytes))=some (some (.agg #[Iv 0,Em,Iv 0,Iv 0]),4,40):=zk
def JgE(l:By)(w:World)(h:l.length<=4096)(hL:Laid w):Calls prog 32 #[Sv l] w (Qdl (QaQ l) w):=by
 have HR:Hi (QaQ l=match sc 0 l with|.ok ts=>(ts,0,0)|.err k=>([],2,(k:Nat))):=by unfold Hi QaQ;rw[if_neg zo]
 have hs:=JP l;have d1:decide (4096<(l.length:Int))=false:=zF zo;obtain⟨i0,hi,qA,rA,nA⟩:=info_parts QjI;go_enter func32,ntmps32;go_wp2_with fail;refine(JbH w).mono ?_;rintro e w1 ⟨rfl,A0⟩;have g0:(w1.alloc (.cells Tryz.zeroCells102 102)).heap[w1.heap.size]?=some (.cells (tab zf) 102 (0,0)):=by rw[zzw,ZY]
 have G0:=Zh g0;clear g0;go_wp2_with (refine wpList_store_row rfl 102 (.tmp 5) (.tmp 14) rfl w1.heap.size (tab Qcj) rfl rfl 102 (tab zf) G0.o (by rw[Kb];exact QgU) (by rw[Kb,Kb]) (Jeu _) ?_);obtain⟨B,dA⟩:∃B,w1.heap.size=B:=⟨_,rfl⟩
 have l8:Below w.heap.size w ((w1.alloc (.cells Tryz.zeroCells102 102)).setRow w1.heap.size (tab Qcj)):=below_setRow (A0.alloc A0.size _) A0.size _;have gB:((w1.alloc (.cells Tryz.zeroCells102 102)).setRow w1.heap.size (tab Qcj)).heap[B]?=some (.cells (tab Qcj) 102 (0,0)):=by rw[<-dA];exact setRow_heap _ _ (tab zf) _ _ _ G0.o
 have xB:w.heap.size<=B:=by rw[<-dA];exact A0.size
 generalize (w1.alloc (.cells Tryz.zeroCells102 102)).setRow w1.heap.size (tab Qcj)=W2 at*;rw[dA];clear dA G0 A0;go_loopw [6,7] (λv6 v7 wr=>∃(us:List Tok) (k:Nat),k<=l.length/\v7=Iv k/\us.length<=k/\wr.ownsRow w.heap.size 105 4 v6 us.length (Qax us)/\wr.heap[B]?=some (.cells (tab Qcj) 102 (0,0))/\Below w.heap.size w wr/\Hi (sc 0 l=(sc k (l.drop k)).prep us)) λ_ v7 _=>l.length-(intOf v7).toNat
 case atStart=>exact⟨[],0,by omega,rfl,by simp,World.ownsRow_nil _ _ _ _,gB,l8,by unfold Hi;rw[JgD];rfl⟩
 case round=>
  obtain⟨us,k,hk,rfl,tA,xA,gB,zA,HS⟩:=hrel;have hA:=λ(j:Nat)=>cell_of_row wr B j _ _ _ gB
  obtain⟨va,vc,rfl⟩:=Z0 xA
  by_cases hlt:k<l.length
  ·have hg:=Jit l hlt;have hx:l[k].toNat<256:=l[k].toNat_lt;have yA:=hA l[k].toNat;rw[VT _ hx]at yA;clear hA;have HD:=Zh (List.drop_eq_getElem_cons hlt);obtain⟨c,eA⟩:∃c,l[k]=c:=⟨_,rfl⟩
   rw[eA]at HD hg yA hx
   cases hsp:Qew c with
   |true=>
    have hc1:=Jib.1 hsp;rw[hc1]at yA;have H:Hi (sc 0 l=(sc (k+1) (l.drop (k+1))).prep us):=by unfold Hi;rw[HS.o,HD.o,JgB k _ hsp]
    have HO:=Zh xA;have HB:=Zh gB;clear hc1 eA HS xA gB;generalize c.toNat=x at*;go_wp2;go_roundw
    case rel=>exact⟨us,k+1,by omega,by go_num,by omega,HO.o,HB.o,zA,H⟩
    case measure=>simp[intOf];omega
   |false=>
    have hc1:((Qcj c.toNat:Nat):Int)≠1:=λh=>by
     have h':Qcj c.toNat=1:=zo
     rw[Jib.2 h']at hsp;cases hsp
    have e1:(((Qcj c.toNat:Nat):Int)==1)=false:=zzq hc1;have yB:(bs l).extract k l.length=bs (c::l.drop (k+1)):=by rw[KH,List.take_of_length_le zp,HD.o]
    have zB:(c::l.drop (k+1)).length<=4096:=zq
    have gA:Qei wr B:=λi hi=>by rw[cell_of_row _ _ _ _ _ _ gB,VT _ hi]
    have cA:=(Array.getElem?_eq_some_iff.1 gB).1
    cases ht:Qbv (c::l.drop (k+1)) with
    |none=>
     have cT:=Jdz B wr gA cA zo (hL.below zA) ht;have H:Hi (QaQ l=([],2,((k:Nat):Int))):=by unfold Hi;rw[HR.o,HS.o,HD.o,ZV k _ hsp ht];rfl
     clear hc1 eA HS xA gB gA;generalize Qcj c.toNat=cn at*;generalize c.toNat=x at*;go_wp2_with fail;refine(Calls.mono cT ?_);rintro e w3 ⟨fa,fb,fd,fm,fx,rfl,aA⟩;have U0:=zA.trans (aA.mono zA.size);clear aA cT;go_wp2_with fail;go_ret3;rw[H.o];exact⟨_,rfl,World.ownsRow_nil _ _ _ _,U0.alloc U0.size _⟩
    |some q=>
     obtain⟨t,n⟩:=q;have hw:=Jao ht;have cT:=Jdy B wr gA cA zo (hL.below zA) ht
     have H:Hi (sc 0 l=(sc (k+n) (l.drop (k+n))).prep (us++[{t with off:=(k:Int)}])):=by
      unfold Hi;rw[HS.o,HD.o,ZW k _ hsp ht,Jey,<-HD.o,List.drop_drop]
     have hn:k+n<=l.length:=by
      have h1:=hw.2.2.1;rw[<-HD.o,List.length_drop]at h1;omega
     have G8:=hw.2.1;obtain⟨tk,tt,tn,to⟩:=t;have HO:=Zh xA;have HB:=Zh gB;clear hc1 eA HS xA gB gA hw ht;generalize Qcj c.toNat=cn at*;generalize c.toNat=x at*;go_wp2_with fail;refine(Calls.mono cT ?_);rintro e w3 ⟨rfl,aA⟩;have uA:=Jdx HO.o aA;have iA:=Zh ((aA.block _ cA).trans HB.o);have U0:=zA.trans (aA.mono zA.size);have kA:B<w3.heap.size:=Nat.lt_of_lt_of_le cA aA.size;clear aA cT HO HB;have vA:=Zh uA;clear uA;have jA:us.length+1<=5000:=zo
     go_wp2_with (at_builtin;refine wpList_append_own _ rfl _ _ 65 rfl w.heap.size 105 i0 (.agg #[Iv 0,Em,Iv 0,Iv 0]) 4 40 underlying65 hi qA rA nA rfl zd _ _ _ rfl ((vA.o.alloc _).alloc _) ⟨w3.heap.size+1,0,none⟩ 1 1 [Iv tk,Sv tt,Iv tn,Iv (k:Nat)] rfl rfl ?c1 ?c2 ?c3 ?c4 ?c5 ?_)
     case c1=>
      intro j u hj;rw[Zd];simpa using hj
     case c2=>intro u hu;simp at hu;rcases hu with rfl|rfl|rfl|rfl<;>rfl
     case c3=>unfold maxLen;omega
     case c4=>omega
     case c5=>simp;exact le_trans U0.size zo
     intro v' w' L3 hgrow _;have bA:=(U0.alloc U0.size (.cells #[Iv tk,Sv tt,Iv tn,Iv (k:Nat)] 105)).alloc (by simp;exact le_trans U0.size zo) (.cells #[Iv tk,Sv tt,Iv tn,Iv (k:Nat)] 105);have hsz:=bA.size;have mA:=bA.grown hgrow hsz (Jar vA.o)
     have sA:((w3.alloc (.cells #[Iv tk,Sv tt,Iv tn,Iv (k:Nat)] 105)).alloc (.cells #[Iv tk,Sv tt,Iv tn,Iv (k:Nat)] 105)).heap[B]?=some (.cells (tab Qcj) 102 (0,0)):=by
      rw[heap_alloc_old _ _ zq,heap_alloc_old _ _ kA];exact iA.o
     have U7:=Zh ((hgrow.block B zq λe=>Jiw vA.o iA.o zd e.symm).trans sA)
     have HOW:Hi (w'.ownsRow w.heap.size 105 4 v' (us++[(⟨tk,tt,tn,(k:Nat)⟩:Tok)]).length (Qax (us++[(⟨tk,tt,tn,(k:Nat)⟩:Tok)]))):=by
      unfold Hi;rw[List.length_append,KZ];exact L3
     clear L3 hgrow bA hsz sA vA iA;go_wp2;go_roundw
     case rel=>exact⟨us++[(⟨tk,tt,tn,(k:Nat)⟩:Tok)],k+n,by omega,by go_num,by simp;omega,HOW.o,U7.o,mA,H⟩
     case measure=>simp[intOf];omega
  ·have pA:k=l.length:=zo
   have H:Hi (QaQ l=(us++[⟨4,[],0,(l.length:Nat)⟩],0,0)):=by
    unfold Hi;rw[HR.o,HS.o,pA,List.drop_length,JcB];rfl
   subst pA;have vA:=Zh xA;clear xA gB hA HS;have jA:us.length+1<=5000:=zo
   go_wp2_with (at_builtin;refine wpList_append_own _ rfl _ _ 65 rfl w.heap.size 105 i0 (.agg #[Iv 0,Em,Iv 0,Iv 0]) 4 40 underlying65 hi qA rA nA rfl zd _ _ _ rfl (vA.o.alloc _) ⟨wr.heap.size,0,none⟩ 1 1 [Iv 4,Em,Iv 0,Iv (l.length:Nat)] rfl rfl ?d1 ?d2 ?d3 ?d4 ?d5 ?_)
   case d1=>
    intro j u hj;rw[Z1];simpa using hj
   case d2=>intro u hu;simp at hu;rcases hu with rfl|rfl|rfl|rfl<;>rfl
   case d3=>unfold maxLen;omega
   case d4=>omega
   case d5=>simp;exact le_trans zA.size zo
   intro v' w' L3 hgrow _;have bA:=zA.alloc zA.size (.cells #[Iv 4,Em,Iv 0,Iv (l.length:Nat)] 105);have mA:=bA.grown hgrow bA.size (Jar vA.o)
   have HOW:Hi (w'.ownsRow w.heap.size 105 4 v' (us++[(⟨4,[],0,(l.length:Nat)⟩:Tok)]).length (Qax (us++[(⟨4,[],0,(l.length:Nat)⟩:Tok)]))):=by
    unfold Hi;rw[List.length_append,KZ];exact L3
   clear L3 hgrow bA vA;go_wp2_with fail;go_ret3;rw[H.o];exact⟨_,rfl,HOW.o,mA⟩
def JcC(l:By)(w:World)(hl:l.length<=281474976710655)(hL:Laid w):Calls prog 32 #[Sv l] w (Qdl (QaQ l) w):=by
 by_cases h:4096<l.length
 ·exact Jez l w h hl
 ·exact JgE l w zo hL
structure Chg(S:List Nat)(w w':World):Prop where
 os:w'.os=w.os
 tape:w'.tape=w.tape
 output:w'.output=w.output
 size:w.heap.size<=w'.heap.size
 block:∀k,k<w.heap.size->k∉S->w'.heap[k]?=w.heap[k]?
section
variable {S S':List Nat}{a w w' w1:World}
def Chg.refl(S:List Nat)(w:World):Chg S w w:=⟨rfl,rfl,rfl,Nat.le_refl _,λ_ _ _=>rfl⟩
def Chg.trans(h:Chg S w w1)(k:Chg S w1 w'):Chg S w w':=
 ⟨k.os.trans h.os,k.tape.trans h.tape,k.output.trans h.output,le_trans h.size k.size,λi hi hn=>(k.block i (Nat.lt_of_lt_of_le hi h.size) hn).trans (h.block i hi hn)⟩
def Chg.mono(h:Chg S w w')(hs:∀k,k∈S->k∈S'\/w.heap.size<=k):Chg S' w w':=
 ⟨h.os,h.tape,h.output,h.size,λk hk hn=>h.block k hk λhm=>by rcases hs k hm with h1|h1;exact hn h1;omega⟩
def Chg.step(h:Chg S w w1)(k:Chg S' w1 w')(hs:∀b,b∈S'->b∈S\/w.heap.size<=b):Chg S w w':=
 ⟨k.os.trans h.os,k.tape.trans h.tape,k.output.trans h.output,le_trans h.size k.size,λi hi hn=>
  (k.block i (Nat.lt_of_lt_of_le hi h.size) λhm=>by rcases hs i hm with h1|h1;exact hn h1;omega).trans (h.block i hi hn)⟩
def Chg.drew(h:Chg S a w):Chg S a w.drew:=⟨h.os,h.tape,h.output,h.size,h.block⟩
def Chg.alloc(h:Chg S a w)(o:Obj):Chg S a (w.alloc o):=
 h.trans ⟨rfl,rfl,rfl,by simp,λk hk _=>Below.heap_alloc _ _ _ hk⟩
def Chg.setCell(h:Chg S a w){p:Addr}(hp:p.block∈S\/a.heap.size<=p.block)(u:Value):Chg S a (w.setCell p u):=
 h.step (S':=[p.block]) ⟨rfl,rfl,rfl,by simp[World.setCell],λk _ hn=>Below.heap_setCell _ _ _ _ (by simpa using hn)⟩ (by simpa using hp)
def Chg.of_below(h:Below w.heap.size w w')(S:List Nat):Chg S w w':=⟨h.os,h.tape,h.output,h.size,λk hk _=>h.block k hk⟩
def Chg.of_grownBy{g:Nat}(h:w.grownBy w' (some g)):Chg [g] w w':=⟨h.os,h.tape,h.output,h.size,λk hk hn=>h.block k hk (by simpa using hn)⟩
def Ze{p:Addr}{v:Value}(h:w.cell? p=some v):p.block<w.heap.size:=World.block_lt_of_cell? w p h
def Jb{k:Nat}{o:Obj}(h:w.heap[k]?=some o):k<w.heap.size:=(Array.getElem?_eq_some_iff.1 h).1
def Chg.heap_some{k:Nat}{o:Obj}(h:Chg S w w')(hn:k∉S)(hc:w.heap[k]?=some o):w'.heap[k]?=some o:=
 (h.block k (Jb hc) hn).trans hc
def Chg.cell_some{p:Addr}{v:Value}(h:Chg S w w')(hn:p.block∉S)(hc:w.cell? p=some v):w'.cell? p=some v:=
 (World.cell?_of_block (w:=w) (h.block p.block (Ze hc) hn)).trans hc
end
def Ja{w:World}{g:Nat}{cs:Array Value}{t:TypeId}{fr:Nat×Nat}(hg:w.heap[g]?=some (.cells cs t fr))(j:Nat):w.cell? ⟨g,j,none⟩=cs[j]?:=
 cell_of_row w g j cs t fr hg
def Jc{w:World}{g:Nat}{cs:Array Value}{t:TypeId}(hg:w.heap[g]?=some (.cells cs t (0,0)))(j:Nat):w.frozen? ⟨g,j,none⟩=false:=by
 simp[World.frozen?,hg]
def JC{w:World}{g:Nat}{cs:Array Value}{t:TypeId}{fr:Nat×Nat}(hg:w.heap[g]?=some (.cells cs t fr))(j:Nat)(u:Value):
  (w.setCell ⟨g,j,none⟩ u).heap[g]?=some (.cells (cs.setIfInBounds j u) t fr):=by
 simp[World.setCell,Array.getElem?_modify,hg]
def Jh{w:World}{g:Nat}{p:Addr}{o:Obj}(hg:w.heap[g]?=some o)(hn:g≠p.block)(u:Value):(w.setCell p u).heap[g]?=some o:=
 (Below.heap_setCell w p u g hn).trans hg
end Go.Proofs.YtncanmdgdflnpaaGreatDoor


