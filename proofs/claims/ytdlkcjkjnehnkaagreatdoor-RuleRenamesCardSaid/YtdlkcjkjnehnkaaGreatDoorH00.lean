import Derived.Below
import Derived.Deep.RegionHeld
import Derived.Lib.Hide
import Derived.Shelf.Strings.Builder1
import Derived.Shelf.Strings.Builder2
import Derived.Shelf.Small.Strs
import Derived.Shelf.Strconv.Atoi
import Derived.Shelf.Strconv.Itoa0
import Derived.Shelf.Strconv.Itoa1
import Derived.Shelf.LaysM
import Derived.Shelf.Strconv.Itoa2
import Derived.Shelf.Strconv.Itoa3
import Derived.Shelf.Strconv.AtoiErrFast
import Derived.Shelf.Strconv.ParseIntEmpty
import Derived.Shelf.Strconv.AtoiFail
import Derived.Shelf.Strconv.Clone
import Derived.Shelf.Strconv.SyntaxError
import Derived.Shelf.LaysC
import Derived.Shelf.Strconv.ToError
import Derived.Shelf.Strconv.AtoiErr
import Derived.Shelf.Strconv.ErrVar
import Derived.Shelf.Strconv.Lower
import Derived.Shelf.Strconv.ParseUint10
import Derived.Shelf.Strconv.ParseUint10Empty
import Derived.Shelf.Strconv.ParseUint10Any
import Derived.Shelf.Strconv.ParseInt10
import Derived.Shelf.Strconv.AtoiLong
import Derived.Shelf.Strconv.AtoiInnerAll
import Derived.Shelf.Strconv.RangeError
import Derived.Shelf.Strconv.ToErrorRange
import Derived.Shelf.Strconv.AtoiAll
import Derived.Shelf.Strconv.ErrVarAll
import Derived.Shelf.Strconv.ParseUintEmpty
import Derived.Shelf.Strconv.ParseUint10b64
import Derived.Shelf.Strconv.ParseUint10b32
import Derived.Shelf.Strconv.ParseUint10b16
import Derived.Shelf.Strconv.ParseUint10b8
import Derived.Shelf.Strconv.ParseUint10At
import Derived.Shelf.Strconv.ParseInt10At64
import Derived.Shelf.Strconv.ParseInt10At32
import Derived.Shelf.Strconv.ParseInt10At16
import Derived.Shelf.Strconv.ParseInt10At8
import Derived.Shelf.Strconv.ParseInt10All
import Derived.Shelf.Strings.Search1
import Derived.Shelf.Strings.Prefix
import Derived.Shelf.Slices.Turned
import Derived.Test.YtdlkcjkjnehnkaaGreatDoorProg
namespace Go.Proofs.YtdlkcjkjnehnkaaGreatDoor
theorem ZA{α:Type}(l:List α)(i:Nat)(a:α):l.toArray.setIfInBounds i a=(l.set i a).toArray:=List.setIfInBounds_toArray l i a
theorem ZB{α:Type}(b:α)(x:α)(l:List α):(x::l).set 0 b=b::l:=rfl
theorem ZC{α:Type}(b:α)(x:α)(l:List α)(n:Nat):(x::l).set (n+1) b=x::l.set n b:=rfl
theorem ZD{α:Type}(l:List α)(i:Nat):l.toArray[i]?=l[i]?:=List.getElem?_toArray
theorem ZE{α:Type}(x:α)(l:List α)(n:Nat):(x::l)[n+1]?=l[n]?:=rfl
theorem ZF{α:Type}(x:α)(l:List α):(x::l)[0]?=some x:=rfl
section
open Go
variable {P:Program} {md:Region.Mode} {ops:Array Oper} {Q:Exit->Act->World->Prop} {S:World->Prop}
theorem ZT{i:Nat}{d:Option Tmp}{o:Op}{t:TypeId}{p:String}{af:Array Edge}{g:Option (Nat × Bool)}{v:Value}{fuel:Nat}{Qbv:Array Bool}{a:Act}{w:World}(hi:ops[i]?=some ⟨d,o,t,p,af,g⟩)(hy:YieldsIf P ops S ⟨d,o,t,p,af,g⟩ v a)
  (h:wpAnyH P md ops Q S fuel (Qbv.setIfInBounds i true) (a.put d v) w) (hS:S w:=by assumption)
  (hs:Region.noSelect ops=true:=by kernel_rfl) (hf:Region.free md ops Qbv i=true:=by kernel_rfl) (hr:(Region.ready md ops Qbv).contains i=true:=by kernel_rfl)
  (hQ:∀ c a w,Q (.panic c) (a.put d v) w->Q (.panic c) a w:=by exact fun _ _ _ h=>h):wpAnyH P md ops Q S (fuel+1) Qbv a w:=wpAnyH_take hi hs hf hr hQ hy hS h
theorem ZR{rs:List Nat}{fuel:Nat}{Qbv:Array Bool}{a:Act}{w:World}(h:AllReadyH P md ops Q S fuel Qbv a w rs)(hr:Region.ready md ops Qbv=rs:=by kernel_rfl)(hne:rs≠[]:=by simp):wpAnyH P md ops Q S (fuel+1) Qbv a w:=wpAnyH_ready hr hne h
theorem ZS(i:Nat){d:Option Tmp}{o:Op}{t:TypeId}{p:String}{af:Array Edge}{g:Option (Nat × Bool)}{fuel:Nat}{Qbv:Array Bool}{a:Act}{w:World}(ho:ops[i]?=some ⟨d,o,t,p,af,g⟩)
  (h:∀ K':Act->World->Prop,Shut (∀ a w,S w->(S w->wpAnyH P md ops Q S fuel (Qbv.setIfInBounds i true) a w)->K' a w)->if Region.wanted ⟨d,o,t,p,af,g⟩ (yielded ops a.tmps)=true then Oper.wp P ⟨d,o,t,p,af,g⟩ a w K' Q else K' (a.put d undef) w)
  (hr:Region.ready md ops Qbv=[i]:=by kernel_rfl):wpAnyH P md ops Q S (fuel+1) Qbv a w:=wpAnyH_ready hr (by simp) (AllReadyH.cons ho h AllReadyH.nil)
theorem Zt{α:Type}{a:Option α}{b c:α}(h:a=some b)(e:b=c:=by kernel_rfl):a=some c:=by rw[h,e]
theorem ZyQ{P:Prop}(h:P:=by intro wX hSw;(try dsimp only at hSw);go_simp<;>with_reducible rfl):P:=h
theorem Zh{p:Prop}(h:p):Go.RowKit.Hid p:=h
end
open Go in
theorem zzl{n:Nat}:n<=n:=Nat.le_refl n
open Go in
theorem zzb{B:Nat}{w:World}:Go.RowKit.Below B w w:=Go.RowKit.Below.refl B w
open Go in
theorem zzq{α:Type}[BEq α][LawfulBEq α]{a b:α}(h:a≠b):(a==b)=false:=beq_eq_false_iff_ne.2 h
open Go in
theorem zzw(w:World)(o:Obj):(w.alloc o).heap[w.heap.size]?=some o:=Go.heap_alloc_new w o
end Go.Proofs.YtdlkcjkjnehnkaaGreatDoor
namespace Go.Proofs
open Go.Proofs.Tryz YtdlkcjkjnehnkaaGreatDoor
open Go.Shelf
def Tryz.lays137_ren:Go.Shelf.Ren:=⟨fun|137=>93|217=>113|266=>128|n=>n,fun|9=>9|5=>5|3=>3|n=>n,fun|n=>n⟩
theorem Tryz.lays137:Go.Proofs.Lays.n137 prog Tryz.lays137_ren:=⟨by kernel_rfl,Zt func93,Zt func113,Zt func128,underlying3,isAgg3,sizeOf3,zeroValue3,underlying5,isAgg5,sizeOf5,zeroValue5,underlying9,isAgg9,sizeOf9,zeroValue9⟩
open Go.RowKit in
theorem Tryz.strings_IndexByte(s:ByteArray)(c:Int)(w:World) :
  Calls prog 93 #[.string s,.int .u8 c] w fun e w'=>e=.returned (.int .i64 (Lib.indexByte s.data.toList c.toNat.toUInt8))/\w'=w:=Any.strings_IndexByte Tryz.lays137 s c w
def Tryz.laysM171_ren:Go.Shelf.Ren:=⟨fun|171=>58|243=>87|246=>109|283=>119|284=>120|285=>121|286=>122|129=>133|317=>132|318=>134|319=>135|320=>136|337=>140|338=>141|n=>n,fun|3=>3|9=>9|2=>2|4=>4|171=>170|0=>0|53=>171|37=>62|5=>5|173=>174|212=>184|51=>185|20=>20|213=>186|46=>187|232=>199|233=>200|n=>n,fun|17=>1|18=>4|19=>5|n=>n⟩
theorem Tryz.laysM171:Go.Proofs.LaysM.n171 prog Tryz.laysM171_ren:={
 mixed:=by kernel_rfl
 f129:=Zt func133
 f171:=Zt func58
 f243:=Zt func87
 f246:=Zt func109
 f283:=Zt func119
 f284:=Zt func120
 f285:=Zt func121
 f286:=Zt func122
 f317:=Zt func132
 f318:=Zt func134
 f319:=Zt func135
 f320:=Zt func136
 f337:=Zt func140
 f338:=Zt func141
 t0:=underlying0
 a0:=isAgg0
 z0:=sizeOf0
 v0:=zeroValue0
 t2:=underlying2
 a2:=isAgg2
 z2:=sizeOf2
 v2:=zeroValue2
 t3:=underlying3
 a3:=isAgg3
 z3:=sizeOf3
 v3:=zeroValue3
 t4:=underlying4
 a4:=isAgg4
 z4:=sizeOf4
 v4:=zeroValue4
 t5:=underlying5
 a5:=isAgg5
 z5:=sizeOf5
 v5:=zeroValue5
 t9:=underlying9
 a9:=isAgg9
 z9:=sizeOf9
 v9:=zeroValue9
 t20:=underlying20
 a20:=isAgg20
 z20:=sizeOf20
 v20:=zeroValue20
 t37:=underlying62
 a37:=isAgg62
 z37:=sizeOf62
 v37:=zeroValue62
 t46:=underlying187
 a46:=isAgg187
 z46:=sizeOf187
 v46:=zeroValue187
 t51:=underlying185
 a51:=isAgg185
 z51:=sizeOf185
 v51:=zeroValue185
 t53:=underlying171
 a53:=isAgg171
 z53:=sizeOf171
 v53:=zeroValue171
 t171:=underlying170
 a171:=isAgg170
 z171:=sizeOf170
 v171:=zeroValue170
 t173:=underlying174
 a173:=isAgg174
 z173:=sizeOf174
 v173:=zeroValue174
 t212:=underlying184
 a212:=isAgg184
 z212:=sizeOf184
 v212:=zeroValue184
 t213:=underlying186
 a213:=isAgg186
 z213:=sizeOf186
 t232:=underlying199
 a232:=isAgg199
 z232:=sizeOf199
 v232:=zeroValue199
 t233:=underlying200
 a233:=isAgg200
 z233:=sizeOf200
 v233:=zeroValue200
 g17:=by kernel_rfl
 g18:=by kernel_rfl
 g19:=by kernel_rfl
 i0:=by kernel_rfl
 i2:=by kernel_rfl
 i3:=by kernel_rfl
 i4:=by kernel_rfl
 i5:=by kernel_rfl
 i9:=by kernel_rfl
 i20:=by kernel_rfl
 i37:=by kernel_rfl
 i46:=by kernel_rfl
 i51:=by kernel_rfl
 i53:=by kernel_rfl
 i171:=by kernel_rfl
 i173:=by kernel_rfl
 i212:=by kernel_rfl
 i232:=by kernel_rfl
 i233:=by kernel_rfl
 m17:=by kernel_rfl
 m18:=by kernel_rfl
 m19:=by kernel_rfl }
open Go.RowKit Go.Sort Go.Lib in
theorem Tryz.strconv_Itoa(n:Int)(h0:-9223372036854775808<=n)(h1:n<=9223372036854775807)(w:World)(htab:Lib.TabIs prog w "internal/strconv.uint64pow10" .u64 Lib.pow10Tab) :
  Calls prog 58 #[.int .i64 n] w fun e w'=>e=.returned (.string ⟨(Lib.itoa n).toArray⟩)/\∃ k os,w'=grow (w.drewN k) os:=Any.strconv_Itoa Tryz.laysM171 n h0 h1 w htab
def Tryz.laysC172_ren:Go.Shelf.Ren:=⟨fun|172=>91|244=>110|245=>111|247=>123|279=>124|280=>125|281=>126|282=>127|287=>137|316=>138|171=>58|205=>139|321=>142|322=>143|243=>87|246=>109|283=>119|284=>120|285=>121|286=>122|129=>133|317=>132|318=>134|319=>135|320=>136|337=>140|338=>141|n=>n,fun|9=>9|3=>3|75=>106|76=>107|4=>4|5=>5|167=>176|37=>62|0=>0|85=>177|2=>2|168=>179|53=>171|175=>189|46=>187|210=>192|127=>111|145=>198|143=>196|21=>21|171=>170|173=>174|212=>184|51=>185|20=>20|213=>186|232=>199|233=>200|80=>70|n=>n,fun|15=>2|16=>3|17=>1|18=>4|19=>5|n=>n⟩
theorem Tryz.laysC172:Go.Proofs.LaysC.n172 prog Tryz.laysC172_ren:={
 mixed:=by kernel_rfl
 f129:=Zt func133
 f171:=Zt func58
 f172:=Zt func91
 f205:=Zt func139
 f243:=Zt func87
 f244:=Zt func110
 f245:=Zt func111
 f246:=Zt func109
 f247:=Zt func123
 f279:=Zt func124
 f280:=Zt func125
 f281:=Zt func126
 f282:=Zt func127
 f283:=Zt func119
 f284:=Zt func120
 f285:=Zt func121
 f286:=Zt func122
 f287:=Zt func137
 f316:=Zt func138
 f317:=Zt func132
 f318:=Zt func134
 f319:=Zt func135
 f320:=Zt func136
 f321:=Zt func142
 f322:=Zt func143
 f337:=Zt func140
 f338:=Zt func141
 t0:=underlying0
 a0:=isAgg0
 z0:=sizeOf0
 v0:=zeroValue0
 t2:=underlying2
 a2:=isAgg2
 z2:=sizeOf2
 v2:=zeroValue2
 t3:=underlying3
 a3:=isAgg3
 z3:=sizeOf3
 v3:=zeroValue3
 t4:=underlying4
 a4:=isAgg4
 z4:=sizeOf4
 v4:=zeroValue4
 t5:=underlying5
 a5:=isAgg5
 z5:=sizeOf5
 v5:=zeroValue5
 t9:=underlying9
 a9:=isAgg9
 z9:=sizeOf9
 v9:=zeroValue9
 t20:=underlying20
 a20:=isAgg20
 z20:=sizeOf20
 v20:=zeroValue20
 t21:=underlying21
 a21:=isAgg21
 z21:=sizeOf21
 v21:=zeroValue21
 t37:=underlying62
 a37:=isAgg62
 z37:=sizeOf62
 v37:=zeroValue62
 t46:=underlying187
 a46:=isAgg187
 z46:=sizeOf187
 v46:=zeroValue187
 t51:=underlying185
 a51:=isAgg185
 z51:=sizeOf185
 v51:=zeroValue185
 t53:=underlying171
 a53:=isAgg171
 z53:=sizeOf171
 v53:=zeroValue171
 t75:=underlying106
 a75:=isAgg106
 z75:=sizeOf106
 v75:=zeroValue106
 t76:=underlying107
 a76:=isAgg107
 z76:=sizeOf107
 v76:=zeroValue107
 t85:=underlying177
 a85:=isAgg177
 z85:=sizeOf177
 v85:=zeroValue177
 t127:=underlying111
 a127:=isAgg111
 z127:=sizeOf111
 v127:=zeroValue111
 t143:=underlying196
 a143:=isAgg196
 z143:=sizeOf196
 v143:=zeroValue196
 t145:=underlying198
 a145:=isAgg198
 z145:=sizeOf198
 v145:=zeroValue198
 t167:=underlying176
 a167:=isAgg176
 z167:=sizeOf176
 v167:=zeroValue176
 t168:=underlying179
 a168:=isAgg179
 z168:=sizeOf179
 v168:=zeroValue179
 t171:=underlying170
 a171:=isAgg170
 z171:=sizeOf170
 v171:=zeroValue170
 t173:=underlying174
 a173:=isAgg174
 z173:=sizeOf174
 v173:=zeroValue174
 t175:=underlying189
 a175:=isAgg189
 z175:=sizeOf189
 v175:=zeroValue189
 t210:=underlying192
 a210:=isAgg192
 z210:=sizeOf192
 v210:=zeroValue192
 t212:=underlying184
 a212:=isAgg184
 z212:=sizeOf184
 v212:=zeroValue184
 t213:=underlying186
 a213:=isAgg186
 z213:=sizeOf186
 t232:=underlying199
 a232:=isAgg199
 z232:=sizeOf199
 v232:=zeroValue199
 t233:=underlying200
 a233:=isAgg200
 z233:=sizeOf200
 v233:=zeroValue200
 g15:=by kernel_rfl
 g16:=by kernel_rfl
 g17:=by kernel_rfl
 g18:=by kernel_rfl
 g19:=by kernel_rfl
 t80:=underlying70
 a80:=isAgg70
 z80:=sizeOf70
 v80:=zeroValue70
 i0:=by kernel_rfl
 i2:=by kernel_rfl
 i3:=by kernel_rfl
 i4:=by kernel_rfl
 i5:=by kernel_rfl
 i9:=by kernel_rfl
 i20:=by kernel_rfl
 i21:=by kernel_rfl
 i37:=by kernel_rfl
 i46:=by kernel_rfl
 i51:=by kernel_rfl
 i53:=by kernel_rfl
 i75:=by kernel_rfl
 i76:=by kernel_rfl
 i80:=by kernel_rfl
 i85:=by kernel_rfl
 i127:=by kernel_rfl
 i143:=by kernel_rfl
 i145:=by kernel_rfl
 i167:=by kernel_rfl
 i168:=by kernel_rfl
 i171:=by kernel_rfl
 i173:=by kernel_rfl
 i175:=by kernel_rfl
 i210:=by kernel_rfl
 i212:=by kernel_rfl
 i232:=by kernel_rfl
 i233:=by kernel_rfl
 m15:=by kernel_rfl
 m16:=by kernel_rfl
 m17:=by kernel_rfl
 m18:=by kernel_rfl
 m19:=by kernel_rfl
 c0:=by kernel_rfl
 c2:=by kernel_rfl
 c3:=by kernel_rfl
 c4:=by kernel_rfl
 c5:=by kernel_rfl
 c9:=by kernel_rfl
 c20:=by kernel_rfl
 c21:=by kernel_rfl
 c37:=by kernel_rfl
 c46:=by kernel_rfl
 c51:=by kernel_rfl
 c53:=by kernel_rfl
 c75:=by kernel_rfl
 c76:=by kernel_rfl
 c80:=by kernel_rfl
 c85:=by kernel_rfl
 c127:=by kernel_rfl
 c143:=by kernel_rfl
 c145:=by kernel_rfl
 c167:=by kernel_rfl
 c168:=by kernel_rfl
 c171:=by kernel_rfl
 c173:=by kernel_rfl
 c175:=by kernel_rfl
 c210:=by kernel_rfl
 c212:=by kernel_rfl
 c213:=by kernel_rfl
 c232:=by kernel_rfl
 c233:=by kernel_rfl }
open Go.RowKit in
theorem Tryz.strconv_Atoi_ok(s:ByteArray)(hmax:s.size<=9223372036854775806)(v:Int)(h:Lib.atoiAll s.data.toList=.ok v)(w:World) :
  Calls prog 91 #[.string s] w fun e w'=>e=.returned (.tuple #[.int .i64 v,.nilIface])/\(w'=w\/∃ t,w'=Lib.bytesWorld w 5 t):=Any.strconv_Atoi_ok Tryz.laysC172 s hmax v h w
open Go.RowKit in
theorem Tryz.strconv_Atoi_syntax_var(s:ByteArray)(hlim:s.size<=281474976710656)(h:Lib.atoiAll s.data.toList=Lib.atoiAll [])(tp:TypeId)(p:Value)(w:World)(hvar:w.var? prog "strconv.ErrSyntax"=some #[.iface tp p]) :
  Calls prog 91 #[.string s] w fun e w'=>∃ N,e=.returned (.tuple #[.int .i64 0,.iface 179 (.pointer (some ⟨N,0,none⟩))])/\w.heap.size<=N/\w'.heap[N]?=some (.cells #[.string ⟨#[65,116,111,105]⟩,.string s,.iface tp p] 192 (0,0))/\Below w.heap.size w w':=Any.strconv_Atoi_syntax_var Tryz.laysC172 s hlim h tp p w hvar
open Go.RowKit in
theorem Tryz.strconv_Atoi_range_var(s:ByteArray)(hlim:s.size<=281474976710656)(h:Lib.atoiAll s.data.toList=.range)(tp:TypeId)(p:Value)(w:World)(hvar:w.var? prog "strconv.ErrRange"=some #[.iface tp p]) :
  Calls prog 91 #[.string s] w fun e w'=>∃ N,e=.returned (.tuple #[.int .i64 (Lib.atoiSat s.data.toList),.iface 179 (.pointer (some ⟨N,0,none⟩))])/\w.heap.size<=N/\w'.heap[N]?=some (.cells #[.string ⟨#[65,116,111,105]⟩,.string s,.iface tp p] 192 (0,0))/\Below w.heap.size w w':=Any.strconv_Atoi_range_var Tryz.laysC172 s hlim h tp p w hvar
def Tryz.lays99_ren:Go.Shelf.Ren:=⟨fun|99=>92|206=>112|n=>n,fun|9=>9|4=>4|3=>3|n=>n,fun|n=>n⟩
theorem Tryz.lays99:Go.Proofs.Lays.n99 prog Tryz.lays99_ren:=⟨by kernel_rfl,Zt func92,Zt func112,underlying3,isAgg3,sizeOf3,zeroValue3,underlying4,isAgg4,sizeOf4,zeroValue4,underlying9,isAgg9,sizeOf9,zeroValue9⟩
open Go.RowKit Go.Lib in
theorem Tryz.strings_HasPrefix(s p:ByteArray)(w:World) :
  Calls prog 92 #[.string s,.string p] w fun e w'=>e=.returned (.bool (Lib.hasPrefix s.data.toList p.data.toList))/\w'=w:=Any.strings_HasPrefix Tryz.lays99 s p w
def Tryz.lays110_ren:Go.Shelf.Ren:=⟨fun|110=>76|109=>98|n=>n,fun|31=>47|9=>9|4=>4|3=>3|0=>0|n=>n,fun|n=>n⟩
theorem Tryz.lays110:Go.Proofs.Lays.n110 prog Tryz.lays110_ren:=⟨by kernel_rfl,Zt func98,Zt func76,underlying0,isAgg0,sizeOf0,zeroValue0,underlying3,isAgg3,sizeOf3,zeroValue3,underlying4,isAgg4,sizeOf4,zeroValue4,underlying9,isAgg9,sizeOf9,zeroValue9,underlying47,isAgg47,sizeOf47,zeroValue47⟩
open Go.Lib in
theorem Tryz.slices_Contains_string(b off n c:Nat)(zs:List ByteArray)(x:ByteArray)(w:World)(hz:n<=zs.length)(hbig:n<=9223372036854775807)(hc:∀ j,j<zs.length->w.cell? ⟨b,off+j,none⟩=some (.string (zs.getD j ByteArray.empty))) :
  Calls prog 76 #[.slice (some ⟨b,off,none⟩) n c,.string x] w fun e w'=>e=.returned (.bool (Lib.containsS (zs.take n) x))/\w'=w:=Any.slices_Contains_string Tryz.lays110 b off n c zs x w hz hbig hc
open Go.Lib in
theorem Tryz.slices_Contains_string_empty(a:Option Addr)(c:Nat)(x:ByteArray)(w:World) :
  Calls prog 76 #[.slice a 0 c,.string x] w fun e w'=>e=.returned (.bool false)/\w'=w:=Any.slices_Contains_string_empty Tryz.lays110 a c x w
end Go.Proofs
