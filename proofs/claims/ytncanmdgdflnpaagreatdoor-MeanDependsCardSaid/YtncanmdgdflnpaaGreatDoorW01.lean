import Derived.Shelf.Small.Strs
import Derived.Shelf.Strconv.Atoi
import Derived.Shelf.Strconv.Itoa0
import Derived.Shelf.Strconv.Itoa1
import Derived.Shelf.LaysM
import Derived.Shelf.Strconv.Itoa2
import Derived.Shelf.Strconv.Itoa3
import Derived.Shelf.Strconv.AtoiErrFast
import Derived.Shelf.Strconv.ParseIntEmpty
import Derived.Shelf.Strconv.AtoiFail
import Derived.Shelf.Strconv.Clone
import Derived.Shelf.Strconv.SyntaxError
import Derived.Shelf.LaysC
import Derived.Shelf.Strconv.ToError
import Derived.Shelf.Strconv.AtoiErr
import Derived.Shelf.Strconv.ErrVar
import Derived.Shelf.Strconv.Lower
import Derived.Shelf.Strconv.ParseUint10
import Derived.Shelf.Strconv.ParseUint10Empty
import Derived.Shelf.Strconv.ParseUint10Any
import Derived.Shelf.Strconv.ParseInt10
import Derived.Shelf.Strconv.AtoiLong
import Derived.Shelf.Strconv.AtoiInnerAll
import Derived.Shelf.Strconv.RangeError
import Derived.Shelf.Strconv.ToErrorRange
import Derived.Shelf.Strconv.AtoiAll
import Derived.Shelf.Strconv.ErrVarAll
import Derived.Shelf.Strconv.ParseUintEmpty
import Derived.Shelf.Strings.Search1
import Derived.Shelf.Strings.Prefix
import Derived.Shelf.Bits.Mul64
import Derived.Shelf.Slices.Turned
import Derived.Test.YtncanmdgdflnpaaGreatDoorProg
import Derived.Test.YtncanmdgdflnpaaGreatDoorW00



namespace Go.Proofs
open Go.Proofs.Tryz YtncanmdgdflnpaaGreatDoor
open Go.Shelf
def Tryz.lays137_ren:Go.Shelf.Ren:=⟨fun | 137=>127 | 217=>146 | 266=>159 | n=>n,fun | 9=>9 | 5=>5 | 3=>3 | n=>n,fun | n=>n⟩
theorem Tryz.lays137:Go.Proofs.Lays.n137 prog Tryz.lays137_ren:=⟨by kernel_rfl,Zt func127,Zt func146,Zt func159,underlying3,isAgg3,sizeOf3,zeroValue3,underlying5,isAgg5,sizeOf5,zeroValue5,underlying9,isAgg9,sizeOf9,zeroValue9⟩
open Go.RowKit in

theorem Tryz.strings_IndexByte (s:ByteArray) (c:Int) (w:World) :
  Calls prog 127 #[.string s,.int .u8 c] w fun e w'=>e=.returned (.int .i64 (Lib.indexByte s.data.toList c.toNat.toUInt8))∧w'=w:=Any.strings_IndexByte Tryz.lays137 s c w
def Tryz.lays244_ren:Go.Shelf.Ren:=⟨fun | 244=>142 | 247=>153 | 287=>166 | 321=>171 | 322=>172 | n=>n,fun | 9=>9 | 3=>3 | 75=>183 | 4=>4 | 5=>5 | 167=>196 | 37=>161 | 0=>0 | 85=>197 | 2=>2 | 53=>98 | 175=>203 | 46=>160 | 21=>21 | 80=>128 | n=>n,fun | n=>n⟩
theorem Tryz.lays244:Go.Proofs.Lays.n244 prog Tryz.lays244_ren:=⟨by kernel_rfl,Zt func142,Zt func153,Zt func166,Zt func171,Zt func172,underlying0,isAgg0,sizeOf0,zeroValue0,underlying2,isAgg2,sizeOf2,zeroValue2,underlying3,isAgg3,sizeOf3,zeroValue3,underlying4,isAgg4,sizeOf4,zeroValue4,underlying5,isAgg5,sizeOf5,zeroValue5,underlying9,isAgg9,sizeOf9,zeroValue9,underlying21,isAgg21,sizeOf21,zeroValue21,underlying161,isAgg161,sizeOf161,zeroValue161,underlying160,isAgg160,sizeOf160,zeroValue160,underlying98,isAgg98,sizeOf98,zeroValue98,underlying183,isAgg183,sizeOf183,zeroValue183,underlying197,isAgg197,sizeOf197,zeroValue197,underlying196,isAgg196,sizeOf196,zeroValue196,underlying203,isAgg203,sizeOf203,zeroValue203⟩
open Go.RowKit in

theorem Tryz.internal_strconv_Atoi (s:ByteArray) (n:Int) (hl:s.size≤18) (h:Lib.atoi s.data.toList=some n) (w:World) :
  Calls prog 142 #[.string s] w fun e w'=>e=.returned (.tuple #[.int .i64 n,.nilIface])∧∃ t,w'=Lib.bytesWorld w 5 t:=Any.internal_strconv_Atoi Tryz.lays244 s n hl h w
def Tryz.lays172_ren:Go.Shelf.Ren:=⟨fun | 172=>124 | 244=>142 | 245=>143 | 247=>153 | 279=>154 | 280=>155 | 281=>156 | 282=>157 | 287=>166 | 316=>167 | 171=>144 | 205=>168 | 321=>171 | 322=>172 | 243=>158 | 246=>169 | 283=>173 | 284=>174 | 285=>175 | 286=>176 | 129=>179 | 317=>178 | 318=>180 | 319=>181 | 320=>182 | 337=>183 | 338=>184 | n=>n,fun | 9=>9 | 3=>3 | 75=>183 | 76=>184 | 4=>4 | 5=>5 | 167=>196 | 37=>161 | 0=>0 | 85=>197 | 2=>2 | 168=>199 | 53=>98 | 175=>203 | 46=>160 | 210=>206 | 127=>210 | 145=>213 | 143=>211 | 21=>21 | 171=>214 | 173=>217 | 212=>219 | 51=>220 | 20=>20 | 213=>221 | 232=>224 | 233=>225 | 80=>128 | n=>n,fun | 15=>0 | 16=>1 | 17=>3 | 18=>4 | 19=>5 | n=>n⟩
theorem Tryz.lays172:Go.Proofs.Lays.n172 prog Tryz.lays172_ren:=⟨by kernel_rfl,Zt func179,Zt func144,Zt func124,Zt func168,Zt func158,Zt func142,Zt func143,Zt func169,Zt func153,Zt func154,Zt func155,Zt func156,Zt func157,Zt func173,Zt func174,Zt func175,Zt func176,Zt func166,Zt func167,Zt func178,Zt func180,Zt func181,Zt func182,Zt func171,Zt func172,Zt func183,Zt func184,underlying0,isAgg0,sizeOf0,zeroValue0,underlying2,isAgg2,sizeOf2,zeroValue2,underlying3,isAgg3,sizeOf3,zeroValue3,underlying4,isAgg4,sizeOf4,zeroValue4,underlying5,isAgg5,sizeOf5,zeroValue5,underlying9,isAgg9,sizeOf9,zeroValue9,underlying20,isAgg20,sizeOf20,zeroValue20,underlying21,isAgg21,sizeOf21,zeroValue21,underlying161,isAgg161,sizeOf161,zeroValue161,underlying160,isAgg160,sizeOf160,zeroValue160,underlying220,isAgg220,sizeOf220,zeroValue220,underlying98,isAgg98,sizeOf98,zeroValue98,underlying183,isAgg183,sizeOf183,zeroValue183,underlying184,isAgg184,sizeOf184,zeroValue184,underlying197,isAgg197,sizeOf197,zeroValue197,underlying210,isAgg210,sizeOf210,zeroValue210,underlying211,isAgg211,sizeOf211,zeroValue211,underlying213,isAgg213,sizeOf213,zeroValue213,underlying196,isAgg196,sizeOf196,zeroValue196,underlying199,isAgg199,sizeOf199,zeroValue199,underlying214,isAgg214,sizeOf214,zeroValue214,underlying217,isAgg217,sizeOf217,zeroValue217,underlying203,isAgg203,sizeOf203,zeroValue203,underlying206,isAgg206,sizeOf206,zeroValue206,underlying219,isAgg219,sizeOf219,zeroValue219,underlying221,isAgg221,sizeOf221,underlying224,isAgg224,sizeOf224,zeroValue224,underlying225,isAgg225,sizeOf225,zeroValue225,by kernel_rfl,by kernel_rfl,by kernel_rfl,by kernel_rfl,by kernel_rfl⟩
open Go.RowKit in

theorem Tryz.strconv_Atoi (s:ByteArray) (n:Int) (hl:s.size≤18) (h:Lib.atoi s.data.toList=some n) (w:World) :
  Calls prog 124 #[.string s] w fun e w'=>e=.returned (.tuple #[.int .i64 n,.nilIface])∧∃ t,w'=Lib.bytesWorld w 5 t:=Any.strconv_Atoi Tryz.lays172 s n hl h w
def Tryz.lays129_ren:Go.Shelf.Ren:=⟨fun | 129=>179 | n=>n,fun | 53=>98 | 3=>3 | 4=>4 | 46=>160 | 5=>5 | 9=>9 | n=>n,fun | n=>n⟩
theorem Tryz.lays129:Go.Proofs.Lays.n129 prog Tryz.lays129_ren:=⟨by kernel_rfl,Zt func179,underlying3,isAgg3,sizeOf3,zeroValue3,underlying4,isAgg4,sizeOf4,zeroValue4,underlying5,isAgg5,sizeOf5,zeroValue5,underlying9,isAgg9,sizeOf9,zeroValue9,underlying160,isAgg160,sizeOf160,zeroValue160,underlying98,isAgg98,sizeOf98,zeroValue98⟩

theorem Tryz.bits_Len64 (x:Int) (w:World) (h0:0≤x) (h1:x≤18446744073709551615) :
  Calls prog 179 #[.int .u64 x] w fun e w'=>e=.returned (.int .i64 (Lib.bitLen x.toNat))∧w'=w:=Any.bits_Len64 Tryz.lays129 x w h0 h1
def Tryz.lays317_ren:Go.Shelf.Ren:=⟨fun | 317=>178 | n=>n,fun | 3=>3 | 46=>160 | n=>n,fun | n=>n⟩
theorem Tryz.lays317:Go.Proofs.Lays.n317 prog Tryz.lays317_ren:=⟨by kernel_rfl,Zt func178,underlying3,isAgg3,sizeOf3,zeroValue3,underlying160,isAgg160,sizeOf160,zeroValue160⟩
open Go.Lib in

theorem Tryz.internal_strconv_log10Pow2 (x:Nat) (h:x≤64) (w:World) :
  Calls prog 178 #[.int .i64 x] w fun e w'=>e=.returned (.int .i64 (Lib.l10 x))∧w'=w:=Any.internal_strconv_log10Pow2 Tryz.lays317 x h w
def Tryz.lays318_ren:Go.Shelf.Ren:=⟨fun | 318=>180 | n=>n,fun | 3=>3 | 4=>4 | n=>n,fun | n=>n⟩
theorem Tryz.lays318:Go.Proofs.Lays.n318 prog Tryz.lays318_ren:=⟨by kernel_rfl,Zt func180,underlying3,isAgg3,sizeOf3,zeroValue3,underlying4,isAgg4,sizeOf4,zeroValue4⟩
open Go.Lib in

theorem Tryz.internal_strconv_bool2_int (b:Bool) (w:World) :
  Calls prog 180 #[.bool b] w fun e w'=>e=.returned (.int .i64 (if b then 1 else 0))∧w'=w:=Any.internal_strconv_bool2_int Tryz.lays318 b w
def Tryz.lays283_ren:Go.Shelf.Ren:=⟨fun | 283=>173 | n=>n,fun | 3=>3 | 9=>9 | 4=>4 | n=>n,fun | n=>n⟩
theorem Tryz.lays283:Go.Proofs.Lays.n283 prog Tryz.lays283_ren:=⟨by kernel_rfl,Zt func173,underlying3,isAgg3,sizeOf3,zeroValue3,underlying4,isAgg4,sizeOf4,zeroValue4,underlying9,isAgg9,sizeOf9,zeroValue9⟩
open Go.Lib in

theorem Tryz.internal_strconv_small (i:Nat) (h:i<100) (w:World) :
  Calls prog 173 #[.int .i64 i] w fun e w'=>e=.returned (.string ⟨(Lib.decDigits i).toArray⟩)∧w'=w:=Any.internal_strconv_small Tryz.lays283 i h w
def Tryz.laysM284_ren:Go.Shelf.Ren:=⟨fun | 284=>174 | 129=>179 | 317=>178 | 318=>180 | n=>n,fun | 53=>98 | 3=>3 | 212=>219 | 0=>0 | 4=>4 | 46=>160 | 5=>5 | 9=>9 | n=>n,fun | 17=>3 | n=>n⟩
theorem Tryz.laysM284:Go.Proofs.LaysM.n284 prog Tryz.laysM284_ren:={
 mixed:=by kernel_rfl
 f129:=Zt func179
 f284:=Zt func174
 f317:=Zt func178
 f318:=Zt func180
 t0:=underlying0
 a0:=isAgg0
 z0:=sizeOf0
 v0:=zeroValue0
 t3:=underlying3
 a3:=isAgg3
 z3:=sizeOf3
 v3:=zeroValue3
 t4:=underlying4
 a4:=isAgg4
 z4:=sizeOf4
 v4:=zeroValue4
 t5:=underlying5
 a5:=isAgg5
 z5:=sizeOf5
 v5:=zeroValue5
 t9:=underlying9
 a9:=isAgg9
 z9:=sizeOf9
 v9:=zeroValue9
 t46:=underlying160
 a46:=isAgg160
 z46:=sizeOf160
 v46:=zeroValue160
 t53:=underlying98
 a53:=isAgg98
 z53:=sizeOf98
 v53:=zeroValue98
 t212:=underlying219
 a212:=isAgg219
 z212:=sizeOf219
 v212:=zeroValue219
 g17:=by kernel_rfl
 i0:=by kernel_rfl
 i3:=by kernel_rfl
 i4:=by kernel_rfl
 i5:=by kernel_rfl
 i9:=by kernel_rfl
 i46:=by kernel_rfl
 i53:=by kernel_rfl
 i212:=by kernel_rfl
 m17:=by kernel_rfl }
open Go.Lib in

theorem Tryz.internal_strconv_numDigits (u:Nat) (h1:1≤u) (h2:u<18446744073709551616) (w:World) (htab:Lib.TabIs prog w "internal/strconv.uint64pow10" .u64 Lib.pow10Tab) :
  Calls prog 174 #[.int .u64 u] w fun e w'=>e=.returned (.int .i64 (Lib.nDigits u))∧w'=w:=Any.internal_strconv_numDigits Tryz.laysM284 u h1 h2 w htab
def Tryz.lays285_ren:Go.Shelf.Ren:=⟨fun | 285=>175 | n=>n,fun | 37=>161 | 53=>98 | 3=>3 | 4=>4 | 51=>220 | 9=>9 | 5=>5 | 0=>0 | n=>n,fun | n=>n⟩
theorem Tryz.lays285:Go.Proofs.Lays.n285 prog Tryz.lays285_ren:=⟨by kernel_rfl,Zt func175,underlying0,isAgg0,sizeOf0,zeroValue0,underlying3,isAgg3,sizeOf3,zeroValue3,underlying4,isAgg4,sizeOf4,zeroValue4,underlying5,isAgg5,sizeOf5,zeroValue5,underlying9,isAgg9,sizeOf9,zeroValue9,underlying161,isAgg161,sizeOf161,zeroValue161,underlying220,isAgg220,sizeOf220,zeroValue220,underlying98,isAgg98,sizeOf98,zeroValue98⟩
open Go.RowKit Go.Sort Go.Lib in

theorem Tryz.internal_strconv_formatBase10 (blk off cap:Nat) (u:Nat) (d:Array UInt8) (w:World) (hH:Holds (fun (b:UInt8)=>Value.int .u8 (b.toNat:Int)) w blk off d) (hu:u<10 ^ d.size) (hu64:u<18446744073709551616) (hsz:d.size<4611686018427387904) :
  Calls prog 175 #[.slice (some ⟨blk,off,none⟩) d.size cap,.int .u64 u] w fun e w'=>
   e=.returned (.tuple #[])∧∃ (n v':Nat) (dk:Array UInt8),w'=(putRow (fun (b:UInt8)=>Value.int .u8 (b.toNat:Int)) w blk off dk).drewN n∧FmtInv d.size u 0 v' dk:=Any.internal_strconv_formatBase10 Tryz.lays285 blk off cap u d w hH hu hu64 hsz
def Tryz.laysM246_ren:Go.Shelf.Ren:=⟨fun | 246=>169 | 283=>173 | 284=>174 | 285=>175 | 286=>176 | 129=>179 | 317=>178 | 318=>180 | 319=>181 | 320=>182 | 337=>183 | 338=>184 | n=>n,fun | 2=>2 | 3=>3 | 9=>9 | 4=>4 | 171=>214 | 0=>0 | 53=>98 | 37=>161 | 5=>5 | 173=>217 | 212=>219 | 51=>220 | 20=>20 | 213=>221 | 46=>160 | 232=>224 | 233=>225 | n=>n,fun | 17=>3 | 18=>4 | 19=>5 | n=>n⟩
theorem Tryz.laysM246:Go.Proofs.LaysM.n246 prog Tryz.laysM246_ren:={
 mixed:=by kernel_rfl
 f129:=Zt func179
 f246:=Zt func169
 f283:=Zt func173
 f284:=Zt func174
 f285:=Zt func175
 f286:=Zt func176
 f317:=Zt func178
 f318:=Zt func180
 f319:=Zt func181
 f320:=Zt func182
 f337:=Zt func183
 f338:=Zt func184
 t0:=underlying0
 a0:=isAgg0
 z0:=sizeOf0
 v0:=zeroValue0
 t2:=underlying2
 a2:=isAgg2
 z2:=sizeOf2
 v2:=zeroValue2
 t3:=underlying3
 a3:=isAgg3
 z3:=sizeOf3
 v3:=zeroValue3
 t4:=underlying4
 a4:=isAgg4
 z4:=sizeOf4
 v4:=zeroValue4
 t5:=underlying5
 a5:=isAgg5
 z5:=sizeOf5
 v5:=zeroValue5
 t9:=underlying9
 a9:=isAgg9
 z9:=sizeOf9
 v9:=zeroValue9
 t20:=underlying20
 a20:=isAgg20
 z20:=sizeOf20
 v20:=zeroValue20
 t37:=underlying161
 a37:=isAgg161
 z37:=sizeOf161
 v37:=zeroValue161
 t46:=underlying160
 a46:=isAgg160
 z46:=sizeOf160
 v46:=zeroValue160
 t51:=underlying220
 a51:=isAgg220
 z51:=sizeOf220
 v51:=zeroValue220
 t53:=underlying98
 a53:=isAgg98
 z53:=sizeOf98
 v53:=zeroValue98
 t171:=underlying214
 a171:=isAgg214
 z171:=sizeOf214
 v171:=zeroValue214
 t173:=underlying217
 a173:=isAgg217
 z173:=sizeOf217
 v173:=zeroValue217
 t212:=underlying219
 a212:=isAgg219
 z212:=sizeOf219
 v212:=zeroValue219
 t213:=underlying221
 a213:=isAgg221
 z213:=sizeOf221
 t232:=underlying224
 a232:=isAgg224
 z232:=sizeOf224
 v232:=zeroValue224
 t233:=underlying225
 a233:=isAgg225
 z233:=sizeOf225
 v233:=zeroValue225
 g17:=by kernel_rfl
 g18:=by kernel_rfl
 g19:=by kernel_rfl
 i0:=by kernel_rfl
 i2:=by kernel_rfl
 i3:=by kernel_rfl
 i4:=by kernel_rfl
 i5:=by kernel_rfl
 i9:=by kernel_rfl
 i20:=by kernel_rfl
 i37:=by kernel_rfl
 i46:=by kernel_rfl
 i51:=by kernel_rfl
 i53:=by kernel_rfl
 i171:=by kernel_rfl
 i173:=by kernel_rfl
 i212:=by kernel_rfl
 i232:=by kernel_rfl
 i233:=by kernel_rfl
 m17:=by kernel_rfl
 m18:=by kernel_rfl
 m19:=by kernel_rfl }
open Go.RowKit Go.Sort Go.Lib in

theorem Tryz.internal_strconv_FormatInt_10 (n:Int) (h0:-9223372036854775808≤n) (h1:n≤9223372036854775807) (w:World) (htab:Lib.TabIs prog w "internal/strconv.uint64pow10" .u64 Lib.pow10Tab) :
  Calls prog 169 #[.int .i64 n,.int .i64 10] w fun e w'=>e=.returned (.string ⟨(Lib.itoa n).toArray⟩)∧∃ k os,w'=grow (w.drewN k) os:=Any.internal_strconv_FormatInt_10 Tryz.laysM246 n h0 h1 w htab
def Tryz.lays246_ren:Go.Shelf.Ren:=⟨fun | 246=>169 | 283=>173 | 284=>174 | 285=>175 | 286=>176 | 129=>179 | 317=>178 | 318=>180 | 319=>181 | 320=>182 | 337=>183 | 338=>184 | n=>n,fun | 2=>2 | 3=>3 | 9=>9 | 4=>4 | 171=>214 | 0=>0 | 53=>98 | 37=>161 | 5=>5 | 173=>217 | 212=>219 | 51=>220 | 20=>20 | 213=>221 | 46=>160 | 232=>224 | 233=>225 | n=>n,fun | 17=>3 | 18=>4 | 19=>5 | n=>n⟩
theorem Tryz.lays246:Go.Proofs.Lays.n246 prog Tryz.lays246_ren:=⟨by kernel_rfl,Zt func179,Zt func169,Zt func173,Zt func174,Zt func175,Zt func176,Zt func178,Zt func180,Zt func181,Zt func182,Zt func183,Zt func184,underlying0,isAgg0,sizeOf0,zeroValue0,underlying2,isAgg2,sizeOf2,zeroValue2,underlying3,isAgg3,sizeOf3,zeroValue3,underlying4,isAgg4,sizeOf4,zeroValue4,underlying5,isAgg5,sizeOf5,zeroValue5,underlying9,isAgg9,sizeOf9,zeroValue9,underlying20,isAgg20,sizeOf20,zeroValue20,underlying161,isAgg161,sizeOf161,zeroValue161,underlying160,isAgg160,sizeOf160,zeroValue160,underlying220,isAgg220,sizeOf220,zeroValue220,underlying98,isAgg98,sizeOf98,zeroValue98,underlying214,isAgg214,sizeOf214,zeroValue214,underlying217,isAgg217,sizeOf217,zeroValue217,underlying219,isAgg219,sizeOf219,zeroValue219,underlying221,isAgg221,sizeOf221,underlying224,isAgg224,sizeOf224,zeroValue224,underlying225,isAgg225,sizeOf225,zeroValue225,by kernel_rfl,by kernel_rfl,by kernel_rfl⟩
open Go.RowKit Go.Sort Go.Lib in

theorem Tryz.internal_strconv_FormatInt_10_small (i:Nat) (hi:i<100) (w:World) :
  Calls prog 169 #[.int .i64 i,.int .i64 10] w fun e w'=>e=.returned (.string ⟨(Lib.decDigits i).toArray⟩)∧w'=w:=Any.internal_strconv_FormatInt_10_small Tryz.lays246 i hi w
def Tryz.laysM243_ren:Go.Shelf.Ren:=⟨fun | 243=>158 | 246=>169 | 283=>173 | 284=>174 | 285=>175 | 286=>176 | 129=>179 | 317=>178 | 318=>180 | 319=>181 | 320=>182 | 337=>183 | 338=>184 | n=>n,fun | 3=>3 | 9=>9 | 2=>2 | 4=>4 | 171=>214 | 0=>0 | 53=>98 | 37=>161 | 5=>5 | 173=>217 | 212=>219 | 51=>220 | 20=>20 | 213=>221 | 46=>160 | 232=>224 | 233=>225 | n=>n,fun | 17=>3 | 18=>4 | 19=>5 | n=>n⟩
theorem Tryz.laysM243:Go.Proofs.LaysM.n243 prog Tryz.laysM243_ren:={
 mixed:=by kernel_rfl
 f129:=Zt func179
 f243:=Zt func158
 f246:=Zt func169
 f283:=Zt func173
 f284:=Zt func174
 f285:=Zt func175
 f286:=Zt func176
 f317:=Zt func178
 f318:=Zt func180
 f319:=Zt func181
 f320:=Zt func182
 f337:=Zt func183
 f338:=Zt func184
 t0:=underlying0
 a0:=isAgg0
 z0:=sizeOf0
 v0:=zeroValue0
 t2:=underlying2
 a2:=isAgg2
 z2:=sizeOf2
 v2:=zeroValue2
 t3:=underlying3
 a3:=isAgg3
 z3:=sizeOf3
 v3:=zeroValue3
 t4:=underlying4
 a4:=isAgg4
 z4:=sizeOf4
 v4:=zeroValue4
 t5:=underlying5
 a5:=isAgg5
 z5:=sizeOf5
 v5:=zeroValue5
 t9:=underlying9
 a9:=isAgg9
 z9:=sizeOf9
 v9:=zeroValue9
 t20:=underlying20
 a20:=isAgg20
 z20:=sizeOf20
 v20:=zeroValue20
 t37:=underlying161
 a37:=isAgg161
 z37:=sizeOf161
 v37:=zeroValue161
 t46:=underlying160
 a46:=isAgg160
 z46:=sizeOf160
 v46:=zeroValue160
 t51:=underlying220
 a51:=isAgg220
 z51:=sizeOf220
 v51:=zeroValue220
 t53:=underlying98
 a53:=isAgg98
 z53:=sizeOf98
 v53:=zeroValue98
 t171:=underlying214
 a171:=isAgg214
 z171:=sizeOf214
 v171:=zeroValue214
 t173:=underlying217
 a173:=isAgg217
 z173:=sizeOf217
 v173:=zeroValue217
 t212:=underlying219
 a212:=isAgg219
 z212:=sizeOf219
 v212:=zeroValue219
 t213:=underlying221
 a213:=isAgg221
 z213:=sizeOf221
 t232:=underlying224
 a232:=isAgg224
 z232:=sizeOf224
 v232:=zeroValue224
 t233:=underlying225
 a233:=isAgg225
 z233:=sizeOf225
 v233:=zeroValue225
 g17:=by kernel_rfl
 g18:=by kernel_rfl
 g19:=by kernel_rfl
 i0:=by kernel_rfl
 i2:=by kernel_rfl
 i3:=by kernel_rfl
 i4:=by kernel_rfl
 i5:=by kernel_rfl
 i9:=by kernel_rfl
 i20:=by kernel_rfl
 i37:=by kernel_rfl
 i46:=by kernel_rfl
 i51:=by kernel_rfl
 i53:=by kernel_rfl
 i171:=by kernel_rfl
 i173:=by kernel_rfl
 i212:=by kernel_rfl
 i232:=by kernel_rfl
 i233:=by kernel_rfl
 m17:=by kernel_rfl
 m18:=by kernel_rfl
 m19:=by kernel_rfl }
open Go.RowKit Go.Sort Go.Lib in

theorem Tryz.internal_strconv_Itoa (n:Int) (h0:-9223372036854775808≤n) (h1:n≤9223372036854775807) (w:World) (htab:Lib.TabIs prog w "internal/strconv.uint64pow10" .u64 Lib.pow10Tab) :
  Calls prog 158 #[.int .i64 n] w fun e w'=>e=.returned (.string ⟨(Lib.itoa n).toArray⟩)∧∃ k os,w'=grow (w.drewN k) os:=Any.internal_strconv_Itoa Tryz.laysM243 n h0 h1 w htab
def Tryz.lays243_ren:Go.Shelf.Ren:=⟨fun | 243=>158 | 246=>169 | 283=>173 | 284=>174 | 285=>175 | 286=>176 | 129=>179 | 317=>178 | 318=>180 | 319=>181 | 320=>182 | 337=>183 | 338=>184 | n=>n,fun | 3=>3 | 9=>9 | 2=>2 | 4=>4 | 171=>214 | 0=>0 | 53=>98 | 37=>161 | 5=>5 | 173=>217 | 212=>219 | 51=>220 | 20=>20 | 213=>221 | 46=>160 | 232=>224 | 233=>225 | n=>n,fun | 17=>3 | 18=>4 | 19=>5 | n=>n⟩
theorem Tryz.lays243:Go.Proofs.Lays.n243 prog Tryz.lays243_ren:=⟨by kernel_rfl,Zt func179,Zt func158,Zt func169,Zt func173,Zt func174,Zt func175,Zt func176,Zt func178,Zt func180,Zt func181,Zt func182,Zt func183,Zt func184,underlying0,isAgg0,sizeOf0,zeroValue0,underlying2,isAgg2,sizeOf2,zeroValue2,underlying3,isAgg3,sizeOf3,zeroValue3,underlying4,isAgg4,sizeOf4,zeroValue4,underlying5,isAgg5,sizeOf5,zeroValue5,underlying9,isAgg9,sizeOf9,zeroValue9,underlying20,isAgg20,sizeOf20,zeroValue20,underlying161,isAgg161,sizeOf161,zeroValue161,underlying160,isAgg160,sizeOf160,zeroValue160,underlying220,isAgg220,sizeOf220,zeroValue220,underlying98,isAgg98,sizeOf98,zeroValue98,underlying214,isAgg214,sizeOf214,zeroValue214,underlying217,isAgg217,sizeOf217,zeroValue217,underlying219,isAgg219,sizeOf219,zeroValue219,underlying221,isAgg221,sizeOf221,underlying224,isAgg224,sizeOf224,zeroValue224,underlying225,isAgg225,sizeOf225,zeroValue225,by kernel_rfl,by kernel_rfl,by kernel_rfl⟩
open Go.RowKit Go.Sort Go.Lib in

theorem Tryz.internal_strconv_Itoa_small (i:Nat) (hi:i<100) (w:World) :
  Calls prog 158 #[.int .i64 i] w fun e w'=>e=.returned (.string ⟨(Lib.decDigits i).toArray⟩)∧w'=w:=Any.internal_strconv_Itoa_small Tryz.lays243 i hi w
def Tryz.laysM171_ren:Go.Shelf.Ren:=⟨fun | 171=>144 | 243=>158 | 246=>169 | 283=>173 | 284=>174 | 285=>175 | 286=>176 | 129=>179 | 317=>178 | 318=>180 | 319=>181 | 320=>182 | 337=>183 | 338=>184 | n=>n,fun | 3=>3 | 9=>9 | 2=>2 | 4=>4 | 171=>214 | 0=>0 | 53=>98 | 37=>161 | 5=>5 | 173=>217 | 212=>219 | 51=>220 | 20=>20 | 213=>221 | 46=>160 | 232=>224 | 233=>225 | n=>n,fun | 17=>3 | 18=>4 | 19=>5 | n=>n⟩
theorem Tryz.laysM171:Go.Proofs.LaysM.n171 prog Tryz.laysM171_ren:={
 mixed:=by kernel_rfl
 f129:=Zt func179
 f171:=Zt func144
 f243:=Zt func158
 f246:=Zt func169
 f283:=Zt func173
 f284:=Zt func174
 f285:=Zt func175
 f286:=Zt func176
 f317:=Zt func178
 f318:=Zt func180
 f319:=Zt func181
 f320:=Zt func182
 f337:=Zt func183
 f338:=Zt func184
 t0:=underlying0
 a0:=isAgg0
 z0:=sizeOf0
 v0:=zeroValue0
 t2:=underlying2
 a2:=isAgg2
 z2:=sizeOf2
 v2:=zeroValue2
 t3:=underlying3
 a3:=isAgg3
 z3:=sizeOf3
 v3:=zeroValue3
 t4:=underlying4
 a4:=isAgg4
 z4:=sizeOf4
 v4:=zeroValue4
 t5:=underlying5
 a5:=isAgg5
 z5:=sizeOf5
 v5:=zeroValue5
 t9:=underlying9
 a9:=isAgg9
 z9:=sizeOf9
 v9:=zeroValue9
 t20:=underlying20
 a20:=isAgg20
 z20:=sizeOf20
 v20:=zeroValue20
 t37:=underlying161
 a37:=isAgg161
 z37:=sizeOf161
 v37:=zeroValue161
 t46:=underlying160
 a46:=isAgg160
 z46:=sizeOf160
 v46:=zeroValue160
 t51:=underlying220
 a51:=isAgg220
 z51:=sizeOf220
 v51:=zeroValue220
 t53:=underlying98
 a53:=isAgg98
 z53:=sizeOf98
 v53:=zeroValue98
 t171:=underlying214
 a171:=isAgg214
 z171:=sizeOf214
 v171:=zeroValue214
 t173:=underlying217
 a173:=isAgg217
 z173:=sizeOf217
 v173:=zeroValue217
 t212:=underlying219
 a212:=isAgg219
 z212:=sizeOf219
 v212:=zeroValue219
 t213:=underlying221
 a213:=isAgg221
 z213:=sizeOf221
 t232:=underlying224
 a232:=isAgg224
 z232:=sizeOf224
 v232:=zeroValue224
 t233:=underlying225
 a233:=isAgg225
 z233:=sizeOf225
 v233:=zeroValue225
 g17:=by kernel_rfl
 g18:=by kernel_rfl
 g19:=by kernel_rfl
 i0:=by kernel_rfl
 i2:=by kernel_rfl
 i3:=by kernel_rfl
 i4:=by kernel_rfl
 i5:=by kernel_rfl
 i9:=by kernel_rfl
 i20:=by kernel_rfl
 i37:=by kernel_rfl
 i46:=by kernel_rfl
 i51:=by kernel_rfl
 i53:=by kernel_rfl
 i171:=by kernel_rfl
 i173:=by kernel_rfl
 i212:=by kernel_rfl
 i232:=by kernel_rfl
 i233:=by kernel_rfl
 m17:=by kernel_rfl
 m18:=by kernel_rfl
 m19:=by kernel_rfl }
open Go.RowKit Go.Sort Go.Lib in

theorem Tryz.strconv_Itoa (n:Int) (h0:-9223372036854775808≤n) (h1:n≤9223372036854775807) (w:World) (htab:Lib.TabIs prog w "internal/strconv.uint64pow10" .u64 Lib.pow10Tab) :
  Calls prog 144 #[.int .i64 n] w fun e w'=>e=.returned (.string ⟨(Lib.itoa n).toArray⟩)∧∃ k os,w'=grow (w.drewN k) os:=Any.strconv_Itoa Tryz.laysM171 n h0 h1 w htab
def Tryz.lays171_ren:Go.Shelf.Ren:=⟨fun | 171=>144 | 243=>158 | 246=>169 | 283=>173 | 284=>174 | 285=>175 | 286=>176 | 129=>179 | 317=>178 | 318=>180 | 319=>181 | 320=>182 | 337=>183 | 338=>184 | n=>n,fun | 3=>3 | 9=>9 | 2=>2 | 4=>4 | 171=>214 | 0=>0 | 53=>98 | 37=>161 | 5=>5 | 173=>217 | 212=>219 | 51=>220 | 20=>20 | 213=>221 | 46=>160 | 232=>224 | 233=>225 | n=>n,fun | 17=>3 | 18=>4 | 19=>5 | n=>n⟩
theorem Tryz.lays171:Go.Proofs.Lays.n171 prog Tryz.lays171_ren:=⟨by kernel_rfl,Zt func179,Zt func144,Zt func158,Zt func169,Zt func173,Zt func174,Zt func175,Zt func176,Zt func178,Zt func180,Zt func181,Zt func182,Zt func183,Zt func184,underlying0,isAgg0,sizeOf0,zeroValue0,underlying2,isAgg2,sizeOf2,zeroValue2,underlying3,isAgg3,sizeOf3,zeroValue3,underlying4,isAgg4,sizeOf4,zeroValue4,underlying5,isAgg5,sizeOf5,zeroValue5,underlying9,isAgg9,sizeOf9,zeroValue9,underlying20,isAgg20,sizeOf20,zeroValue20,underlying161,isAgg161,sizeOf161,zeroValue161,underlying160,isAgg160,sizeOf160,zeroValue160,underlying220,isAgg220,sizeOf220,zeroValue220,underlying98,isAgg98,sizeOf98,zeroValue98,underlying214,isAgg214,sizeOf214,zeroValue214,underlying217,isAgg217,sizeOf217,zeroValue217,underlying219,isAgg219,sizeOf219,zeroValue219,underlying221,isAgg221,sizeOf221,underlying224,isAgg224,sizeOf224,zeroValue224,underlying225,isAgg225,sizeOf225,zeroValue225,by kernel_rfl,by kernel_rfl,by kernel_rfl⟩
open Go.RowKit Go.Sort Go.Lib in

theorem Tryz.strconv_Itoa_small (i:Nat) (hi:i<100) (w:World) :
  Calls prog 144 #[.int .i64 i] w fun e w'=>e=.returned (.string ⟨(Lib.decDigits i).toArray⟩)∧w'=w:=Any.strconv_Itoa_small Tryz.lays171 i hi w
open Go.RowKit in

theorem Tryz.internal_strconv_Atoi_err (s:ByteArray) (hl0:1≤s.size) (hl:s.size≤18) (h:Lib.atoi s.data.toList=none) (w:World) :
  Calls prog 142 #[.string s] w fun e w'=>e=.returned (.tuple #[.int .i64 0,(.iface 196 (.int .i64 2))])∧(w'=w∨∃ t,w'=Lib.bytesWorld w 5 t):=Any.internal_strconv_Atoi_err Tryz.lays244 s hl0 hl h w
def Tryz.lays247_ren:Go.Shelf.Ren:=⟨fun | 247=>153 | 287=>166 | 321=>171 | 322=>172 | n=>n,fun | 9=>9 | 3=>3 | 2=>2 | 75=>183 | 4=>4 | 167=>196 | 5=>5 | 53=>98 | 175=>203 | 46=>160 | 37=>161 | 0=>0 | 21=>21 | 80=>128 | n=>n,fun | n=>n⟩
theorem Tryz.lays247:Go.Proofs.Lays.n247 prog Tryz.lays247_ren:=⟨by kernel_rfl,Zt func153,Zt func166,Zt func171,Zt func172,underlying0,isAgg0,sizeOf0,zeroValue0,underlying2,isAgg2,sizeOf2,zeroValue2,underlying3,isAgg3,sizeOf3,zeroValue3,underlying4,isAgg4,sizeOf4,zeroValue4,underlying5,isAgg5,sizeOf5,zeroValue5,underlying9,isAgg9,sizeOf9,zeroValue9,underlying21,isAgg21,sizeOf21,zeroValue21,underlying161,isAgg161,sizeOf161,zeroValue161,underlying160,isAgg160,sizeOf160,zeroValue160,underlying98,isAgg98,sizeOf98,zeroValue98,underlying183,isAgg183,sizeOf183,zeroValue183,underlying196,isAgg196,sizeOf196,zeroValue196,underlying203,isAgg203,sizeOf203,zeroValue203⟩
open Go.RowKit in

theorem Tryz.internal_strconv_ParseInt_empty (base bits:Int) (w:World) :
  Calls prog 153 #[.string ⟨#[]⟩,.int .i64 base,.int .i64 bits] w fun e w'=>e=.returned (.tuple #[.int .i64 0,(.iface 196 (.int .i64 2))])∧w'=w:=Any.internal_strconv_ParseInt_empty Tryz.lays247 base bits w
open Go.RowKit in

theorem Tryz.internal_strconv_Atoi_empty (w:World) :
  Calls prog 142 #[.string ⟨#[]⟩] w fun e w'=>e=.returned (.tuple #[.int .i64 0,(.iface 196 (.int .i64 2))])∧w'=w:=Any.internal_strconv_Atoi_empty Tryz.lays244 w
open Go.RowKit in

theorem Tryz.internal_strconv_Atoi_fail (s:ByteArray) (hl:s.size≤18) (h:Lib.atoi s.data.toList=none) (w:World) :
  Calls prog 142 #[.string s] w fun e w'=>e=.returned (.tuple #[.int .i64 0,(.iface 196 (.int .i64 2))])∧(w'=w∨∃ t,w'=Lib.bytesWorld w 5 t):=Any.internal_strconv_Atoi_fail Tryz.lays244 s hl h w
def Tryz.laysM316_ren:Go.Shelf.Ren:=⟨fun | 316=>167 | n=>n,fun | 9=>9 | 3=>3 | 4=>4 | 37=>161 | 0=>0 | 127=>210 | 5=>5 | n=>n,fun | n=>n⟩
theorem Tryz.laysM316:Go.Proofs.LaysM.n316 prog Tryz.laysM316_ren:={
 mixed:=by kernel_rfl
 f316:=Zt func167
 t0:=underlying0
 a0:=isAgg0
 z0:=sizeOf0
 v0:=zeroValue0
 t3:=underlying3
 a3:=isAgg3
 z3:=sizeOf3
 v3:=zeroValue3
 t4:=underlying4
 a4:=isAgg4
 z4:=sizeOf4
 v4:=zeroValue4
 t9:=underlying9
 a9:=isAgg9
 z9:=sizeOf9
 v9:=zeroValue9
 t37:=underlying161
 a37:=isAgg161
 z37:=sizeOf161
 v37:=zeroValue161
 t127:=underlying210
 a127:=isAgg210
 z127:=sizeOf210
 v127:=zeroValue210
 t5:=underlying5
 a5:=isAgg5
 z5:=sizeOf5
 v5:=zeroValue5
 i0:=by kernel_rfl
 i3:=by kernel_rfl
 i4:=by kernel_rfl
 i5:=by kernel_rfl
 i9:=by kernel_rfl
 i37:=by kernel_rfl
 i127:=by kernel_rfl }
open Go.RowKit in

theorem Tryz.stringslite_Clone (s:ByteArray) (w:World) (hlim:s.size≤281474976710656) :
  Calls prog 167 #[.string s] w fun e w'=>e=.returned (.string s)∧Below w.heap.size w w':=Any.stringslite_Clone Tryz.laysM316 s w hlim
def Tryz.laysM279_ren:Go.Shelf.Ren:=⟨fun | 279=>154 | 316=>167 | n=>n,fun | 9=>9 | 168=>199 | 75=>183 | 210=>206 | 3=>3 | 4=>4 | 37=>161 | 0=>0 | 127=>210 | 80=>128 | 5=>5 | n=>n,fun | 15=>0 | n=>n⟩
theorem Tryz.laysM279:Go.Proofs.LaysM.n279 prog Tryz.laysM279_ren:={
 mixed:=by kernel_rfl
 f279:=Zt func154
 f316:=Zt func167
 t0:=underlying0
 a0:=isAgg0
 z0:=sizeOf0
 v0:=zeroValue0
 t3:=underlying3
 a3:=isAgg3
 z3:=sizeOf3
 v3:=zeroValue3
 t4:=underlying4
 a4:=isAgg4
 z4:=sizeOf4
 v4:=zeroValue4
 t9:=underlying9
 a9:=isAgg9
 z9:=sizeOf9
 v9:=zeroValue9
 t37:=underlying161
 a37:=isAgg161
 z37:=sizeOf161
 v37:=zeroValue161
 t75:=underlying183
 a75:=isAgg183
 z75:=sizeOf183
 v75:=zeroValue183
 t127:=underlying210
 a127:=isAgg210
 z127:=sizeOf210
 v127:=zeroValue210
 t168:=underlying199
 a168:=isAgg199
 z168:=sizeOf199
 v168:=zeroValue199
 t210:=underlying206
 a210:=isAgg206
 z210:=sizeOf206
 v210:=zeroValue206
 g15:=by kernel_rfl
 t5:=underlying5
 a5:=isAgg5
 z5:=sizeOf5
 v5:=zeroValue5
 t80:=underlying128
 a80:=isAgg128
 z80:=sizeOf128
 v80:=zeroValue128
 i0:=by kernel_rfl
 i3:=by kernel_rfl
 i4:=by kernel_rfl
 i5:=by kernel_rfl
 i9:=by kernel_rfl
 i37:=by kernel_rfl
 i75:=by kernel_rfl
 i80:=by kernel_rfl
 i127:=by kernel_rfl
 i168:=by kernel_rfl
 i210:=by kernel_rfl
 m15:=by kernel_rfl }
open Go.RowKit in

theorem Tryz.strconv_syntaxError (fn s:ByteArray) (ev:Value) (w:World) (hlim:s.size≤281474976710656) (hv:w.cell? ⟨0,0,none⟩=some ev) (hev:ev=.nilIface∨∃ te pe,ev=.iface te pe) :
  Calls prog 154 #[.string fn,.string s] w fun e w'=>∃ N,e=.returned (.pointer (some ⟨N,0,none⟩))∧w.heap.size≤N∧w'.heap[N]?=some (.cells #[.string fn,.string s,ev] 206 (0,0))∧Below w.heap.size w w':=Any.strconv_syntaxError Tryz.laysM279 fn s ev w hlim hv hev
def Tryz.laysC245_ren:Go.Shelf.Ren:=⟨fun | 245=>143 | 279=>154 | 280=>155 | 281=>156 | 282=>157 | 316=>167 | 171=>144 | 205=>168 | 243=>158 | 246=>169 | 283=>173 | 284=>174 | 285=>175 | 286=>176 | 129=>179 | 317=>178 | 318=>180 | 319=>181 | 320=>182 | 337=>183 | 338=>184 | n=>n,fun | 9=>9 | 3=>3 | 75=>183 | 167=>196 | 4=>4 | 168=>199 | 210=>206 | 37=>161 | 0=>0 | 127=>210 | 145=>213 | 143=>211 | 2=>2 | 171=>214 | 53=>98 | 5=>5 | 173=>217 | 212=>219 | 51=>220 | 20=>20 | 213=>221 | 46=>160 | 232=>224 | 233=>225 | 80=>128 | n=>n,fun | 15=>0 | 16=>1 | 17=>3 | 18=>4 | 19=>5 | n=>n⟩
theorem Tryz.laysC245:Go.Proofs.LaysC.n245 prog Tryz.laysC245_ren:={
 mixed:=by kernel_rfl
 f129:=Zt func179
 f171:=Zt func144
 f205:=Zt func168
 f243:=Zt func158
 f245:=Zt func143
 f246:=Zt func169
 f279:=Zt func154
 f280:=Zt func155
 f281:=Zt func156
 f282:=Zt func157
 f283:=Zt func173
 f284:=Zt func174
 f285:=Zt func175
 f286:=Zt func176
 f316:=Zt func167
 f317:=Zt func178
 f318:=Zt func180
 f319:=Zt func181
 f320:=Zt func182
 f337:=Zt func183
 f338:=Zt func184
 t0:=underlying0
 a0:=isAgg0
 z0:=sizeOf0
 v0:=zeroValue0
 t2:=underlying2
 a2:=isAgg2
 z2:=sizeOf2
 v2:=zeroValue2
 t3:=underlying3
 a3:=isAgg3
 z3:=sizeOf3
 v3:=zeroValue3
 t4:=underlying4
 a4:=isAgg4
 z4:=sizeOf4
 v4:=zeroValue4
 t5:=underlying5
 a5:=isAgg5
 z5:=sizeOf5
 v5:=zeroValue5
 t9:=underlying9
 a9:=isAgg9
 z9:=sizeOf9
 v9:=zeroValue9
 t20:=underlying20
 a20:=isAgg20
 z20:=sizeOf20
 v20:=zeroValue20
 t37:=underlying161
 a37:=isAgg161
 z37:=sizeOf161
 v37:=zeroValue161
 t46:=underlying160
 a46:=isAgg160
 z46:=sizeOf160
 v46:=zeroValue160
 t51:=underlying220
 a51:=isAgg220
 z51:=sizeOf220
 v51:=zeroValue220
 t53:=underlying98
 a53:=isAgg98
 z53:=sizeOf98
 v53:=zeroValue98
 t75:=underlying183
 a75:=isAgg183
 z75:=sizeOf183
 v75:=zeroValue183
 t127:=underlying210
 a127:=isAgg210
 z127:=sizeOf210
 v127:=zeroValue210
 t143:=underlying211
 a143:=isAgg211
 z143:=sizeOf211
 v143:=zeroValue211
 t145:=underlying213
 a145:=isAgg213
 z145:=sizeOf213
 v145:=zeroValue213
 t167:=underlying196
 a167:=isAgg196
 z167:=sizeOf196
 v167:=zeroValue196
 t168:=underlying199
 a168:=isAgg199
 z168:=sizeOf199
 v168:=zeroValue199
 t171:=underlying214
 a171:=isAgg214
 z171:=sizeOf214
 v171:=zeroValue214
 t173:=underlying217
 a173:=isAgg217
 z173:=sizeOf217
 v173:=zeroValue217
 t210:=underlying206
 a210:=isAgg206
 z210:=sizeOf206
 v210:=zeroValue206
 t212:=underlying219
 a212:=isAgg219
 z212:=sizeOf219
 v212:=zeroValue219
 t213:=underlying221
 a213:=isAgg221
 z213:=sizeOf221
 t232:=underlying224
 a232:=isAgg224
 z232:=sizeOf224
 v232:=zeroValue224
 t233:=underlying225
 a233:=isAgg225
 z233:=sizeOf225
 v233:=zeroValue225
 g15:=by kernel_rfl
 g16:=by kernel_rfl
 g17:=by kernel_rfl
 g18:=by kernel_rfl
 g19:=by kernel_rfl
 t80:=underlying128
 a80:=isAgg128
 z80:=sizeOf128
 v80:=zeroValue128
 i0:=by kernel_rfl
 i2:=by kernel_rfl
 i3:=by kernel_rfl
 i4:=by kernel_rfl
 i5:=by kernel_rfl
 i9:=by kernel_rfl
 i20:=by kernel_rfl
 i37:=by kernel_rfl
 i46:=by kernel_rfl
 i51:=by kernel_rfl
 i53:=by kernel_rfl
 i75:=by kernel_rfl
 i80:=by kernel_rfl
 i127:=by kernel_rfl
 i143:=by kernel_rfl
 i145:=by kernel_rfl
 i167:=by kernel_rfl
 i168:=by kernel_rfl
 i171:=by kernel_rfl
 i173:=by kernel_rfl
 i210:=by kernel_rfl
 i212:=by kernel_rfl
 i232:=by kernel_rfl
 i233:=by kernel_rfl
 m15:=by kernel_rfl
 m16:=by kernel_rfl
 m17:=by kernel_rfl
 m18:=by kernel_rfl
 m19:=by kernel_rfl
 c0:=by kernel_rfl
 c2:=by kernel_rfl
 c3:=by kernel_rfl
 c4:=by kernel_rfl
 c5:=by kernel_rfl
 c9:=by kernel_rfl
 c20:=by kernel_rfl
 c37:=by kernel_rfl
 c46:=by kernel_rfl
 c51:=by kernel_rfl
 c53:=by kernel_rfl
 c75:=by kernel_rfl
 c80:=by kernel_rfl
 c127:=by kernel_rfl
 c143:=by kernel_rfl
 c145:=by kernel_rfl
 c167:=by kernel_rfl
 c168:=by kernel_rfl
 c171:=by kernel_rfl
 c173:=by kernel_rfl
 c210:=by kernel_rfl
 c212:=by kernel_rfl
 c213:=by kernel_rfl
 c232:=by kernel_rfl
 c233:=by kernel_rfl }
open Go.RowKit in

theorem Tryz.strconv_toError_syntax (fn s:ByteArray) (base bits:Int) (ev:Value) (w:World) (hlim:s.size≤281474976710656) (hv:w.cell? ⟨0,0,none⟩=some ev) (hev:ev=.nilIface∨∃ te pe,ev=.iface te pe) :
  Calls prog 143 #[.string fn,.string s,.int .i64 base,.int .i64 bits,.iface 196 (.int .i64 2)] w fun e w'=>∃ N,e=.returned (.iface 199 (.pointer (some ⟨N,0,none⟩)))∧w.heap.size≤N∧w'.heap[N]?=some (.cells #[.string fn,.string s,ev] 206 (0,0))∧Below w.heap.size w w':=Any.strconv_toError_syntax Tryz.laysC245 fn s base bits ev w hlim hv hev
def Tryz.laysC172_ren:Go.Shelf.Ren:=⟨fun | 172=>124 | 244=>142 | 245=>143 | 247=>153 | 279=>154 | 280=>155 | 281=>156 | 282=>157 | 287=>166 | 316=>167 | 171=>144 | 205=>168 | 321=>171 | 322=>172 | 243=>158 | 246=>169 | 283=>173 | 284=>174 | 285=>175 | 286=>176 | 129=>179 | 317=>178 | 318=>180 | 319=>181 | 320=>182 | 337=>183 | 338=>184 | n=>n,fun | 9=>9 | 3=>3 | 75=>183 | 76=>184 | 4=>4 | 5=>5 | 167=>196 | 37=>161 | 0=>0 | 85=>197 | 2=>2 | 168=>199 | 53=>98 | 175=>203 | 46=>160 | 210=>206 | 127=>210 | 145=>213 | 143=>211 | 21=>21 | 171=>214 | 173=>217 | 212=>219 | 51=>220 | 20=>20 | 213=>221 | 232=>224 | 233=>225 | 80=>128 | n=>n,fun | 15=>0 | 16=>1 | 17=>3 | 18=>4 | 19=>5 | n=>n⟩
theorem Tryz.laysC172:Go.Proofs.LaysC.n172 prog Tryz.laysC172_ren:={
 mixed:=by kernel_rfl
 f129:=Zt func179
 f171:=Zt func144
 f172:=Zt func124
 f205:=Zt func168
 f243:=Zt func158
 f244:=Zt func142
 f245:=Zt func143
 f246:=Zt func169
 f247:=Zt func153
 f279:=Zt func154
 f280:=Zt func155
 f281:=Zt func156
 f282:=Zt func157
 f283:=Zt func173
 f284:=Zt func174
 f285:=Zt func175
 f286:=Zt func176
 f287:=Zt func166
 f316:=Zt func167
 f317:=Zt func178
 f318:=Zt func180
 f319:=Zt func181
 f320:=Zt func182
 f321:=Zt func171
 f322:=Zt func172
 f337:=Zt func183
 f338:=Zt func184
 t0:=underlying0
 a0:=isAgg0
 z0:=sizeOf0
 v0:=zeroValue0
 t2:=underlying2
 a2:=isAgg2
 z2:=sizeOf2
 v2:=zeroValue2
 t3:=underlying3
 a3:=isAgg3
 z3:=sizeOf3
 v3:=zeroValue3
 t4:=underlying4
 a4:=isAgg4
 z4:=sizeOf4
 v4:=zeroValue4
 t5:=underlying5
 a5:=isAgg5
 z5:=sizeOf5
 v5:=zeroValue5
 t9:=underlying9
 a9:=isAgg9
 z9:=sizeOf9
 v9:=zeroValue9
 t20:=underlying20
 a20:=isAgg20
 z20:=sizeOf20
 v20:=zeroValue20
 t21:=underlying21
 a21:=isAgg21
 z21:=sizeOf21
 v21:=zeroValue21
 t37:=underlying161
 a37:=isAgg161
 z37:=sizeOf161
 v37:=zeroValue161
 t46:=underlying160
 a46:=isAgg160
 z46:=sizeOf160
 v46:=zeroValue160
 t51:=underlying220
 a51:=isAgg220
 z51:=sizeOf220
 v51:=zeroValue220
 t53:=underlying98
 a53:=isAgg98
 z53:=sizeOf98
 v53:=zeroValue98
 t75:=underlying183
 a75:=isAgg183
 z75:=sizeOf183
 v75:=zeroValue183
 t76:=underlying184
 a76:=isAgg184
 z76:=sizeOf184
 v76:=zeroValue184
 t85:=underlying197
 a85:=isAgg197
 z85:=sizeOf197
 v85:=zeroValue197
 t127:=underlying210
 a127:=isAgg210
 z127:=sizeOf210
 v127:=zeroValue210
 t143:=underlying211
 a143:=isAgg211
 z143:=sizeOf211
 v143:=zeroValue211
 t145:=underlying213
 a145:=isAgg213
 z145:=sizeOf213
 v145:=zeroValue213
 t167:=underlying196
 a167:=isAgg196
 z167:=sizeOf196
 v167:=zeroValue196
 t168:=underlying199
 a168:=isAgg199
 z168:=sizeOf199
 v168:=zeroValue199
 t171:=underlying214
 a171:=isAgg214
 z171:=sizeOf214
 v171:=zeroValue214
 t173:=underlying217
 a173:=isAgg217
 z173:=sizeOf217
 v173:=zeroValue217
 t175:=underlying203
 a175:=isAgg203
 z175:=sizeOf203
 v175:=zeroValue203
 t210:=underlying206
 a210:=isAgg206
 z210:=sizeOf206
 v210:=zeroValue206
 t212:=underlying219
 a212:=isAgg219
 z212:=sizeOf219
 v212:=zeroValue219
 t213:=underlying221
 a213:=isAgg221
 z213:=sizeOf221
 t232:=underlying224
 a232:=isAgg224
 z232:=sizeOf224
 v232:=zeroValue224
 t233:=underlying225
 a233:=isAgg225
 z233:=sizeOf225
 v233:=zeroValue225
 g15:=by kernel_rfl
 g16:=by kernel_rfl
 g17:=by kernel_rfl
 g18:=by kernel_rfl
 g19:=by kernel_rfl
 t80:=underlying128
 a80:=isAgg128
 z80:=sizeOf128
 v80:=zeroValue128
 i0:=by kernel_rfl
 i2:=by kernel_rfl
 i3:=by kernel_rfl
 i4:=by kernel_rfl
 i5:=by kernel_rfl
 i9:=by kernel_rfl
 i20:=by kernel_rfl
 i21:=by kernel_rfl
 i37:=by kernel_rfl
 i46:=by kernel_rfl
 i51:=by kernel_rfl
 i53:=by kernel_rfl
 i75:=by kernel_rfl
 i76:=by kernel_rfl
 i80:=by kernel_rfl
 i85:=by kernel_rfl
 i127:=by kernel_rfl
 i143:=by kernel_rfl
 i145:=by kernel_rfl
 i167:=by kernel_rfl
 i168:=by kernel_rfl
 i171:=by kernel_rfl
 i173:=by kernel_rfl
 i175:=by kernel_rfl
 i210:=by kernel_rfl
 i212:=by kernel_rfl
 i232:=by kernel_rfl
 i233:=by kernel_rfl
 m15:=by kernel_rfl
 m16:=by kernel_rfl
 m17:=by kernel_rfl
 m18:=by kernel_rfl
 m19:=by kernel_rfl
 c0:=by kernel_rfl
 c2:=by kernel_rfl
 c3:=by kernel_rfl
 c4:=by kernel_rfl
 c5:=by kernel_rfl
 c9:=by kernel_rfl
 c20:=by kernel_rfl
 c21:=by kernel_rfl
 c37:=by kernel_rfl
 c46:=by kernel_rfl
 c51:=by kernel_rfl
 c53:=by kernel_rfl
 c75:=by kernel_rfl
 c76:=by kernel_rfl
 c80:=by kernel_rfl
 c85:=by kernel_rfl
 c127:=by kernel_rfl
 c143:=by kernel_rfl
 c145:=by kernel_rfl
 c167:=by kernel_rfl
 c168:=by kernel_rfl
 c171:=by kernel_rfl
 c173:=by kernel_rfl
 c175:=by kernel_rfl
 c210:=by kernel_rfl
 c212:=by kernel_rfl
 c213:=by kernel_rfl
 c232:=by kernel_rfl
 c233:=by kernel_rfl }
open Go.RowKit in

theorem Tryz.strconv_Atoi_err (s:ByteArray) (hl:s.size≤18) (h:Lib.atoi s.data.toList=none) (ev:Value) (w:World) (hv:w.cell? ⟨0,0,none⟩=some ev) (hev:ev=.nilIface∨∃ te pe,ev=.iface te pe) :
  Calls prog 124 #[.string s] w fun e w'=>∃ N,e=.returned (.tuple #[.int .i64 0,.iface 199 (.pointer (some ⟨N,0,none⟩))])∧w.heap.size≤N∧w'.heap[N]?=some (.cells #[.string ⟨#[65,116,111,105]⟩,.string s,ev] 206 (0,0))∧Below w.heap.size w w':=Any.strconv_Atoi_err Tryz.laysC172 s hl h ev w hv hev
open Go.RowKit in
theorem Tryz.strconv_Atoi_err_var (s:ByteArray) (hl:s.size≤18) (h:Lib.atoi s.data.toList=none) (tp:TypeId) (p:Value) (w:World) (hvar:w.var? prog "strconv.ErrSyntax"=some #[.iface tp p]) :
  Calls prog 124 #[.string s] w fun e w'=>∃ N,e=.returned (.tuple #[.int .i64 0,.iface 199 (.pointer (some ⟨N,0,none⟩))])∧w.heap.size≤N∧w'.heap[N]?=some (.cells #[.string ⟨#[65,116,111,105]⟩,.string s,.iface tp p] 206 (0,0))∧Below w.heap.size w w':=Any.strconv_Atoi_err_var Tryz.laysC172 s hl h tp p w hvar
def Tryz.lays321_ren:Go.Shelf.Ren:=⟨fun | 321=>171 | n=>n,fun | 5=>5 | n=>n,fun | n=>n⟩
theorem Tryz.lays321:Go.Proofs.Lays.n321 prog Tryz.lays321_ren:=⟨by kernel_rfl,Zt func171,underlying5,isAgg5,sizeOf5,zeroValue5⟩
open Go.RowKit in

theorem Tryz.internal_strconv_lower (c:Int) (w:World) :
  Calls prog 171 #[.int .u8 c] w fun e w'=>e=.returned (.int .u8 (bits .or .u8 c 32))∧w'=w:=Any.internal_strconv_lower Tryz.lays321 c w
def Tryz.lays287_ren:Go.Shelf.Ren:=⟨fun | 287=>166 | 321=>171 | 322=>172 | n=>n,fun | 9=>9 | 3=>3 | 53=>98 | 75=>183 | 4=>4 | 167=>196 | 5=>5 | 46=>160 | 37=>161 | 0=>0 | 21=>21 | 80=>128 | n=>n,fun | n=>n⟩
theorem Tryz.lays287:Go.Proofs.Lays.n287 prog Tryz.lays287_ren:=⟨by kernel_rfl,Zt func166,Zt func171,Zt func172,underlying0,isAgg0,sizeOf0,zeroValue0,underlying3,isAgg3,sizeOf3,zeroValue3,underlying4,isAgg4,sizeOf4,zeroValue4,underlying5,isAgg5,sizeOf5,zeroValue5,underlying9,isAgg9,sizeOf9,zeroValue9,underlying21,isAgg21,sizeOf21,zeroValue21,underlying161,isAgg161,sizeOf161,zeroValue161,underlying160,isAgg160,sizeOf160,zeroValue160,underlying98,isAgg98,sizeOf98,zeroValue98,underlying183,isAgg183,sizeOf183,zeroValue183,underlying196,isAgg196,sizeOf196,zeroValue196⟩
open Go.RowKit in

theorem Tryz.internal_strconv_ParseUint_10 (t:ByteArray) (hne:t.size≠0) (hmax:t.size≤9223372036854775806) (w:World) :
  Calls prog 166 #[.string t,.int .i64 10,.int .i64 0] w fun e w'=>e=.returned (Lib.uintTuple 196 (Lib.parseUint10 0 t.data.toList))∧w'=Lib.bytesWorld w 5 t:=Any.internal_strconv_ParseUint_10 Tryz.lays287 t hne hmax w
open Go.RowKit in

theorem Tryz.internal_strconv_ParseUint_10_any (t:ByteArray) (hmax:t.size≤9223372036854775806) (w:World) :
  Calls prog 166 #[.string t,.int .i64 10,.int .i64 0] w fun e w'=>e=.returned (Lib.uintTuple 196 (Lib.parseMag t.data.toList))∧(w'=w∨w'=Lib.bytesWorld w 5 t):=Any.internal_strconv_ParseUint_10_any Tryz.lays287 t hmax w
def Tryz.laysC247_ren:Go.Shelf.Ren:=⟨fun | 247=>153 | 287=>166 | 321=>171 | 322=>172 | n=>n,fun | 9=>9 | 3=>3 | 2=>2 | 75=>183 | 4=>4 | 167=>196 | 5=>5 | 53=>98 | 175=>203 | 46=>160 | 37=>161 | 0=>0 | 21=>21 | 80=>128 | n=>n,fun | n=>n⟩
theorem Tryz.laysC247:Go.Proofs.LaysC.n247 prog Tryz.laysC247_ren:={
 mixed:=by kernel_rfl
 f247:=Zt func153
 f287:=Zt func166
 f321:=Zt func171
 f322:=Zt func172
 t0:=underlying0
 a0:=isAgg0
 z0:=sizeOf0
 v0:=zeroValue0
 t2:=underlying2
 a2:=isAgg2
 z2:=sizeOf2
 v2:=zeroValue2
 t3:=underlying3
 a3:=isAgg3
 z3:=sizeOf3
 v3:=zeroValue3
 t4:=underlying4
 a4:=isAgg4
 z4:=sizeOf4
 v4:=zeroValue4
 t5:=underlying5
 a5:=isAgg5
 z5:=sizeOf5
 v5:=zeroValue5
 t9:=underlying9
 a9:=isAgg9
 z9:=sizeOf9
 v9:=zeroValue9
 t21:=underlying21
 a21:=isAgg21
 z21:=sizeOf21
 v21:=zeroValue21
 t37:=underlying161
 a37:=isAgg161
 z37:=sizeOf161
 v37:=zeroValue161
 t46:=underlying160
 a46:=isAgg160
 z46:=sizeOf160
 v46:=zeroValue160
 t53:=underlying98
 a53:=isAgg98
 z53:=sizeOf98
 v53:=zeroValue98
 t75:=underlying183
 a75:=isAgg183
 z75:=sizeOf183
 v75:=zeroValue183
 t167:=underlying196
 a167:=isAgg196
 z167:=sizeOf196
 v167:=zeroValue196
 t175:=underlying203
 a175:=isAgg203
 z175:=sizeOf203
 v175:=zeroValue203
 t80:=underlying128
 a80:=isAgg128
 z80:=sizeOf128
 v80:=zeroValue128
 i0:=by kernel_rfl
 i2:=by kernel_rfl
 i3:=by kernel_rfl
 i4:=by kernel_rfl
 i5:=by kernel_rfl
 i9:=by kernel_rfl
 i21:=by kernel_rfl
 i37:=by kernel_rfl
 i46:=by kernel_rfl
 i53:=by kernel_rfl
 i75:=by kernel_rfl
 i80:=by kernel_rfl
 i167:=by kernel_rfl
 i175:=by kernel_rfl
 c0:=by kernel_rfl
 c2:=by kernel_rfl
 c3:=by kernel_rfl
 c4:=by kernel_rfl
 c5:=by kernel_rfl
 c9:=by kernel_rfl
 c21:=by kernel_rfl
 c37:=by kernel_rfl
 c46:=by kernel_rfl
 c53:=by kernel_rfl
 c75:=by kernel_rfl
 c80:=by kernel_rfl
 c167:=by kernel_rfl
 c175:=by kernel_rfl }
open Go.RowKit in

theorem Tryz.internal_strconv_ParseInt_10 (s:ByteArray) (hne:s.size≠0) (hmax:s.size≤9223372036854775806) (w:World) :
  Calls prog 153 #[.string s,.int .i64 10,.int .i64 0] w fun e w'=>e=.returned (Lib.intTuple 196 (Lib.atoiSat s.data.toList) (Lib.atoiAll s.data.toList))∧(w'=w∨∃ t,w'=Lib.bytesWorld w 5 t):=Any.internal_strconv_ParseInt_10 Tryz.laysC247 s hne hmax w
def Tryz.laysC244_ren:Go.Shelf.Ren:=⟨fun | 244=>142 | 247=>153 | 287=>166 | 321=>171 | 322=>172 | n=>n,fun | 9=>9 | 3=>3 | 75=>183 | 4=>4 | 5=>5 | 167=>196 | 37=>161 | 0=>0 | 85=>197 | 2=>2 | 53=>98 | 175=>203 | 46=>160 | 21=>21 | 80=>128 | n=>n,fun | n=>n⟩
theorem Tryz.laysC244:Go.Proofs.LaysC.n244 prog Tryz.laysC244_ren:={
 mixed:=by kernel_rfl
 f244:=Zt func142
 f247:=Zt func153
 f287:=Zt func166
 f321:=Zt func171
 f322:=Zt func172
 t0:=underlying0
 a0:=isAgg0
 z0:=sizeOf0
 v0:=zeroValue0
 t2:=underlying2
 a2:=isAgg2
 z2:=sizeOf2
 v2:=zeroValue2
 t3:=underlying3
 a3:=isAgg3
 z3:=sizeOf3
 v3:=zeroValue3
 t4:=underlying4
 a4:=isAgg4
 z4:=sizeOf4
 v4:=zeroValue4
 t5:=underlying5
 a5:=isAgg5
 z5:=sizeOf5
 v5:=zeroValue5
 t9:=underlying9
 a9:=isAgg9
 z9:=sizeOf9
 v9:=zeroValue9
 t21:=underlying21
 a21:=isAgg21
 z21:=sizeOf21
 v21:=zeroValue21
 t37:=underlying161
 a37:=isAgg161
 z37:=sizeOf161
 v37:=zeroValue161
 t46:=underlying160
 a46:=isAgg160
 z46:=sizeOf160
 v46:=zeroValue160
 t53:=underlying98
 a53:=isAgg98
 z53:=sizeOf98
 v53:=zeroValue98
 t75:=underlying183
 a75:=isAgg183
 z75:=sizeOf183
 v75:=zeroValue183
 t85:=underlying197
 a85:=isAgg197
 z85:=sizeOf197
 v85:=zeroValue197
 t167:=underlying196
 a167:=isAgg196
 z167:=sizeOf196
 v167:=zeroValue196
 t175:=underlying203
 a175:=isAgg203
 z175:=sizeOf203
 v175:=zeroValue203
 t80:=underlying128
 a80:=isAgg128
 z80:=sizeOf128
 v80:=zeroValue128
 i0:=by kernel_rfl
 i2:=by kernel_rfl
 i3:=by kernel_rfl
 i4:=by kernel_rfl
 i5:=by kernel_rfl
 i9:=by kernel_rfl
 i21:=by kernel_rfl
 i37:=by kernel_rfl
 i46:=by kernel_rfl
 i53:=by kernel_rfl
 i75:=by kernel_rfl
 i80:=by kernel_rfl
 i85:=by kernel_rfl
 i167:=by kernel_rfl
 i175:=by kernel_rfl
 c0:=by kernel_rfl
 c2:=by kernel_rfl
 c3:=by kernel_rfl
 c4:=by kernel_rfl
 c5:=by kernel_rfl
 c9:=by kernel_rfl
 c21:=by kernel_rfl
 c37:=by kernel_rfl
 c46:=by kernel_rfl
 c53:=by kernel_rfl
 c75:=by kernel_rfl
 c80:=by kernel_rfl
 c85:=by kernel_rfl
 c167:=by kernel_rfl
 c175:=by kernel_rfl }
open Go.RowKit in

theorem Tryz.internal_strconv_Atoi_long (s:ByteArray) (h19:19≤s.size) (hmax:s.size≤9223372036854775806) (w:World) :
  Calls prog 142 #[.string s] w fun e w'=>e=.returned (Lib.intTuple 196 (Lib.atoiSat s.data.toList) (Lib.atoiAll s.data.toList))∧(w'=w∨∃ t,w'=Lib.bytesWorld w 5 t):=Any.internal_strconv_Atoi_long Tryz.laysC244 s h19 hmax w
open Go.RowKit in

theorem Tryz.internal_strconv_Atoi_all (s:ByteArray) (hmax:s.size≤9223372036854775806) (w:World) :
  Calls prog 142 #[.string s] w fun e w'=>e=.returned (Lib.intTuple 196 (Lib.atoiSat s.data.toList) (Lib.atoiAll s.data.toList))∧(w'=w∨∃ t,w'=Lib.bytesWorld w 5 t):=Any.internal_strconv_Atoi_all Tryz.laysC244 s hmax w
def Tryz.laysM280_ren:Go.Shelf.Ren:=⟨fun | 280=>155 | 316=>167 | n=>n,fun | 9=>9 | 168=>199 | 75=>183 | 210=>206 | 3=>3 | 4=>4 | 37=>161 | 0=>0 | 127=>210 | 80=>128 | 5=>5 | n=>n,fun | 16=>1 | n=>n⟩
theorem Tryz.laysM280:Go.Proofs.LaysM.n280 prog Tryz.laysM280_ren:={
 mixed:=by kernel_rfl
 f280:=Zt func155
 f316:=Zt func167
 t0:=underlying0
 a0:=isAgg0
 z0:=sizeOf0
 v0:=zeroValue0
 t3:=underlying3
 a3:=isAgg3
 z3:=sizeOf3
 v3:=zeroValue3
 t4:=underlying4
 a4:=isAgg4
 z4:=sizeOf4
 v4:=zeroValue4
 t9:=underlying9
 a9:=isAgg9
 z9:=sizeOf9
 v9:=zeroValue9
 t37:=underlying161
 a37:=isAgg161
 z37:=sizeOf161
 v37:=zeroValue161
 t75:=underlying183
 a75:=isAgg183
 z75:=sizeOf183
 v75:=zeroValue183
 t127:=underlying210
 a127:=isAgg210
 z127:=sizeOf210
 v127:=zeroValue210
 t168:=underlying199
 a168:=isAgg199
 z168:=sizeOf199
 v168:=zeroValue199
 t210:=underlying206
 a210:=isAgg206
 z210:=sizeOf206
 v210:=zeroValue206
 g16:=by kernel_rfl
 t5:=underlying5
 a5:=isAgg5
 z5:=sizeOf5
 v5:=zeroValue5
 t80:=underlying128
 a80:=isAgg128
 z80:=sizeOf128
 v80:=zeroValue128
 i0:=by kernel_rfl
 i3:=by kernel_rfl
 i4:=by kernel_rfl
 i5:=by kernel_rfl
 i9:=by kernel_rfl
 i37:=by kernel_rfl
 i75:=by kernel_rfl
 i80:=by kernel_rfl
 i127:=by kernel_rfl
 i168:=by kernel_rfl
 i210:=by kernel_rfl
 m16:=by kernel_rfl }
open Go.RowKit in

theorem Tryz.strconv_rangeError (fn s:ByteArray) (ev:Value) (w:World) (hlim:s.size≤281474976710656) (hv:w.cell? ⟨1,0,none⟩=some ev) (hev:ev=.nilIface∨∃ te pe,ev=.iface te pe) :
  Calls prog 155 #[.string fn,.string s] w fun e w'=>∃ N,e=.returned (.pointer (some ⟨N,0,none⟩))∧w.heap.size≤N∧w'.heap[N]?=some (.cells #[.string fn,.string s,ev] 206 (0,0))∧Below w.heap.size w w':=Any.strconv_rangeError Tryz.laysM280 fn s ev w hlim hv hev
open Go.RowKit in

theorem Tryz.strconv_toError_range (fn s:ByteArray) (base bits:Int) (ev:Value) (w:World) (hlim:s.size≤281474976710656) (hv:w.cell? ⟨1,0,none⟩=some ev) (hev:ev=.nilIface∨∃ te pe,ev=.iface te pe) :
  Calls prog 143 #[.string fn,.string s,.int .i64 base,.int .i64 bits,.iface 196 (.int .i64 1)] w fun e w'=>∃ N,e=.returned (.iface 199 (.pointer (some ⟨N,0,none⟩)))∧w.heap.size≤N∧w'.heap[N]?=some (.cells #[.string fn,.string s,ev] 206 (0,0))∧Below w.heap.size w w':=Any.strconv_toError_range Tryz.laysC245 fn s base bits ev w hlim hv hev
open Go.RowKit in

theorem Tryz.strconv_Atoi_ok (s:ByteArray) (hmax:s.size≤9223372036854775806) (v:Int) (h:Lib.atoiAll s.data.toList=.ok v) (w:World) :
  Calls prog 124 #[.string s] w fun e w'=>e=.returned (.tuple #[.int .i64 v,.nilIface])∧(w'=w∨∃ t,w'=Lib.bytesWorld w 5 t):=Any.strconv_Atoi_ok Tryz.laysC172 s hmax v h w
open Go.RowKit in

theorem Tryz.strconv_Atoi_syntax (s:ByteArray) (hlim:s.size≤281474976710656) (h:Lib.atoiAll s.data.toList=Lib.atoiAll []) (ev:Value) (w:World) (hv:w.cell? ⟨0,0,none⟩=some ev) (hev:ev=.nilIface∨∃ te pe,ev=.iface te pe) :
  Calls prog 124 #[.string s] w fun e w'=>∃ N,e=.returned (.tuple #[.int .i64 (0),.iface 199 (.pointer (some ⟨N,0,none⟩))])∧w.heap.size≤N∧w'.heap[N]?=some (.cells #[.string ⟨#[65,116,111,105]⟩,.string s,ev] 206 (0,0))∧Below w.heap.size w w':=Any.strconv_Atoi_syntax Tryz.laysC172 s hlim h ev w hv hev
open Go.RowKit in

theorem Tryz.strconv_Atoi_range (s:ByteArray) (hlim:s.size≤281474976710656) (h:Lib.atoiAll s.data.toList=.range) (ev:Value) (w:World) (hv:w.cell? ⟨1,0,none⟩=some ev) (hev:ev=.nilIface∨∃ te pe,ev=.iface te pe) :
  Calls prog 124 #[.string s] w fun e w'=>∃ N,e=.returned (.tuple #[.int .i64 (Lib.atoiSat s.data.toList),.iface 199 (.pointer (some ⟨N,0,none⟩))])∧w.heap.size≤N∧w'.heap[N]?=some (.cells #[.string ⟨#[65,116,111,105]⟩,.string s,ev] 206 (0,0))∧Below w.heap.size w w':=Any.strconv_Atoi_range Tryz.laysC172 s hlim h ev w hv hev
open Go.RowKit in
theorem Tryz.strconv_Atoi_syntax_var (s:ByteArray) (hlim:s.size≤281474976710656) (h:Lib.atoiAll s.data.toList=Lib.atoiAll []) (tp:TypeId) (p:Value) (w:World) (hvar:w.var? prog "strconv.ErrSyntax"=some #[.iface tp p]) :
  Calls prog 124 #[.string s] w fun e w'=>∃ N,e=.returned (.tuple #[.int .i64 0,.iface 199 (.pointer (some ⟨N,0,none⟩))])∧w.heap.size≤N∧w'.heap[N]?=some (.cells #[.string ⟨#[65,116,111,105]⟩,.string s,.iface tp p] 206 (0,0))∧Below w.heap.size w w':=Any.strconv_Atoi_syntax_var Tryz.laysC172 s hlim h tp p w hvar
open Go.RowKit in
theorem Tryz.strconv_Atoi_range_var (s:ByteArray) (hlim:s.size≤281474976710656) (h:Lib.atoiAll s.data.toList=.range) (tp:TypeId) (p:Value) (w:World) (hvar:w.var? prog "strconv.ErrRange"=some #[.iface tp p]) :
  Calls prog 124 #[.string s] w fun e w'=>∃ N,e=.returned (.tuple #[.int .i64 (Lib.atoiSat s.data.toList),.iface 199 (.pointer (some ⟨N,0,none⟩))])∧w.heap.size≤N∧w'.heap[N]?=some (.cells #[.string ⟨#[65,116,111,105]⟩,.string s,.iface tp p] 206 (0,0))∧Below w.heap.size w w':=Any.strconv_Atoi_range_var Tryz.laysC172 s hlim h tp p w hvar
open Go.RowKit in

theorem Tryz.internal_strconv_ParseUint_empty (base bits:Int) (w:World) :
  Calls prog 166 #[.string ⟨#[]⟩,.int .i64 base,.int .i64 bits] w fun e w'=>e=.returned (.tuple #[.int .u64 0,.iface 196 (.int .i64 2)])∧w'=w:=Any.internal_strconv_ParseUint_empty Tryz.lays287 base bits w
def Tryz.lays217_ren:Go.Shelf.Ren:=⟨fun | 217=>146 | 266=>159 | n=>n,fun | 9=>9 | 5=>5 | 3=>3 | n=>n,fun | n=>n⟩
theorem Tryz.lays217:Go.Proofs.Lays.n217 prog Tryz.lays217_ren:=⟨by kernel_rfl,Zt func146,Zt func159,underlying3,isAgg3,sizeOf3,zeroValue3,underlying5,isAgg5,sizeOf5,zeroValue5,underlying9,isAgg9,sizeOf9,zeroValue9⟩
open Go.RowKit Go.Lib in

theorem Tryz.stringslite_IndexByte (s:ByteArray) (c:Int) (w:World) :
  Calls prog 146 #[.string s,.int .u8 c] w fun e w'=>e=.returned (.int .i64 (Lib.indexByte s.data.toList c.toNat.toUInt8))∧w'=w:=Any.stringslite_IndexByte Tryz.lays217 s c w
def Tryz.lays206_ren:Go.Shelf.Ren:=⟨fun | 206=>145 | n=>n,fun | 9=>9 | 4=>4 | 3=>3 | n=>n,fun | n=>n⟩
theorem Tryz.lays206:Go.Proofs.Lays.n206 prog Tryz.lays206_ren:=⟨by kernel_rfl,Zt func145,underlying3,isAgg3,sizeOf3,zeroValue3,underlying4,isAgg4,sizeOf4,zeroValue4,underlying9,isAgg9,sizeOf9,zeroValue9⟩
open Go.RowKit Go.Lib in

theorem Tryz.stringslite_HasPrefix (s p:ByteArray) (w:World) :
  Calls prog 145 #[.string s,.string p] w fun e w'=>e=.returned (.bool (Lib.hasPrefix s.data.toList p.data.toList))∧w'=w:=Any.stringslite_HasPrefix Tryz.lays206 s p w
def Tryz.lays99_ren:Go.Shelf.Ren:=⟨fun | 99=>126 | 206=>145 | n=>n,fun | 9=>9 | 4=>4 | 3=>3 | n=>n,fun | n=>n⟩
theorem Tryz.lays99:Go.Proofs.Lays.n99 prog Tryz.lays99_ren:=⟨by kernel_rfl,Zt func126,Zt func145,underlying3,isAgg3,sizeOf3,zeroValue3,underlying4,isAgg4,sizeOf4,zeroValue4,underlying9,isAgg9,sizeOf9,zeroValue9⟩
open Go.RowKit Go.Lib in

theorem Tryz.strings_HasPrefix (s p:ByteArray) (w:World) :
  Calls prog 126 #[.string s,.string p] w fun e w'=>e=.returned (.bool (Lib.hasPrefix s.data.toList p.data.toList))∧w'=w:=Any.strings_HasPrefix Tryz.lays99 s p w
def Tryz.lays264_ren:Go.Shelf.Ren:=⟨fun | 264=>56 | n=>n,fun | 53=>98 | 46=>160 | n=>n,fun | n=>n⟩
theorem Tryz.lays264:Go.Proofs.Lays.n264 prog Tryz.lays264_ren:=⟨by kernel_rfl,Zt func56,underlying160,isAgg160,sizeOf160,zeroValue160,underlying98,isAgg98,sizeOf98,zeroValue98⟩
open Go.RowKit Go.Lib in
theorem Tryz.bits_Mul64 (x y:Nat) (hx:x<18446744073709551616) (hy:y<18446744073709551616) (w:World) :
  Calls prog 56 #[.int .u64 x,.int .u64 y] w fun e w'=>e=.returned (.tuple #[.int .u64 ((x*y / 18446744073709551616:Nat):Int),.int .u64 ((x*y % 18446744073709551616:Nat):Int)])∧w'=w:=Any.bits_Mul64 Tryz.lays264 x y hx hy w
def Tryz.lays109_ren:Go.Shelf.Ren:=⟨fun | 109=>107 | n=>n,fun | 31=>23 | 9=>9 | 3=>3 | 0=>0 | 4=>4 | n=>n,fun | n=>n⟩
theorem Tryz.lays109:Go.Proofs.Lays.n109 prog Tryz.lays109_ren:=⟨by kernel_rfl,Zt func107,underlying0,isAgg0,sizeOf0,zeroValue0,underlying3,isAgg3,sizeOf3,zeroValue3,underlying4,isAgg4,sizeOf4,zeroValue4,underlying9,isAgg9,sizeOf9,zeroValue9,underlying23,isAgg23,sizeOf23,zeroValue23⟩
open Go.Lib in

theorem Tryz.slices_Index_string (b off n c:Nat) (zs:List ByteArray) (x:ByteArray) (w:World) (hz:n≤zs.length) (hbig:n≤9223372036854775807) (hc:∀ j,j<zs.length→w.cell? ⟨b,off+j,none⟩=some (.string (zs.getD j ByteArray.empty))) :
  Calls prog 107 #[.slice (some ⟨b,off,none⟩) n c,.string x] w fun e w'=>e=.returned (.int .i64 (Lib.idxOfS (zs.take n) x))∧w'=w:=Any.slices_Index_string Tryz.lays109 b off n c zs x w hz hbig hc
open Go.Lib in

theorem Tryz.slices_Index_string_empty (a:Option Addr) (c:Nat) (x:ByteArray) (w:World) :
  Calls prog 107 #[.slice a 0 c,.string x] w fun e w'=>e=.returned (.int .i64 (Lib.idxOfS [] x))∧w'=w:=Any.slices_Index_string_empty Tryz.lays109 a c x w
def Tryz.lays110_ren:Go.Shelf.Ren:=⟨fun | 110=>74 | 109=>107 | n=>n,fun | 31=>23 | 9=>9 | 4=>4 | 3=>3 | 0=>0 | n=>n,fun | n=>n⟩
theorem Tryz.lays110:Go.Proofs.Lays.n110 prog Tryz.lays110_ren:=⟨by kernel_rfl,Zt func107,Zt func74,underlying0,isAgg0,sizeOf0,zeroValue0,underlying3,isAgg3,sizeOf3,zeroValue3,underlying4,isAgg4,sizeOf4,zeroValue4,underlying9,isAgg9,sizeOf9,zeroValue9,underlying23,isAgg23,sizeOf23,zeroValue23⟩
open Go.Lib in

theorem Tryz.slices_Contains_string (b off n c:Nat) (zs:List ByteArray) (x:ByteArray) (w:World) (hz:n≤zs.length) (hbig:n≤9223372036854775807) (hc:∀ j,j<zs.length→w.cell? ⟨b,off+j,none⟩=some (.string (zs.getD j ByteArray.empty))) :
  Calls prog 74 #[.slice (some ⟨b,off,none⟩) n c,.string x] w fun e w'=>e=.returned (.bool (Lib.containsS (zs.take n) x))∧w'=w:=Any.slices_Contains_string Tryz.lays110 b off n c zs x w hz hbig hc
open Go.Lib in

theorem Tryz.slices_Contains_string_empty (a:Option Addr) (c:Nat) (x:ByteArray) (w:World) :
  Calls prog 74 #[.slice a 0 c,.string x] w fun e w'=>e=.returned (.bool false)∧w'=w:=Any.slices_Contains_string_empty Tryz.lays110 a c x w
end Go.Proofs

