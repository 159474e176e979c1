import Derived.Lib.ItoaMem
import Derived.Lib.AtoiAllCases
import Derived.WalkKit
import Derived.ProofKit
import Derived.OpenShut
import Derived.Outline
import Derived.OwnWalk
import Derived.Below
import Derived.Deep.QuietTactic
import Derived.BigQuiet
import Derived.Shelf.Unicode.PredsPay
import Derived.Shelf.SlSorted.Search
import Derived.WalkSmall
import Derived.Laws.Strings
import Derived.Lib.LaidTab
import Derived.Stop.LaidErr
import Derived.LaidLaws
import Derived.ChangeSame
import Derived.Carry
import Derived.Laws.OwnMore
import Derived.Deep.Draws
import Derived.Laws.Rows
import Derived.Laws.NewBlocks
import Derived.Laws.Tables
import Derived.Laws.CopyOwn
import Derived.Lib.SmallJoins
import Derived.Test.YtdlkcjkjnehnkaaGreatDoorChecked
import Derived.Test.YtdlkcjkjnehnkaaGreatDoorRows
import Derived.Test.YtdlkcjkjnehnkaaGreatDoorH00
open List(cons_append length_cons)
namespace Go.Proofs.YtdlkcjkjnehnkaaGreatDoor
open Go Go.Lib
open _root_.Go.Proofs.Tryz
set_option linter.all false
set_option maxRecDepth 100000
set_option maxHeartbeats 32000000
def Qdl(c:UInt8):Prop:=48<=c.toNat/\c.toNat<=57
theorem Jdd{d:Nat}(h:d<10):(UInt8.ofNat (48+d)).toNat=48+d:=by
 rw[UInt8.toNat_ofNat'];omega
theorem Yt(l:List UInt8)(c:UInt8):∀ acc a,parseUint10 acc l=.ok a->Qdl c->a*10+(c.toNat-48)<18446744073709551616->parseUint10 acc (l++[c])=.ok (a*10+(c.toNat-48)):=by
 induction l with
 |nil=>
  intro acc a h hc hb;simp only[parseUint10]at h;injection h with h;subst h;unfold Qdl at hc;simp only[List.nil_append,parseUint10];rw[if_pos hc,if_neg (by omega),if_neg (by omega)]
 |cons x l ih=>
  intro acc a h hc hb;simp only[cons_append,parseUint10]at h |-;split at h
  ·rename_i hx;rw[if_pos hx];split at h
   ·cases h
   ·rename_i h1;rw[if_neg h1];split at h
    ·cases h
    ·rename_i h2;rw[if_neg h2];exact ih _ _ h hc hb
  ·cases h
theorem JeP(u:Nat):u<18446744073709551616->parseUint10 0 (decDigits u)=.ok u:=by
 induction u using Nat.strongRecOn with
 |ind u ih=>
  intro hu;rw[decDigits]
  by_cases h:u<10
  ·rw[dif_pos h];simp only[parseUint10];rw[Jdd h,if_pos (by omega),if_neg (by omega),if_neg (by omega)]
   congr 1
   omega
  ·rw[dif_neg h];have h1:=ih (u / 10) (by omega) (by omega);have hd:=Jdd (d:=u % 10) (by omega);rw[Yt _ _ _ _ h1 (by unfold Qdl;omega) (by omega),hd]
   congr 1
   omega
theorem V5(u:Nat):decDigits u≠[]:=by
 rw[decDigits];split<;>simp
theorem JbT(u:Nat):∀ c∈decDigits u,Qdl c:=by
 induction u using Nat.strongRecOn with
 |ind u ih=>
  intro c hc;rw[decDigits]at hc;split at hc
  ·rename_i h;rw[List.mem_singleton]at hc;subst hc;have:=Jdd h;unfold Qdl;omega
  ·rename_i h;rw[List.mem_append]at hc
   rcases hc with hc|hc
   ·exact ih _ (by omega) c hc
   ·rw[List.mem_singleton]at hc;subst hc;have:=Jdd (d:=u % 10) (by omega);unfold Qdl;omega
theorem JaO(u:Nat)(hu:u<18446744073709551616):parseMag (decDigits u)=.ok u:=by
 unfold parseMag;rw[if_neg (V5 u),JeP u hu]
theorem YL{n:Int}(h1:-9223372036854775808<=n)(h2:n<=9223372036854775807):atoiAll (itoa n)=.ok n:=by
 unfold itoa
 by_cases h:n<0
 ·rw[if_pos h,atoiAll_minus,JaO _ (by omega)];simp only[signed];rw[if_neg (by omega)]
  congr 1
  omega
 ·rw[if_neg h];have hm:=JaO n.toNat (by omega);have hall:=JbT n.toNat
  cases hd:decDigits n.toNat with
  |nil=>exact absurd hd (V5 _)
  |cons c r=>
   rw[hd]at hm hall;have hc:=hall c (by simp);unfold Qdl at hc;rw[atoiAll_plain c r (by omega) (by omega),hm];simp only[signless];rw[if_neg (by omega)]
   congr 1
   omega
theorem V6(n:Int):(0<=n/\itoa n=decDigits n.toNat)\/(n<0/\itoa n=45::decDigits n.natAbs):=by
 unfold itoa
 by_cases h:n<0
 ·right;exact⟨h,by rw[if_pos h]⟩
 ·left;exact⟨by omega,by rw[if_neg h]⟩
theorem ZJ(u:Nat):∀ k,u<10 ^ k->1<=k->(decDigits u).length<=k:=by
 induction u using Nat.strongRecOn with
 |ind u ih=>
  intro k hk h1;rw[decDigits];split
  ·simpa using h1
  ·rename_i h;obtain⟨j,rfl⟩:∃ j,k=j+1:=⟨k-1,by omega⟩
   rw[Nat.pow_succ]at hk
   have hj:1<=j:=by
    rcases Nat.eq_zero_or_pos j with h0|h0
    ·subst h0;simp at hk;omega
    ·exact h0
   have:=ih (u / 10) (by omega) j (by omega) hj;simp;omega
def QcA(a:Int):Prop:=-9223372036854775808<=a/\a<=9223372036854775807
def QaE(l:List UInt8)(lo hi:Int):Option Int:=
 match Lib.atoiAll l with
 |.ok n=>if Lib.itoa n=l/\lo<=n/\n<=hi then some n else none
 |_=>none
theorem Jhp{l:List UInt8}{lo hi m:Int}(h1:itoa m=l)(h2:QcA m)(h3:lo<=m)(h4:m<=hi):QaE l lo hi=some m:=by
 unfold QaE;rw[<- h1,YL h2.1 h2.2];simp only;rw[if_pos ⟨trivial,h3,h4⟩]
theorem Jde{l:List UInt8}{lo hi m:Int}(h:QaE l lo hi=some m):itoa m=l/\QcA m/\lo<=m/\m<=hi:=by
 unfold QaE at h;split at h
 ·rename_i n hn;have hb:=atoiAll_bounds hn;split at h
  ·rename_i hc;injection h with h;subst h;exact⟨hc.1,hb,hc.2⟩
  ·cases h
 ·cases h
open Go.ChangeShapes Go.WideShapes Go.ChangeAt Go.RowKit Go.Lib
def Qhq(w:World)(n:Int)(e:Ending)(w':World):Prop:=e=.returned (.int .i64 n)/\Below w.heap.size w w'
theorem Kw{B:Nat}{a w:World}(h:Below B a w)(n:Nat):Below B a (w.drewN n):=⟨h.os,h.tape,h.output,h.size,h.block⟩
def Qjn(w:World)(n:Int)(ok:Bool)(e:Ending)(w':World):Prop:=e=.returned (.tuple #[.int .i64 n,.bool ok])/\Below w.heap.size w w'
def Qcm(v:Value)(w:World)(e:Ending)(w':World):Prop:=e=.returned v/\w=w'
def bs(l:List UInt8):ByteArray:=⟨l.toArray⟩
theorem JF(l:List UInt8):(bs l).size=l.length:=by simp[bs,ByteArray.size]
theorem JbU(s:ByteArray):∃ l,s=bs l:=⟨s.data.toList,by simp[bs]⟩
theorem Jl(l:List UInt8):(bs l).toList=l:=by rw[ByteArray.toList_eq];simp[bs]
theorem Vy(l:List UInt8):(bs l).data.toList=l:=by simp[bs]
structure Laid(w:World):Prop where
 tab:Lib.TabIs prog w "internal/strconv.uint64pow10" .u64 Lib.pow10Tab
 syn:∃ tp p,w.var? prog "strconv.ErrSyntax"=some #[.iface tp p]
 ran:∃ tp p,w.var? prog "strconv.ErrRange"=some #[.iface tp p]
 size:5<=w.heap.size
theorem QlT:prog.globalNamed "strconv.ErrSyntax"=some 2:=by kernel_rfl
theorem QlU:prog.globalNamed "strconv.ErrRange"=some 3:=by kernel_rfl
theorem QlS:prog.globalNamed "internal/strconv.uint64pow10"=some 1:=by kernel_rfl
theorem Laid.below{w w':World}(h:Laid w)(hb:Below w.heap.size w w'):Laid w':=by
 have hs:=h.size;refine⟨?_,?_,?_,Nat.le_trans h.size hb.size⟩
 ·exact TabIs_below QlS h.tab hb
 ·obtain⟨tp,p,hv⟩:=h.syn;exact⟨tp,p,var?_below hb QlT (by omega) hv⟩
 ·obtain⟨tp,p,hv⟩:=h.ran;exact⟨tp,p,var?_below hb QlU (by omega) hv⟩
def Qdq(w:World)(l:List UInt8)(e:Ending)(w':World):Prop:=e=.returned (.string (bs l))/\Below w.heap.size w w'
theorem Vm(n:Int)(w:World)(hn:QcA n)(hL:Laid w):Calls prog 29 #[.int .i64 n] w (Qdq w (Lib.itoa n)):=by
 have c:Calls prog 58 #[.int .i64 n] w (Qdq w (Lib.itoa n)):=(Tryz.strconv_Itoa n hn.1 hn.2 w hL.tab).mono (by
  rintro e w' ⟨rfl,k,os,rfl⟩
  exact⟨rfl,below_grown_sl _ w k os zzl⟩)
 go_enter func29,ntmps29;go_wp2_with (go_at_call 58;refine c.mono ?_;rintro e w1 ⟨rfl,hb⟩);go_ret;exact⟨rfl,hb⟩
theorem QkX{P:Prop}(h:P:=by
  go_enter func62,ntmps62;go_wp2_with (first|(go_at_call 91;refine c.mono ?_;rintro e w1 ⟨rfl,hb1⟩)|(go_at_call 29;refine(Vm n _ hwf (hL.below hb1)).mono ?_;rintro e w2 ⟨rfl,hb2⟩));go_ret2
  exact⟨by rw[hP.out];rfl,hb1.trans (hb2.mono hb1.size)⟩):P:=h
theorem Qmo{P:Prop}(h:P:=by
  have hP:Hid (QaE l lo hi=none):=by unfold Hid QaE;rw[ha]
  go_enter func62,ntmps62;go_wp2_with (go_at_call 91;refine c.mono ?_;rintro e w1 ⟨N,rfl,hb1⟩);go_ret2
  exact⟨by rw[hP.out];rfl,hb1⟩):P:=h
theorem JeQ(l:List UInt8)(lo hi:Int)(w:World)(hl:l.length<=281474976710656)(hL:Laid w) :
  Calls prog 62 #[.string (bs l),.int .i64 lo,.int .i64 hi] w (Qjn w ((QaE l lo hi).getD 0) (QaE l lo hi).isSome):=by
 have hsz:(bs l).size<=281474976710656:=by rw[JF];exact hl
 cases ha:Lib.atoiAll l with
 |ok n=>
  have c:Calls prog 91 #[.string (bs l)] w (fun e w'=>e=.returned (.tuple #[.int .i64 n,.nilIface])/\Below w.heap.size w w'):=(Tryz.strconv_Atoi_ok (bs l) (by omega) n (by rw[Vy];exact ha) w).mono (by
   rintro e w' ⟨rfl,h⟩;refine⟨rfl,?_⟩
   rcases h with rfl|⟨t,rfl⟩
   ·exact Below.refl _ _
   ·exact⟨rfl,rfl,rfl,by rw[bytesWorld_size];omega,fun k hk=>bytesWorld_at_old w 5 t k hk⟩)
  have hwf:QcA n:=by have:=Lib.atoiAll_bounds ha;exact this
  have ht:=Jl l;have ht2:=Jl (Lib.itoa n)
  by_cases heq:Lib.itoa n=l
  ·have hq:(Lib.itoa n==l)=true:=by simpa using heq
   by_cases h1:n<lo
   ·have hP:Hid (QaE l lo hi=none):=by unfold Hid QaE;rw[ha];simp only;rw[if_neg (by omega)]
    have d1:decide (n<lo)=true:=decide_eq_true h1;clear heq h1;exact QkX
   ·have d1:decide (n<lo)=false:=decide_eq_false h1
    by_cases h2:hi<n
    ·have hP:Hid (QaE l lo hi=none):=by unfold Hid QaE;rw[ha];simp only;rw[if_neg (by omega)]
     have d2:decide (hi<n)=true:=decide_eq_true h2;clear heq h1 h2;exact QkX
    ·have hP:Hid (QaE l lo hi=some n):=by unfold Hid QaE;rw[ha];simp only;rw[if_pos ⟨heq,by omega,by omega⟩]
     have d2:decide (hi<n)=false:=decide_eq_false h2;clear heq h1 h2;exact QkX
  ·have hq:(Lib.itoa n==l)=false:=by simpa using heq
   have hP:Hid (QaE l lo hi=none):=by unfold Hid QaE;rw[ha];simp only;rw[if_neg (by rintro⟨h,_⟩;exact heq h)]
   clear heq;exact QkX
 |range=>
  obtain⟨tp,p,hv⟩:=hL.ran
  have c:Calls prog 91 #[.string (bs l)] w (fun e w'=>∃ N:Nat,e=.returned (.tuple #[.int .i64 (Lib.atoiSat l),.iface 179 (.pointer (some ⟨N,0,none⟩))])/\Below w.heap.size w w'):=(Tryz.strconv_Atoi_range_var (bs l) hsz (by rw[Vy];exact ha) tp p w hv).mono (by
   rintro e w' ⟨N,rfl,_,_,hb⟩
   exact⟨N,by rw[Vy],hb⟩)
  exact Qmo
 |_=>
  obtain⟨tp,p,hv⟩:=hL.syn
  have c:Calls prog 91 #[.string (bs l)] w (fun e w'=>∃ N:Nat,e=.returned (.tuple #[.int .i64 0,.iface 179 (.pointer (some ⟨N,0,none⟩))])/\Below w.heap.size w w'):=(Tryz.strconv_Atoi_syntax_var (bs l) hsz (by rw[Vy];exact ha) tp p w hv).mono (by
   rintro e w' ⟨N,rfl,_,_,hb⟩
   exact⟨N,rfl,hb⟩)
  exact Qmo
open Go.ChangeShapes Go.WideShapes Go.ChangeAt Go.RowKit
theorem own:ownKnob prog.godebug=none:=by kernel_rfl
theorem QiP:laidOutB prog=true:=by kernel_rfl
def Qbv:List (String × DataW Unit):=[("math/bits.deBruijn32tab",Rows.laid_math_bits_deBruijn32tab),("math/bits.deBruijn64tab",Rows.laid_math_bits_deBruijn64tab),("internal/strconv.uint64pow10",Rows.laid_internal_strconv_uint64pow10),("strconv.ErrRange",Rows.laid_strconv_ErrRange),("strconv.ErrSyntax",Rows.laid_strconv_ErrSyntax)]
theorem QmW:prog.globalNamed "math/bits.deBruijn64tab"=some 5:=by kernel_rfl
theorem Jea{P:Program}{W:World}{n:String}{d:DataW Unit}{r:List (String × DataW Unit)}{g:Nat}(hg:P.globalNamed n=some g)(h:laidMet P ((n,d)::r) W):g<W.heap.size:=by
 obtain⟨ps,⟨g',t',cs,fuel,p,q,hg',ht',hvar,hd,_,_⟩,_⟩:=h;obtain rfl:=Option.some.inj (hg.symm.trans hg');unfold World.var? at hvar;rw[hg]at hvar;simp only[Option.bind_some]at hvar;refine Nat.lt_of_not_le fun hn=>?_
 rw[Array.getElem?_eq_none hn]at hvar
 cases hvar
theorem Jjs{W:World}(h:laidMet prog Qbv W):Laid W:=by
 have h2:=h.tail;have h3:=h.tail.tail;have h4:=h3.tail;have h5:=h4.tail;have hsz:=Jea QmW h2;obtain⟨a1,s1,hv1,_⟩:=laid_sentinel h4 (g:=3) (ti:=106) (tp:=196) (te:=198) QlU (by kernel_rfl) underlying106 (typeName_ptr_named (nm:="errors.errorString") (by kernel_rfl) (by kernel_rfl) (by decide)) underlying196 underlying198 rfl rfl underlying9 (by kernel_rfl) (by kernel_rfl);obtain⟨a2,s2,hv2,_⟩:=laid_sentinel h5 (g:=2) (ti:=106) (tp:=196) (te:=198) QlT (by kernel_rfl) underlying106 (typeName_ptr_named (nm:="errors.errorString") (by kernel_rfl) (by kernel_rfl) (by decide)) underlying196 underlying198 rfl rfl underlying9 (by kernel_rfl) (by kernel_rfl);refine⟨?_,⟨_,_,hv2⟩,⟨_,_,hv1⟩,by omega⟩;exact Lib.tabIs_of_head (e:=171) (t:=184) (n:=20) (g:=1) QlS (by kernel_rfl) underlying184 underlying171 (by kernel_rfl) (by kernel_rfl) h3
abbrev QmL:ByteArray:={ data:=#[105,110,118,97,108,105,100,32,115,121,110,116,97,120] }
abbrev QmM:ByteArray:={ data:=#[118,97,108,117,101,32,111,117,116,32,111,102,32,114,97,110,103,101] }
def Qlh:List Int:=[0,1,28,2,29,14,24,3,30,22,20,15,25,17,4,8,31,27,13,23,21,19,16,7,26,12,18,6,11,5,10,9]
def Qlg:List Int:=[0,1,56,2,57,49,28,3,61,58,42,50,38,29,17,4,62,47,59,36,45,43,51,22,53,39,33,30,24,18,12,5,63,55,48,27,60,41,37,16,46,35,44,21,52,32,23,11,54,26,40,15,34,20,31,10,25,14,19,9,13,8,7,6]
noncomputable def low:Nat:=(World.holding prog default ⟨#[],#[],[]⟩).heap.size
noncomputable def put(c:Array Value):Obj->Obj
 |.cells _ t frozen=>.cells c t frozen
 |o=>o
noncomputable def QeM(os:Os):World:=
 let w0:=World.holding prog os ⟨#[.cells #[.string QmL] 198,.cells #[.string QmM] 198],#[],[]⟩
 { w0 with heap:=((((w0.heap.modify 2 (put #[.iface 196 (.pointer (some ⟨low,0,none⟩))])).modify 3 (put #[.iface 196 (.pointer (some ⟨low+1,0,none⟩))])).modify 1 (put (Lib.pow10Tab.map fun z=>Value.int .u64 z).toArray)).modify 4 (put (Qlh.map fun z=>Value.int .u8 z).toArray)).modify 5 (put (Qlg.map fun z=>Value.int .u8 z).toArray) }
theorem Jag(os:Os)(args:Array Value):laidMet prog Qbv ((QeM os).forCall (fun _ _=>0) ⟨#[],args,[]⟩).memory:=
 laidMet_of_run' 8 (by kernel_rfl) (by kernel_rfl)
section
variable {H:Type} {enc:TypeId × Value->H} {P:Program}
theorem Jah(hl:laidOutB P=true){W W':World}{sp:Nat->Bool}(hb:Below W.heap.size W W') :
  ∀ (ts:List TypeId) (vs:List Value) (ds:List (DataW H)) (ps:List MemPlace),(∀ t,t∈ts->P.readableRec t=true/\t<P.types.size)->
   DataW.TrodAll enc P W 0 (fun _=>true) true ts vs ds ps->(∀ x,x∈ps->x.block<W.heap.size)->(∀ x,x∈ps->sp x.block=true)->
   DataW.TrodAll enc P W' 0 sp true ts vs ds ps:=by
 intro ts
 induction ts with
 |nil=>
  intro vs ds ps _ h _ _;obtain⟨rfl,rfl,rfl⟩:=trodAll_nil h;exact trodAll_mk0
 |cons t ts ih=>
  intro vs ds ps hts h hlt hsp;obtain⟨v,vs',d,ds',p,q,rfl,rfl,rfl,h1,h2⟩:=trodAll_cons h;obtain⟨hr,hrow⟩:=hts t (by simp);refine trodAll_cons_mk (WideElems.Trod_stays hl hr hrow h1 (fun x hx=>hb.same (hlt x (by simp[hx]))) (fun x hx=>hsp x (by simp[hx]))) ?_;exact ih _ _ _ (fun t ht=>hts t (by simp[ht])) h2 (fun x hx=>hlt x (by simp[hx])) (fun x hx=>hsp x (by simp[hx]))
theorem Jai{f:Func}{s:ChangeSpec}{apart fresh handsOn again:Bool}{W W':World}{args:Array Value}{v:Value}{ds gs:List (DataW H)}{before pa pv:List MemPlace}
  (hW:DataW.Whole enc P f.params.toList s.vars apart W args.toList ds gs before)
  (hres:∀ (b:Nat) (sp:Nat->Bool) (hd:Bool),DataW.TrodAll enc P W' b sp hd f.resultTypes.toList (v.resultList f.resultTypes.size) (s.fn H (ds++gs)).results [])
  (hargs:∀ sp:Nat->Bool,(∀ p∈before,sp p.block=true)->DataW.TrodAll enc P W' 0 sp true f.params.toList args.toList (s.fn H (ds++gs)).args pa)
  (hvars:∀ sp:Nat->Bool,(∀ p∈before,sp p.block=true)->DataW.TrodVars enc P W' sp s.vars (s.fn H (ds++gs)).vars pv)
  (hps:before=pa++pv) (hb:Below W.heap.size W W')
  (hok:∀ (j:Nat) (t:TypeId) (r:Value),f.resultTypes[j]?=some t->(v.resultList f.resultTypes.size)[j]?=some r->Value.okWide P W' .any 0 t r) :
  s.post enc P f apart fresh handsOn again W args v W':=by
 have hlt:∀ p∈before,p.block<W.heap.size:=fun p hp=>hW.lt p hp
 have hold:∀ p∈before,(fun b=>decide (b<W.heap.size)) p.block=true:=fun p hp=>by simpa using hlt p hp
 refine⟨ds,gs,before,[],pa,pv,hW,hres _ _ _,hargs _ hold,hvars _ hold,World.keptBut_mono (fun p hp=>⟨hp,?_⟩) (hb.frame (·∈before)),fun _=>?_⟩
 ·rw[hps,List.mem_append]at hp;exact Or.inr hp
 ·obtain⟨_,_,_,_,_,hz,hn⟩:=hW;refine⟨hok,_,_,([]++pa)++pv,⟨[]++pa,pv,trodAll_append (hargs _ (fun _ _=>rfl)) (hres _ _ _),hvars _ (fun _ _=>rfl),rfl,?_,?_⟩,?_⟩
  ·intro b off hp;have hin:MemPlace.cell b off∈before:=by rw[hps];simpa using hp
   rw[hb.frozen (hlt _ hin)];exact hz b off hin
  ·intro ha;have:=hn ha;rw[hps]at this;simpa using this
  ·intro p hp _;rw[hps];simpa using hp
theorem Jhq{f:Func}{s:ChangeSpec}{apart fresh handsOn again:Bool}{W W':World}{args:Array Value}{ds gs:List (DataW H)}{before:List MemPlace}{tb:TypeId}
  (hl:laidOutB P=true) (hts:f.params.toList.all (fun t=>P.readableRec t&&decide (t<P.types.size))=true) (hr:f.resultTypes=#[tb]) (hb:P.underlying tb=some .bool)
  (hvars:s.vars=[]) (hW:DataW.Whole enc P f.params.toList s.vars apart W args.toList ds gs before)
  (hfn:s.fn H (ds++gs)={ results:=[.lit (.bool true)],args:=ds }) (hB:Below W.heap.size W W'):s.post enc P f apart fresh handsOn again W args (.bool true) W':=by
 have hlt:∀ p∈before,p.block<W.heap.size:=fun p hp=>hW.lt p hp
 have hW2:=hW;obtain⟨p,q,hA,hV,rfl,hz,hn⟩:=hW2;rw[hvars]at hV;obtain⟨rfl,rfl⟩:=trodVars_none hV;refine Jai (pa:=p) (pv:=[]) hW ?_ ?_ ?_ rfl hB ?_
 ·intro b sp hd;rw[hfn,hr];exact trodAll_mk1 (shut_bool hb _)
 ·intro sp hsp;rw[hfn]
  have h2:∀ t,t∈f.params.toList->P.readableRec t=true/\t<P.types.size:=by
   intro t ht;have:=List.all_eq_true.1 hts t ht;simpa using this
  exact Jah hl hB _ _ _ _ h2 hA (fun x hx=>hlt x (by simp[hx])) (fun x hx=>hsp x (by simp[hx]))
 ·intro sp _;rw[hfn,hvars];exact rfl
 ·intro j t r h1 h2;rw[hr]at h1 h2
  cases j with
  |zero=>
   simp[Value.resultList]at h1 h2;subst h1;subst h2;exact okWide_bool_mk hb _
  |succ j=>simp at h1
end
open Go.RowKit
structure Chg(S:List Nat)(w w':World):Prop where
 os:w'.os=w.os
 tape:w'.tape=w.tape
 output:w'.output=w.output
 size:w.heap.size<=w'.heap.size
 block:∀ k,k<w.heap.size->k∉S->w'.heap[k]?=w.heap[k]?
section
variable {S S':List Nat} {a w w' w1:World}
theorem Chg.refl(S:List Nat)(w:World):Chg S w w:=⟨rfl,rfl,rfl,Nat.le_refl _,fun _ _ _=>rfl⟩
theorem Chg.trans(h:Chg S w w1)(k:Chg S w1 w'):Chg S w w':=
 ⟨k.os.trans h.os,k.tape.trans h.tape,k.output.trans h.output,Nat.le_trans h.size k.size,fun i hi hn=>(k.block i (Nat.lt_of_lt_of_le hi h.size) hn).trans (h.block i hi hn)⟩
theorem Chg.mono(h:Chg S w w')(hs:∀ k,k∈S->k∈S'\/w.heap.size<=k):Chg S' w w':=
 ⟨h.os,h.tape,h.output,h.size,fun k hk hn=>h.block k hk (fun hm=>by rcases hs k hm with h1|h1;exact hn h1;omega)⟩
theorem Chg.step(h:Chg S w w1)(k:Chg S' w1 w')(hs:∀ b,b∈S'->b∈S\/w.heap.size<=b):Chg S w w':=
 ⟨k.os.trans h.os,k.tape.trans h.tape,k.output.trans h.output,Nat.le_trans h.size k.size,fun i hi hn=>
  (k.block i (Nat.lt_of_lt_of_le hi h.size) (fun hm=>by rcases hs i hm with h1|h1;exact hn h1;omega)).trans (h.block i hi hn)⟩
theorem Chg.drew(h:Chg S a w):Chg S a w.drew:=⟨h.os,h.tape,h.output,h.size,h.block⟩
theorem Chg.alloc(h:Chg S a w)(o:Obj):Chg S a (w.alloc o):=
 h.trans ⟨rfl,rfl,rfl,by simp,fun k hk _=>Below.heap_alloc _ _ _ hk⟩
theorem Chg.setCell(h:Chg S a w){p:Addr}(hp:p.block∈S\/a.heap.size<=p.block)(u:Value):Chg S a (w.setCell p u):=
 h.step (S':=[p.block]) ⟨rfl,rfl,rfl,by simp[World.setCell],fun k _ hn=>Below.heap_setCell _ _ _ _ (by simpa using hn)⟩ (by simpa using hp)
theorem Chg.of_below(h:Below w.heap.size w w')(S:List Nat):Chg S w w':=⟨h.os,h.tape,h.output,h.size,fun k hk _=>h.block k hk⟩
theorem Chg.of_grownBy{g:Nat}(h:w.grownBy w' (some g)):Chg [g] w w':=⟨h.os,h.tape,h.output,h.size,fun k hk hn=>h.block k hk (by simpa using hn)⟩
theorem ZK{p:Addr}{v:Value}(h:w.cell? p=some v):p.block<w.heap.size:=World.block_lt_of_cell? w p h
theorem Jb{k:Nat}{o:Obj}(h:w.heap[k]?=some o):k<w.heap.size:=(Array.getElem?_eq_some_iff.1 h).1
theorem Chg.heap_some{k:Nat}{o:Obj}(h:Chg S w w')(hn:k∉S)(hc:w.heap[k]?=some o):w'.heap[k]?=some o:=
 (h.block k (Jb hc) hn).trans hc
theorem Chg.cell_some{p:Addr}{v:Value}(h:Chg S w w')(hn:p.block∉S)(hc:w.cell? p=some v):w'.cell? p=some v:=
 (World.cell?_of_block (w:=w) (h.block p.block (ZK hc) hn)).trans hc
end
theorem Ja{w:World}{g:Nat}{cs:Array Value}{t:TypeId}{fr:Nat × Nat}(hg:w.heap[g]?=some (.cells cs t fr))(j:Nat):w.cell? ⟨g,j,none⟩=cs[j]?:=
 cell_of_row w g j cs t fr hg
theorem Jc{w:World}{g:Nat}{cs:Array Value}{t:TypeId}(hg:w.heap[g]?=some (.cells cs t (0,0)))(j:Nat):w.frozen? ⟨g,j,none⟩=false:=by
 simp[World.frozen?,hg]
theorem J3{w:World}{g:Nat}{cs:Array Value}{t:TypeId}{fr:Nat × Nat}(hg:w.heap[g]?=some (.cells cs t fr))(j:Nat)(u:Value) :
  (w.setCell ⟨g,j,none⟩ u).heap[g]?=some (.cells (cs.setIfInBounds j u) t fr):=by
 simp[World.setCell,Array.getElem?_modify,hg]
theorem Jk{w:World}{g:Nat}{p:Addr}{o:Obj}(hg:w.heap[g]?=some o)(hn:g≠p.block)(u:Value):(w.setCell p u).heap[g]?=some o:=
 (Below.heap_setCell w p u g hn).trans hg
def Qcp(c:UInt8):Bool:=c==9||c==10||c==13||c==32
def Qci(c:UInt8):Bool:=decide (97<=c.toNat)&&decide (c.toNat<=122)
def Qdy(c:UInt8):Bool:=decide (48<=c.toNat)&&decide (c.toNat<=57)
def QbB(c:UInt8):Bool:=Qci c||Qdy c||c==95
def Qao(l:List UInt8):List UInt8:=l.takeWhile QbB
def Qax:Nat->List UInt8->Option (List UInt8)
 |0,_=>none
 |_+1,[]=>none
 |f+1,c::r=>if c=34 then some [] else if c.toNat<32\/126<c.toNat\/c=92 then none else (Qax f r).map (c::·)
def Qco:List (List UInt8):=[[61,61],[33,61],[60,61],[62,61]]
def QaF:List UInt8:=[40,41,44,58,61,60,62,43,45,42,47,37]
def Qat(l:List UInt8):List UInt8:=if l.take 2∈Qco then l.take 2 else if l.head?=none then [] else if l.headD 0∈QaF then [l.headD 0] else []
structure Tok where
 kind:Int
 text:List UInt8
 n:Int
 off:Int
deriving DecidableEq
def QaU(l:List UInt8):Option (Tok × Nat):=
 match l with
 |[]=>none
 |c::r=>
  if Qci c=true then (if (Qao l).length<=24 then some (⟨0,Qao l,0,0⟩,(Qao l).length) else none)
  else if Qdy c=true then (QaE (Qao l) 0 1125899906842624).map fun n=>(⟨1,[],n,0⟩,(Qao l).length)
  else if c=34 then (Qax 25 r).map fun w=>(⟨2,w,0,0⟩,w.length+2)
  else if Qat l=[] then none else some (⟨3,Qat l,0,0⟩,(Qat l).length)
def wr(t:Tok):List UInt8:=if t.kind=1 then itoa t.n else if t.kind=2 then 34::(t.text++[34]) else t.text
theorem JbV{c:UInt8}(h:Qcp c=true):c=9\/c=10\/c=13\/c=32:=by
 simpa[Qcp,or_assoc] using h
theorem JeR{c:UInt8}(h:Qcp c=true):QbB c=false:=by
 rcases JbV h with rfl|rfl|rfl|rfl<;>decide
theorem YM(l:List UInt8):(Qao l).length<=l.length:=by
 unfold Qao;exact(List.takeWhile_prefix _).length_le
theorem JeS(l:List UInt8):l.take (Qao l).length=Qao l:=by
 have h:Qao l <+: l:=List.takeWhile_prefix _;exact(List.prefix_iff_eq_take.1 h).symm
theorem Vz{w r:List UInt8}(hw:∀ c∈w,QbB c=true)(hr:r.head?.map QbB≠some true):Qao (w++r)=w:=by
 unfold Qao
 induction w with
 |nil=>
  cases r with
  |nil=>rfl
  |cons c r=>simp at hr;simp[hr]
 |cons c w ih=>
  rw[cons_append,List.takeWhile_cons_of_pos (hw c (by simp)),ih (fun c h=>hw c (by simp[h]))]
theorem V7:∀ (f:Nat) (l w:List UInt8),Qax f l=some w->w.length+1<=f/\w.length+1<=l.length/\l.take (w.length+1)=w++[34]:=by
 intro f
 induction f with
 |zero=>intro l w h;cases h
 |succ f ih=>
  intro l w h
  cases l with
  |nil=>cases h
  |cons c r=>
   simp only[Qax]at h;split at h
   ·rename_i hc;injection h with h;subst h;subst hc;simp
   ·split at h
    ·cases h
    ·cases hr:Qax f r with
     |none=>rw[hr]at h;cases h
     |some v=>
      rw[hr]at h;injection h with h;subst h;have:=ih r v hr;simp[this]
theorem Jeb:∀ (f:Nat) (l w:List UInt8) (r:List UInt8),Qax f l=some w->Qax f (w++34::r)=some w:=by
 intro f
 induction f with
 |zero=>intro l w r h;cases h
 |succ f ih=>
  intro l w r h
  cases l with
  |nil=>cases h
  |cons c t=>
   simp only[Qax]at h;split at h
   ·injection h with h;subst h;simp[Qax]
   ·rename_i hc;split at h
    ·cases h
    ·rename_i hd
     cases hr:Qax f t with
     |none=>rw[hr]at h;cases h
     |some v=>
      rw[hr]at h;injection h with h;subst h;simp only[cons_append,Qax];rw[if_neg hc,if_neg hd,ih t v r hr];rfl
theorem Jec(l:List UInt8):(Qat l∈Qco/\Qat l=l.take 2)\/(l.take 2∉Qco/\∃ c r,l=c::r/\c∈QaF/\Qat l=[c])\/(Qat l=[]):=by
 unfold Qat
 by_cases h:l.take 2∈Qco
 ·rw[if_pos h];exact .inl ⟨h,rfl⟩
 ·rw[if_neg h]
  cases l with
  |nil=>exact .inr (.inr rfl)
  |cons c r=>
   by_cases hc:c∈QaF
   ·refine .inr (.inl ⟨h,c,r,rfl,hc,?_⟩);simp[hc]
   ·refine .inr (.inr ?_);simp[hc]
theorem JeT{w:List UInt8}(h:w∈Qco):w.length=2:=by
 simp[Qco]at h
 rcases h with rfl|rfl|rfl|rfl<;>rfl
theorem Jaj(l:List UInt8):(Qat l).length<=l.length/\(Qat l).length<=2/\l.take (Qat l).length=Qat l:=by
 rcases Jec l with⟨h,e⟩|⟨_,c,r,rfl,hc,e⟩|e
 ·have:=JeT h;rw[this];refine⟨?_,by omega,e.symm⟩;rw[e]at this;simp at this;omega
 ·rw[e];simp
 ·rw[e];simp
theorem QlV{P:Prop}(h:P:=by
  refine⟨by rw[hw,JeS],?_,YM _,by rw[hw]⟩;have hwo:QbB c=true:=by simp[QbB,hc]
  unfold Qao;rw[List.takeWhile_cons_of_pos hwo]
  simp):P:=h
theorem JaP{l:List UInt8}{t:Tok}{n:Nat}(h:QaU l=some (t,n)):wr t=l.take n/\1<=n/\n<=l.length/\(wr t).length=n:=by
 cases l with
 |nil=>cases h
 |cons c r=>
  simp only[QaU]at h;split at h
  ·rename_i hc;split at h
   ·rename_i h24;injection h with h;injection h with h1 h2;subst h1;subst h2;have hw:wr ⟨0,Qao (c::r),0,0⟩=Qao (c::r):=rfl;exact QlV
   ·cases h
  ·split at h
   ·rename_i hc
    cases hp:QaE (Qao (c::r)) 0 1125899906842624 with
    |none=>rw[hp]at h;cases h
    |some m=>
     rw[hp]at h;injection h with h;injection h with h1 h2;subst h1;subst h2;have hw:wr ⟨1,[],m,0⟩=Qao (c::r):=(Jde hp).1;exact QlV
   ·split at h
    ·rename_i hc
     cases hp:Qax 25 r with
     |none=>rw[hp]at h;cases h
     |some w=>
      rw[hp]at h;injection h with h;injection h with h1 h2;subst h1;subst h2;obtain⟨_,h3,h4⟩:=V7 _ _ _ hp;have hw:wr ⟨2,w,0,0⟩=34::(w++[34]):=rfl;refine⟨?_,by omega,by simp;omega,by rw[hw];simp⟩;rw[hw,hc,List.take_succ_cons,h4]
    ·split at h
     ·cases h
     ·rename_i hs;injection h with h;injection h with h1 h2;subst h1;subst h2;have hw:wr ⟨3,Qat (c::r),0,0⟩=Qat (c::r):=rfl;obtain⟨h1,_,h3⟩:=Jaj (c::r);refine⟨by rw[hw,h3],?_,h1,by rw[hw]⟩
      cases hz:Qat (c::r) with
      |nil=>exact absurd hz hs
      |cons a b=>simp
theorem QjC(c:UInt8)(r:List UInt8):(c::r).take 2=c::r.head?.toList:=by cases r<;>rfl
theorem JaQ{l:List UInt8}{t:Tok}{n:Nat}(h:QaU l=some (t,n)):0<=t.kind/\t.kind<=3/\t.text.length<=24/\0<=t.n/\t.n<=1125899906842624/\t.off=0:=by
 cases l with
 |nil=>cases h
 |cons c r=>
  simp only[QaU]at h;split at h
  ·split at h
   ·rename_i h24;injection h with h;injection h with h1 h2;subst h1;exact⟨by simp,by simp,h24,by simp,by simp,rfl⟩
   ·cases h
  ·split at h
   ·cases hp:QaE (Qao (c::r)) 0 1125899906842624 with
    |none=>rw[hp]at h;cases h
    |some m=>
     rw[hp]at h;injection h with h;injection h with h1 h2;subst h1;have:=Jde hp;exact⟨by simp,by simp,by simp,this.2.2.1,this.2.2.2,rfl⟩
   ·split at h
    ·cases hp:Qax 25 r with
     |none=>rw[hp]at h;cases h
     |some w=>
      rw[hp]at h;injection h with h;injection h with h1 h2;subst h1;have:=V7 _ _ _ hp;exact⟨by simp,by simp,by show w.length<=24;omega,by simp,by simp,rfl⟩
    ·split at h
     ·cases h
     ·injection h with h;injection h with h1 h2;subst h1;have:=(Jaj (c::r)).2.1;exact⟨by simp,by simp,by show (Qat (c::r)).length<=24;omega,by simp,by simp,rfl⟩
inductive QfP where
 |ok (l:List Tok)
 |err (k:Nat)
def QfP.push(t:Tok):QfP->QfP
 |.ok l=>.ok (t::l)
 |.err k=>.err k
def Qet:Nat->Nat->List UInt8->QfP
 |0,k,_=>.ok [⟨4,[],0,k⟩]
 |_+1,k,[]=>.ok [⟨4,[],0,k⟩]
 |f+1,k,c::r=>
  if Qcp c=true then Qet f (k+1) r
  else match QaU (c::r) with
   |none=>.err k
   |some (t,n)=>(Qet f (k+n) ((c::r).drop n)).push { t with off:=k }
theorem Jed:∀ (f g k:Nat) (l:List UInt8),l.length<=f->l.length<=g->Qet f k l=Qet g k l:=by
 intro f
 induction f with
 |zero=>
  intro g k l h1 h2;obtain rfl:l=[]:=List.eq_nil_of_length_eq_zero (by omega)
  cases g<;>rfl
 |succ f ih=>
  intro g k l h1 h2
  cases l with
  |nil=>cases g<;>rfl
  |cons c r=>
   cases g with
   |zero=>simp at h2
   |succ g=>
    simp only[length_cons]at h1 h2;simp only[Qet];split
    ·exact ih g _ r (by omega) (by omega)
    ·cases hp:QaU (c::r) with
     |none=>rfl
     |some x=>
      obtain⟨t,n⟩:=x;have:=(JaP hp).2.1;simp only;rw[ih g _ _ (by simp;omega) (by simp;omega)]
def sc(k:Nat)(l:List UInt8):QfP:=Qet l.length k l
theorem Jdf(k:Nat):sc k []=.ok [⟨4,[],0,k⟩]:=rfl
theorem Jhr(k:Nat){c:UInt8}(r:List UInt8)(h:Qcp c=true):sc k (c::r)=sc (k+1) r:=by
 unfold sc;simp only[length_cons,Qet];rw[if_pos h]
theorem JbW(k:Nat){c:UInt8}(r:List UInt8)(h:Qcp c=false)(ht:QaU (c::r)=none):sc k (c::r)=.err k:=by
 unfold sc;simp only[length_cons,Qet];rw[if_neg (by simp[h]),ht]
theorem Jak(k:Nat){c:UInt8}(r:List UInt8){t:Tok}{n:Nat}(h:Qcp c=false)(ht:QaU (c::r)=some (t,n)):sc k (c::r)=(sc (k+n) ((c::r).drop n)).push { t with off:=k }:=by
 have:=(JaP ht).2.1;unfold sc;simp only[length_cons,Qet];rw[if_neg (by simp[h]),ht];simp only;rw[Jed _ ((c::r).drop n).length _ _ (by simp;omega) zzl]
theorem Jdg{P:Nat->List UInt8->Prop}(h0:∀ k,P k [])(h1:∀ k c r,Qcp c=true->P (k+1) r->P k (c::r))(h2:∀ k c r,Qcp c=false->QaU (c::r)=none->P k (c::r))
  (h3:∀ k c r t n,Qcp c=false->QaU (c::r)=some (t,n)->1<=n->n<=(c::r).length->P (k+n) ((c::r).drop n)->P k (c::r)):∀ l k,P k l:=by
 have h:∀ m (l:List UInt8) k,l.length<=m->P k l:=by
  intro m
  induction m with
  |zero=>
   intro l k hl;obtain rfl:l=[]:=List.eq_nil_of_length_eq_zero (by omega);exact h0 k
  |succ m ih=>
   intro l k hl
   cases l with
   |nil=>exact h0 k
   |cons c r=>
    simp only[length_cons]at hl
    cases hs:Qcp c with
    |true=>exact h1 k c r hs (ih r _ (by omega))
    |false=>
     cases ht:QaU (c::r) with
     |none=>exact h2 k c r hs ht
     |some x=>
      obtain⟨t,n⟩:=x;have hw:=JaP ht;exact h3 k c r t n hs ht hw.2.1 hw.2.2.1 (ih _ _ (by simp;omega))
 intro l k;exact h _ l k zzl
def tab(f:Nat->Nat):Array Value:=((List.range 256).map fun i=>Value.int .u8 (f i:Nat)).toArray
theorem Km(f:Nat->Nat):(tab f).size=256:=by simp[tab]
theorem V8(f:Nat->Nat){i:Nat}(h:i<256):(tab f)[i]?=some (.int .u8 (f i:Nat)):=by
 simp[tab,h]
theorem YN(f:Nat->Nat)(j v:Nat):(tab f).setIfInBounds j (.int .u8 (v:Nat))=tab (fun i=>if i=j then v else f i):=by
 apply Array.ext_getElem?;intro i;rw[Array.getElem?_setIfInBounds,Km]
 by_cases hij:j=i
 ·subst hij;rw[if_pos rfl]
  by_cases h:j<256
  ·rw[if_pos h,V8 _ h,if_pos rfl]
  ·rw[if_neg h,Array.getElem?_eq_none (by rw[Km];omega)]
 ·rw[if_neg hij]
  by_cases h:i<256
  ·rw[V8 _ h,V8 _ h,if_neg (fun e=>hij e.symm)]
  ·rw[Array.getElem?_eq_none (by rw[Km];omega),Array.getElem?_eq_none (by rw[Km];omega)]
theorem Vb{f g:Nat->Nat}(h:∀ i,i<256->f i=g i):tab f=tab g:=by
 unfold tab
 congr 1
 apply List.map_congr_left;intro i hi;rw[h i (by simpa using hi)]
def zf:Nat->Nat:=fun _=>0
theorem Jal:Tryz.zeroCells71=tab zf:=by kernel_rfl
def g1(k i:Nat):Nat:=if (i=9/\0<k)\/(i=10/\1<k)\/(i=13/\2<k)\/(i=32/\3<k) then 1 else 0
def g2(k i:Nat):Nat:=if 97<=i/\i<97+k then 2 else g1 4 i
def g3(k i:Nat):Nat:=if 48<=i/\i<48+k then 3 else g2 26 i
def QbO(i:Nat):Nat:=if i=34 then 5 else if i=95 then 4 else g3 10 i
theorem QmZ:tab zf=tab (g1 0):=Vb fun i _=>by simp[g1,zf]
theorem QmY:tab (g1 4)=tab (g2 0):=Vb fun i _=>by unfold g2;rw[if_neg (by omega)]
theorem QmX:tab (g2 26)=tab (g3 0):=Vb fun i _=>by unfold g3;rw[if_neg (by omega)]
theorem QkV{P:Prop}(h:P:=by
  rw[show (1:Int)=((1:Nat):Int) from rfl,YN]
  exact Vb fun i _=>by unfold g1;(repeat' split)<;>omega):P:=h
theorem Jjt:(tab (g1 0)).setIfInBounds 9 (.int .u8 1)=tab (g1 1):=by
 exact QkV
theorem Jju:(tab (g1 1)).setIfInBounds 10 (.int .u8 1)=tab (g1 2):=by
 exact QkV
theorem Jjv:(tab (g1 2)).setIfInBounds 13 (.int .u8 1)=tab (g1 3):=by
 exact QkV
theorem Jjw:(tab (g1 3)).setIfInBounds 32 (.int .u8 1)=tab (g1 4):=by
 exact QkV
theorem JkW(k:Nat):(tab (g2 k)).setIfInBounds (97+k) (.int .u8 2)=tab (g2 (k+1)):=by
 rw[show (2:Int)=((2:Nat):Int) from rfl,YN];exact Vb fun i _=>by unfold g2;(repeat' split)<;>first|rfl|omega
theorem JkX(k:Nat):(tab (g3 k)).setIfInBounds (48+k) (.int .u8 3)=tab (g3 (k+1)):=by
 rw[show (3:Int)=((3:Nat):Int) from rfl,YN];exact Vb fun i _=>by unfold g3;(repeat' split)<;>first|rfl|omega
def g4(i:Nat):Nat:=if i=95 then 4 else g3 10 i
theorem JkY:(tab (g3 10)).setIfInBounds 95 (.int .u8 4)=tab g4:=by
 rw[show (4:Int)=((4:Nat):Int) from rfl,YN];exact Vb fun i _=>by unfold g4;split<;>rfl
theorem Jjx:(tab g4).setIfInBounds 34 (.int .u8 5)=tab QbO:=by
 rw[show (5:Int)=((5:Nat):Int) from rfl,YN];exact Vb fun i _=>by unfold QbO g4;split<;>rfl
structure CW(B:Nat)(w wr:World)(f:Nat->Nat):Prop where
 t1:wr.heap[B+1]?=some (.cells (tab f) 71 (0,0))
 t0:wr.heap[B]?=some (.cells (tab zf) 71 (0,0))
 sz:B+2<=wr.heap.size
 bl:Below B w wr
theorem CW.set{B:Nat}{w wr:World}{f g:Nat->Nat}(h:CW B w wr f)(j:Nat)(v:Int)(e:(tab f).setIfInBounds j (.int .u8 v)=tab g):CW B w (wr.setCell ⟨B+1,j,none⟩ (.int .u8 v)) g:=by
 refine⟨?_,?_,?_,h.bl.setCell (by simp) _⟩
 ·rw[heap_setCell_same _ _ _ _ _ _ h.t1,e]
 ·rw[heap_setCell_other _ _ _ _ (by simp),h.t0]
 ·have:=h.sz;simpa[World.setCell] using this
theorem CW.c1{B:Nat}{w wr:World}{f:Nat->Nat}(h:CW B w wr f){j:Nat}(hj:j<256):wr.cell? ⟨B+1,j,none⟩=some (.int .u8 (f j:Nat)):=by
 rw[cell_of_row _ _ _ _ _ _ h.t1,V8 _ hj]
theorem CW.f1{B:Nat}{w wr:World}{f:Nat->Nat}(h:CW B w wr f)(j:Nat):wr.frozen? ⟨B+1,j,none⟩=false:=frozen_of_row _ _ _ _ _ h.t1
theorem JeU(f:Nat->Nat):(tab f).all (·.oneCell')=true:=by
 rw[Array.all_eq_true_iff_forall_mem];intro x hx;simp only[tab,List.mem_toArray,List.mem_map]at hx;obtain⟨i,_,rfl⟩:=hx;rfl
theorem QfI:(prog.info? 71).map (·.size)=some 256:=by kernel_rfl
theorem Qkg{P:Prop}(h:P:=by
  clear hC;go_wp2;go_roundw
  case rel=>exact⟨k+1,by omega,by go_num,HC.out⟩
  case measure=>simp[intOf];omega):P:=h
theorem JbX(w:World):Calls prog 34 #[] w (fun e w'=>e=.returned (.agg (tab QbO))/\Below w.heap.size w w'):=by
 obtain⟨B,hB⟩:∃ B,w.heap.size=B:=⟨_,rfl⟩
 rw[hB];have hcv:=Joins.run_convert_bytes_const_at (P:=prog) ((w.alloc (.cells Tryz.zeroCells71 71)).alloc (.cells Tryz.zeroCells71 71)) 62 5 #[.int .u8 9,.int .u8 10,.int .u8 13,.int .u8 32] 4 4 (B+1+1) (by simp[hB]) underlying62 underlying5;go_enter func34,ntmps34;go_wp2;obtain⟨W,hW⟩:∃ W,W=((w.alloc (.cells Tryz.zeroCells71 71)).alloc (.cells Tryz.zeroCells71 71)).alloc (.cells #[.int .u8 9,.int .u8 10,.int .u8 13,.int .u8 32] 5 (4,5)):=⟨_,rfl⟩
 have hC:CW B w W (g1 0):=by
  have s1:(w.alloc (.cells Tryz.zeroCells71 71)).heap.size=B+1:=by simp[hB]
  have s2:((w.alloc (.cells Tryz.zeroCells71 71)).alloc (.cells Tryz.zeroCells71 71)).heap.size=B+2:=by simp[hB]
  refine⟨?_,?_,?_,?_⟩
  ·rw[hW,heap_alloc_old _ _ (by omega),<- s1,zzw,Jal,QmZ]
  ·rw[hW,heap_alloc_old _ _ (by omega),heap_alloc_old _ _ (by omega),<- hB,zzw,Jal]
  ·rw[hW];simp[hB]
  ·rw[hW];exact((zzb.alloc (by omega) _).alloc (by omega) _).alloc (by omega) _
 have hD:W.heap[B+1+1]?=some (.cells #[.int .u8 9,.int .u8 10,.int .u8 13,.int .u8 32] 5 (4,5)):=by
  have s2:((w.alloc (.cells Tryz.zeroCells71 71)).alloc (.cells Tryz.zeroCells71 71)).heap.size=B+1+1:=by simp[hB]
  rw[hW,<- s2,zzw]
 have hsW:B+2<W.heap.size:=by rw[hW];simp[hB]
 rw[<- hW];clear hW hcv;go_loopw [9] (fun v wr=>∃ k:Nat,k<=4/\v=.int .i64 k/\CW B w wr (g1 k)/\wr.heap[B+1+1]?=some (.cells #[.int .u8 9,.int .u8 10,.int .u8 13,.int .u8 32] 5 (4,5))) (fun v _=>4-(intOf v).toNat)
 case atStart=>exact⟨0,by omega,rfl,hC,hD⟩
 case round=>
  obtain⟨k,hk,rfl,hC,hD⟩:=hrel;have hcd:=fun j=>cell_of_row wr _ j _ _ _ hD
  by_cases hlt:k<4
  ·rcases (by omega:k=0\/k=1\/k=2\/k=3) with rfl|rfl|rfl|rfl
   ·have q1:=hcd 0;have q2:=hC.c1 (j:=9) (by omega);have q3:=hC.f1 9;clear hcd;have hC':=hC.set 9 1 Jjt;have hD':=(heap_setCell_other wr ⟨B+1,9,none⟩ (B+1+1) (.int .u8 1) (by simp)).trans hD;have HC:=Zh hC';have HD:=Zh hD';clear hC hD hC' hD';go_wp2;go_roundw
    case rel=>exact⟨1,by omega,rfl,HC.out,HD.out⟩
    case measure=>simp[intOf]
   ·have q1:=hcd 1;have q2:=hC.c1 (j:=10) (by omega);have q3:=hC.f1 10;clear hcd;have hC':=hC.set 10 1 Jju;have hD':=(heap_setCell_other wr ⟨B+1,10,none⟩ (B+1+1) (.int .u8 1) (by simp)).trans hD;have HC:=Zh hC';have HD:=Zh hD';clear hC hD hC' hD';go_wp2;go_roundw
    case rel=>exact⟨2,by omega,rfl,HC.out,HD.out⟩
    case measure=>simp[intOf]
   ·have q1:=hcd 2;have q2:=hC.c1 (j:=13) (by omega);have q3:=hC.f1 13;clear hcd;have hC':=hC.set 13 1 Jjv;have hD':=(heap_setCell_other wr ⟨B+1,13,none⟩ (B+1+1) (.int .u8 1) (by simp)).trans hD;have HC:=Zh hC';have HD:=Zh hD';clear hC hD hC' hD';go_wp2;go_roundw
    case rel=>exact⟨3,by omega,rfl,HC.out,HD.out⟩
    case measure=>simp[intOf]
   ·have q1:=hcd 3;have q2:=hC.c1 (j:=32) (by omega);have q3:=hC.f1 32;clear hcd;have hC':=hC.set 32 1 Jjw;have hD':=(heap_setCell_other wr ⟨B+1,32,none⟩ (B+1+1) (.int .u8 1) (by simp)).trans hD;have HC:=Zh hC';have HD:=Zh hD';clear hC hD hC' hD';go_wp2;go_roundw
    case rel=>exact⟨4,by omega,rfl,HC.out,HD.out⟩
    case measure=>simp[intOf]
  ·obtain rfl:k=4:=by omega
   clear hcd hD;have hC:CW B w wr (g2 0):=⟨by rw[<- QmY];exact hC.t1,hC.t0,hC.sz,hC.bl⟩
   have HC:=Zh hC;clear hC;go_wp2;obtain⟨w2,rfl⟩:∃ w2:World,w2=wr:=⟨_,rfl⟩
   go_loopw [4] (fun v wr=>∃ k:Nat,k<=26/\v=.int .i32 (97+k)/\CW B w wr (g2 k)) (fun v _=>123-(intOf v).toNat)
   case atStart=>exact⟨0,by omega,rfl,HC.out⟩
   case round=>
    clear HC;obtain⟨k,hk,rfl,hC⟩:=hrel
    by_cases hlt:k<26
    ·have q2:=hC.c1 (j:=97+k) (by omega);have q3:=hC.f1 (97+k);have HC:=Zh (hC.set (97+k) 2 (JkW k));have e1:(97+(k:Int)).toNat=97+k:=by omega
     exact Qkg
    ·obtain rfl:k=26:=by omega
     have hC:CW B w wr (g3 0):=⟨by rw[<- QmX];exact hC.t1,hC.t0,hC.sz,hC.bl⟩
     have HC:=Zh hC;clear hC;go_wp2;obtain⟨w3,rfl⟩:∃ w3:World,w3=wr:=⟨_,rfl⟩
     go_loopw [5] (fun v wr=>∃ k:Nat,k<=10/\v=.int .i32 (48+k)/\CW B w wr (g3 k)) (fun v _=>58-(intOf v).toNat)
     case atStart=>exact⟨0,by omega,rfl,HC.out⟩
     case round=>
      clear HC;obtain⟨k,hk,rfl,hC⟩:=hrel
      by_cases hlt:k<10
      ·have q2:=hC.c1 (j:=48+k) (by omega);have q3:=hC.f1 (48+k);have HC:=Zh (hC.set (48+k) 3 (JkX k));have e1:(48+(k:Int)).toNat=48+k:=by omega
       exact Qkg
      ·obtain rfl:k=10:=by omega
       have q2:=hC.c1 (j:=95) (by omega);have q3:=hC.f1 95;have hC1:=hC.set 95 4 JkY;have q4:=hC1.c1 (j:=34) (by omega);have q5:=hC1.f1 34;have hC2:=hC1.set 34 5 Jjx;have HC:=Zh hC2;clear hC hC1 hC2;have hu:(match (TypeDesc.array 256 5) with|.struct _|.array _ _=>true|_=>false)=true:=rfl
       go_wp2_with (first
        |(refine wpList_load_row rfl 71 (.tmp 1) rfl (B+1) rfl 71 (tab QbO) (0,0) _ HC.out.t1 underlying71 (by rfl) (by rw[Km];exact QfI) ?_)
        |(refine wpList_store_row rfl 71 (.tmp 0) (.tmp 30) rfl B (tab QbO) rfl rfl 71 (tab zf) HC.out.t0 (by rw[Km];exact QfI) (by rw[Km,Km]) (JeU _) ?_))
       refine bodyPost_ret (v:=.agg (tab QbO)) (results_cell_row rfl _ _ B 71 (tab QbO) (0,0) _ rfl (setRow_heap _ B (tab zf) _ 71 (0,0) HC.out.t0) underlying71 rfl (by rw[Km];exact QfI)) rfl ⟨rfl,?_⟩;exact below_setRow HC.out.bl zzl _
def er(t:Tok):Tok:={ t with off:=0 }
theorem JeV{t:Tok}{s:QfP}{l:List Tok}(h:s.push t=.ok l):∃ r,s=.ok r/\l=t::r:=by
 cases s with
 |ok r=>simp only[QfP.push]at h;injection h with h;exact⟨r,rfl,h.symm⟩
 |err k=>cases h
theorem Jjy:∀ (l:List UInt8) (k:Nat) (ts:List Tok),sc k l=.ok ts->∃ us,ts=us++[⟨4,[],0,(k+l.length:Nat)⟩]/\(∀ t∈us,0<=t.kind/\t.kind<=3/\t.text.length<=24/\0<=t.n/\t.n<=1125899906842624)/\(∀ t∈ts,(k:Int)<=t.off/\t.off<=k+l.length):=by
 refine Jdg (P:=fun k l=>∀ ts,sc k l=.ok ts->_) ?_ ?_ ?_ ?_
 ·intro k ts h;rw[Jdf]at h;injection h with h;subst h;exact⟨[],rfl,by simp,by simp⟩
 ·intro k c r hs ih ts h;rw[Jhr k r hs]at h;obtain⟨us,h1,h2,h3⟩:=ih ts h;refine⟨us,by rw[h1];simp;omega,h2,fun t ht=>?_⟩;have:=h3 t ht;simp only[length_cons];omega
 ·intro k c r hs ht ts h;rw[JbW k r hs ht]at h
  cases h
 ·intro k c r t n hs ht h1 hn ih ts h;rw[Jak k r hs ht]at h;obtain⟨rs,hr,rfl⟩:=JeV h;obtain⟨us,e1,e2,e3⟩:=ih rs hr;have hl:((c::r).drop n).length=(c::r).length-n:=List.length_drop;rw[hl]at e1 e3;have hf:=JaQ ht;refine⟨{ t with off:=k }::us,?_,?_,?_⟩
  ·rw[e1];simp only[cons_append]
   congr 5
   omega
  ·intro x hx
   rcases List.mem_cons.1 hx with rfl|hx
   ·exact⟨hf.1,hf.2.1,hf.2.2.1,hf.2.2.2.1,hf.2.2.2.2.1⟩
   ·exact e2 x hx
  ·intro x hx
   rcases List.mem_cons.1 hx with rfl|hx
   ·exact⟨Int.le_refl _,by show (k:Int)<=_;omega⟩
   ·have:=e3 x hx;omega
def QfC(c:UInt8):Bool:=decide (32<=c.toNat)&&decide (c.toNat<=126)&&c !=34&&c !=92
theorem JbY:∀ (w:List UInt8) (f:Nat),(∀ c∈w,QfC c=true)->Qax f (w++[34])=if w.length+1<=f then some w else none:=by
 intro w
 induction w with
 |nil=>
  intro f _
  cases f with
  |zero=>rfl
  |succ f=>simp[Qax]
 |cons c w ih=>
  intro f h
  cases f with
  |zero=>simp[Qax]
  |succ f=>
   have hc:=h c (by simp);simp[QfC]at hc;simp only[cons_append,Qax];rw[if_neg hc.1.2,if_neg (by intro h;rcases h with h|h|h<;>first|omega|exact hc.2 h),ih f (fun c h'=>h c (by simp[h']))]
   by_cases hl:w.length+1<=f
   ·rw[if_pos hl,if_pos (by simp;omega)];rfl
   ·rw[if_neg hl,if_neg (by simp;omega)];rfl
theorem JiU{c:UInt8}(h:Qdl c):QbB c=true/\Qci c=false/\Qdy c=true/\Qcp c=false:=by
 unfold Qdl at h;have h3:Qdy c=true:=by simp[Qdy,h.1,h.2]
 refine⟨by simp[QbB,h3],by simp[Qci];omega,h3,?_⟩
 cases hs:Qcp c with
 |false=>rfl
 |true=>rcases JbV hs with rfl|rfl|rfl|rfl<;>(revert h;decide)
end Go.Proofs.YtdlkcjkjnehnkaaGreatDoor
