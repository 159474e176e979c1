import Derived.Lib.IndexAny
import Derived.Laws.AppendOwn
import Derived.Laws.OwnMore
import Derived.Deep.Draws
import Derived.Laws.NewBlocks
import Derived.Test.YtncanmdgdflnpaaGreatDoorW02
namespace Go.Proofs.YtncanmdgdflnpaaGreatDoor
open Go.ChangeShapes Go.WideShapes Go.ChangeAt Go.RowKit Go.Lib
open _root_.Go.Proofs.Tryz
set_option linter.all false
set_option maxRecDepth 100000
set_option maxHeartbeats 32000000
theorem prefix2 (l:List UInt8) (a b:UInt8):Lib.hasPrefix l [a,b]=decide (l.take 2=[a,b]):=by
 rw[← Lib.hasPrefix_of_take]
 by_cases h:l.take 2=[a,b]
 ·have hl:2≤l.length:=by
   have:=congrArg List.length h;simp at this; omega
  simp[h,hl]
 ·have:(l.take 2==[a,b])=false:=by simpa using h
  simp only[List.length_cons,List.length_nil,this,Bool.and_false,h,decide_false]
theorem ZZ (l:List UInt8) (a b:UInt8) (w:World):Calls prog 126 #[.string (bs l),.string { data:=#[a,b] }] w (Same (.bool (decide (l.take 2=[a,b]))) w):=by
 refine (Tryz.strings_HasPrefix (bs l) { data:=#[a,b] } w).mono ?_;rintro e w' ⟨rfl,rfl⟩;refine ⟨?_,rfl⟩;rw[Vm,← prefix2]
theorem Jiu (c:Nat) (hc:c<256) (w:World):Calls prog 127 #[.string { data:=#[40,41,44,58,61,60,62,43,45,42,47,37] },.int .u8 (c:Nat)] w (Same (.int .i64 (Lib.indexByte short1 c.toUInt8)) w):=by
 refine (Tryz.strings_IndexByte { data:=#[40,41,44,58,61,60,62,43,45,42,47,37] } (c:Nat) w).mono ?_;rintro e w' ⟨rfl,rfl⟩;exact ⟨rfl,rfl⟩
theorem Jiv (c:UInt8):0≤Lib.indexByte short1 c↔c∈short1:=by
 have h:=Lib.contains_iff_indexByte short1 c;rw[Bool.eq_iff_iff,decide_eq_true_iff] at h;rw[← h,List.contains_iff_mem]
theorem wx91 {P:Prop}(h:P:=by
  generalize Lib.indexByte short1 c=z at *;clear hno hm HS;go_wp2_with fail;refine (hc _).mono ?_;rintro e w' ⟨rfl,rfl⟩;go_wp2;go_ret
  exact ⟨by rw[HR.out]; rfl,rfl⟩):P:=h
theorem JbK (c:UInt8) (r:List UInt8) (w:World) (hl:(c::r).length≤281474976710656):Calls prog 101 #[.string (bs (c::r))] w (Same (.string (bs (signL (c::r)))) w):=by
 obtain ⟨l,hL⟩:∃ l,l=c::r:=⟨_,rfl⟩
 have hg:∀ h,((bs l)[0]'h).toNat=c.toNat:=by rw[hL]; intro h; rfl
 have hlen:l.length=r.length+1:=by rw[hL]; rfl
 have hpos:0<l.length:=by omega
 have hex:(bs l).extract 0 1=bs [c]:=by rw[KH,hL]; simp
 have HS:Hid (signL l=if l.take 2∈long2 then l.take 2 else if c∈short1 then [c] else []):=by
  unfold Hid;rw[hL,signL];rw[if_neg (show ¬ (c::r).head?=none by simp)];rfl
 rw[← hL] at hl ⊢;have hs:=JP l;clear hL hlen;have hc:=Jiu c.toNat c.toNat_lt;have hco:c.toNat.toUInt8=c:=by simp
 rw[hco] at hc;have HI:=Zh (Jiv c);have i0:∀ w,(Instr.index 186 (.agg #[.string { data:=#[61,61] },.string { data:=#[33,61] },.string { data:=#[60,61] },.string { data:=#[62,61] }]) (.int .i64 0)).run prog w=.ok (.string { data:=#[61,61] }) w:=fun _=>by kernel_rfl
 have i1:∀ w,(Instr.index 186 (.agg #[.string { data:=#[61,61] },.string { data:=#[33,61] },.string { data:=#[60,61] },.string { data:=#[62,61] }]) (.int .i64 1)).run prog w=.ok (.string { data:=#[33,61] }) w:=fun _=>by kernel_rfl
 have i2:∀ w,(Instr.index 186 (.agg #[.string { data:=#[61,61] },.string { data:=#[33,61] },.string { data:=#[60,61] },.string { data:=#[62,61] }]) (.int .i64 2)).run prog w=.ok (.string { data:=#[60,61] }) w:=fun _=>by kernel_rfl
 have i3:∀ w,(Instr.index 186 (.agg #[.string { data:=#[61,61] },.string { data:=#[33,61] },.string { data:=#[60,61] },.string { data:=#[62,61] }]) (.int .i64 3)).run prog w=.ok (.string { data:=#[62,61] }) w:=fun _=>by kernel_rfl
 have b0:Hid ((⟨#[61,61]⟩:ByteArray)=bs [61,61]):=rfl;have b1:Hid ((⟨#[33,61]⟩:ByteArray)=bs [33,61]):=rfl;have b2:Hid ((⟨#[60,61]⟩:ByteArray)=bs [60,61]):=rfl;have b3:Hid ((⟨#[62,61]⟩:ByteArray)=bs [62,61]):=rfl;have b9:Hid ((⟨#[]⟩:ByteArray)=bs []):=rfl;generalize hcc:c.toNat=x at *;have hx:x<256:=by rw[← hcc]; exact c.toNat_lt
 clear hcc hco;go_enter func101,ntmps101;go_wp2;go_loop [6,4] (fun v _=>∃ k:Nat,k≤4∧v=.int .i64 k∧Hid ((0<k→l.take 2≠[61,61])∧(1<k→l.take 2≠[33,61])∧(2<k→l.take 2≠[60,61])∧(3<k→l.take 2≠[62,61]))) (fun v _=>4-(intOf v).toNat)
 case atStart=>exact ⟨0,by omega,rfl,by unfold Hid; refine ⟨?_,?_,?_,?_⟩ <;> (intro h; omega)⟩
 case round=>
  obtain ⟨k,hk,rfl,HA⟩:=hrel
  by_cases hlt:k<4
  ·rcases (by omega:k=0∨k=1∨k=2∨k=3) with rfl | rfl | rfl | rfl
   ·go_wp2_with fail;refine (ZZ l 61 61 w).mono ?_
    by_cases h:l.take 2=[61,61]
    ·have HR:Hid (signL l=[61,61]):=by unfold Hid; rw[HS.out,if_pos (by rw[h]; decide),h]
     have hd:decide (l.take 2=[61,61])=true:=decide_eq_true h;rw[hd];rintro e w' ⟨rfl,rfl⟩;clear h hd;go_wp2;go_ret;exact ⟨by rw[HR.out,← b0.out]; rfl,rfl⟩
    ·have H:Hid ((0<1→l.take 2≠[61,61])∧(1<1→l.take 2≠[33,61])∧(2<1→l.take 2≠[60,61])∧(3<1→l.take 2≠[62,61])):=⟨fun _=>h,by omega,by omega,by omega⟩
     have hd:decide (l.take 2=[61,61])=false:=decide_eq_false h;rw[hd];rintro e w' ⟨rfl,rfl⟩;clear h hd;go_wp2;go_round
     case rel=>exact ⟨1,by omega,rfl,H⟩
     case measure=>simp[intOf]
   ·go_wp2_with fail;refine (ZZ l 33 61 w).mono ?_
    by_cases h:l.take 2=[33,61]
    ·have HR:Hid (signL l=[33,61]):=by unfold Hid; rw[HS.out,if_pos (by rw[h]; decide),h]
     have hd:decide (l.take 2=[33,61])=true:=decide_eq_true h;rw[hd];rintro e w' ⟨rfl,rfl⟩;clear h hd;go_wp2;go_ret;exact ⟨by rw[HR.out,← b1.out]; rfl,rfl⟩
    ·have H:Hid ((0<2→l.take 2≠[61,61])∧(1<2→l.take 2≠[33,61])∧(2<2→l.take 2≠[60,61])∧(3<2→l.take 2≠[62,61])):=⟨fun _=>HA.out.1 (by omega),fun _=>h,by omega,by omega⟩
     have hd:decide (l.take 2=[33,61])=false:=decide_eq_false h;rw[hd];rintro e w' ⟨rfl,rfl⟩;clear h hd;go_wp2;go_round
     case rel=>exact ⟨2,by omega,rfl,H⟩
     case measure=>simp[intOf]
   ·go_wp2_with fail;refine (ZZ l 60 61 w).mono ?_
    by_cases h:l.take 2=[60,61]
    ·have HR:Hid (signL l=[60,61]):=by unfold Hid; rw[HS.out,if_pos (by rw[h]; decide),h]
     have hd:decide (l.take 2=[60,61])=true:=decide_eq_true h;rw[hd];rintro e w' ⟨rfl,rfl⟩;clear h hd;go_wp2;go_ret;exact ⟨by rw[HR.out,← b2.out]; rfl,rfl⟩
    ·have H:Hid ((0<3→l.take 2≠[61,61])∧(1<3→l.take 2≠[33,61])∧(2<3→l.take 2≠[60,61])∧(3<3→l.take 2≠[62,61])):=⟨fun _=>HA.out.1 (by omega),fun _=>HA.out.2.1 (by omega),fun _=>h,by omega⟩
     have hd:decide (l.take 2=[60,61])=false:=decide_eq_false h;rw[hd];rintro e w' ⟨rfl,rfl⟩;clear h hd;go_wp2;go_round
     case rel=>exact ⟨3,by omega,rfl,H⟩
     case measure=>simp[intOf]
   ·go_wp2_with fail;refine (ZZ l 62 61 w).mono ?_
    by_cases h:l.take 2=[62,61]
    ·have HR:Hid (signL l=[62,61]):=by unfold Hid; rw[HS.out,if_pos (by rw[h]; decide),h]
     have hd:decide (l.take 2=[62,61])=true:=decide_eq_true h;rw[hd];rintro e w' ⟨rfl,rfl⟩;clear h hd;go_wp2;go_ret;exact ⟨by rw[HR.out,← b3.out]; rfl,rfl⟩
    ·have H:Hid ((0<4→l.take 2≠[61,61])∧(1<4→l.take 2≠[33,61])∧(2<4→l.take 2≠[60,61])∧(3<4→l.take 2≠[62,61])):=⟨fun _=>HA.out.1 (by omega),fun _=>HA.out.2.1 (by omega),fun _=>HA.out.2.2.1 (by omega),fun _=>h⟩
     have hd:decide (l.take 2=[62,61])=false:=decide_eq_false h;rw[hd];rintro e w' ⟨rfl,rfl⟩;clear h hd;go_wp2;go_round
     case rel=>exact ⟨4,by omega,rfl,H⟩
     case measure=>simp[intOf]
  ·obtain rfl:k=4:=by omega
   have hno:l.take 2∉long2:=by
    obtain ⟨h1,h2,h3,h4⟩:=HA.out;simp[long2];exact ⟨h1 (by omega),h2 (by omega),h3 (by omega),h4 (by omega)⟩
   by_cases hm:c∈short1
   ·have HR:Hid (signL l=[c]):=by unfold Hid; rw[HS.out,if_neg hno,if_pos hm]
    have hd:decide (0≤Lib.indexByte short1 c)=true:=decide_eq_true (HI.out.2 hm);exact wx91
   ·have HR:Hid (signL l=[]):=by unfold Hid; rw[HS.out,if_neg hno,if_neg hm]
    have hd:decide (0≤Lib.indexByte short1 c)=false:=decide_eq_false (fun h=>hm (HI.out.1 h));exact wx91
def tokV (t:Tok):Array Value:=#[.int .i64 t.kind,.string (bs t.text),.int .i64 t.n,.int .i64 t.off]
def TokPost (o:Option (Tok × Nat)) (w:World) (e:Ending) (w':World):Prop:=
 (∃ (t:Tok) (n:Int),e=.returned (.tuple #[.agg (tokV t),.int .i64 n,.bool o.isSome])∧∀ u k,o=some (u,k)→t=u∧n=(k:Nat))∧Below w.heap.size w w'
theorem ClsAt.below {w w':World} {p:Nat} (h:ClsAt w p) (hb:Below w.heap.size w w') (hp:p<w.heap.size):ClsAt w' p:=fun i hi=>by
 rw[hb.cell (p:=⟨p,i,none⟩) hp]; exact h i hi
theorem Ky {o:Option (Tok × Nat)} {w w':World} {t:Tok} {n:Int} {b:Bool} (hb:b=o.isSome) (h:∀ u k,o=some (u,k)→t=u∧n=(k:Nat)) (hB:Below w.heap.size w w') :
  TokPost o w (.returned (.tuple #[.agg #[.int .i64 t.kind,.string (bs t.text),.int .i64 t.n,.int .i64 t.off],.int .i64 n,.bool b])) w':=⟨⟨t,n,by rw[hb]; rfl,h⟩,hB⟩
theorem JS {P:Program} {fn:Func} {p a b:Tmp} {ty:TypeId} (h:fn.results=#[.cell p ty,.tmp a,.tmp b]) (tmps:Array Value) (w:World) (g:Nat) (t:TypeId) (cs:Array Value) (fr:Nat × Nat) (d:TypeDesc)
  (hp:tmps.getD p undef=.pointer (some ⟨g,0,none⟩)) (hg:w.heap[g]?=some (.cells cs t fr))
  (hu:P.underlying ty=some d) (hd:(match d with | .struct _ | .array _ _=>true | _=>false)=true) (hi:(P.info? ty).map (·.size)=some cs.size) :
  (results fn tmps).run P w=.ok (.tuple #[.agg cs,tmps.getD a undef,tmps.getD b undef]) w:=by
 have hp':tmps[p]?.getD undef=.pointer (some ⟨g,0,none⟩):=by simpa using hp
 simp[results,h,hp',asAddr,run_loadVar_row w g t ty cs fr d hg hu hd hi]
theorem wx94 {P:Prop}(h:P:=by
  have h0:=heap_setCell_same _ _ 0 _ _ v0 h;have h1:=heap_setCell_same _ _ 1 _ _ v1 h0;have h2:=heap_setCell_same _ _ 2 _ _ v2 h1
  exact heap_setCell_same _ _ 3 _ _ v3 h2):P:=h
theorem blk4 {w:World} {T t:Nat} {a0 a1 a2 a3:Value} (v0 v1 v2 v3:Value) (h:w.heap[T]?=some (.cells #[a0,a1,a2,a3] t (0,0))) :
  ((((w.setCell ⟨T,0,none⟩ v0).setCell ⟨T,1,none⟩ v1).setCell ⟨T,2,none⟩ v2).setCell ⟨T,3,none⟩ v3).heap[T]?=some (.cells #[v0,v1,v2,v3] t (0,0)):=by
 exact wx94
theorem Ke {B:Nat} {w w1:World} {T:Nat} (v0 v1 v2 v3:Value) (h:Below B w w1) (hT:B≤T):Below B w ((((w1.setCell ⟨T,0,none⟩ v0).setCell ⟨T,1,none⟩ v1).setCell ⟨T,2,none⟩ v2).setCell ⟨T,3,none⟩ v3):=
 (((h.setCell hT v0).setCell hT v1).setCell hT v2).setCell hT v3
theorem info25:(prog.info? 105).map (·.size)=some 4:=by kernel_rfl
theorem Jap (c:UInt8) (r:List UInt8) (p:Nat) (w:World) (hC:ClsAt w p) (hp:p<w.heap.size) (hl:(c::r).length≤281474976710655) (hc:isLe c=true) (hL:Laid w) :
  Calls prog 62 #[.pointer (some ⟨p,0,none⟩),.string (bs (c::r))] w (TokPost (tokF (c::r)) w):=by
 have HF:Hid (tokF (c::r)=if (wordL (c::r)).length≤24 then some (⟨0,wordL (c::r),0,0⟩,(wordL (c::r)).length) else none):=by
  unfold Hid;simp only[tokF];rw[if_pos hc]
 obtain ⟨l,hLl⟩:∃ l,l=c::r:=⟨_,rfl⟩
 have hg:∀ h,((bs l)[0]'h).toNat=c.toNat:=by rw[hLl]; intro h; rfl
 have hlen:l.length=r.length+1:=by rw[hLl]; rfl
 have hpos:0<l.length:=by omega
 have hcell:=hC c.toNat c.toNat_lt;rw[Jev.1 hc] at hcell;have hx:c.toNat<256:=c.toNat_lt;rw[← hLl] at hl HF ⊢;have hs:=JP l;have hwle:=Yv l;clear hLl hlen;generalize c.toNat=x at *;have HC:=Zh hC;clear hC;go_enter func62,ntmps62;go_wp2;go_quiet (fail);go_wp2_with fail;obtain ⟨W,hW⟩:∃ W,W=(w.alloc (.cells #[.int .i64 0,.string ⟨#[]⟩,.int .i64 0,.int .i64 0] 105)).drewN nq:=⟨_,rfl⟩
 have hb0:Below w.heap.size w W:=by rw[hW]; exact J2 (zzb.alloc zzl _) _
 have g0:W.heap[w.heap.size]?=some (.cells #[.int .i64 0,.string ⟨#[]⟩,.int .i64 0,.int .i64 0] 105 (0,0)):=by rw[hW]; exact zzw w _
 have z0:w.heap.size<W.heap.size:=by rw[hW]; show _<(w.alloc _).heap.size; simp
 rw[← hW];clear hW;have hCW:=HC.out.below hb0 hp;refine (Yy l p W hCW (by omega)).mono ?_;rintro e w1 ⟨rfl,hb1⟩;have g1:=(hb1.block _ z0).trans g0;have hB:=hb0.trans (hb1.mono hb0.size);have z1:w.heap.size<w1.heap.size:=Nat.lt_of_lt_of_le z0 hb1.size;have hwl:=JP (wordL l);have G:=Zh g1;clear hb1 hb0 g0 z0 hCW HC g1
 by_cases h24:(wordL l).length≤24
 ·have HT:Hid (tokF l=some (⟨0,wordL l,0,0⟩,(wordL l).length)):=by unfold Hid; rw[HF.out,if_pos h24]
  clear HF hcell;generalize hwd:wordL l=wd at *;clear hwd;have d24:decide ((wd.length:Int)≤24)=true:=decide_eq_true (by omega);have q0:w1.cell? ⟨w.heap.size,0,none⟩=some (.int .i64 0):=by rw[cell_of_row _ _ _ _ _ _ G.out]; rfl
  have q1:w1.cell? ⟨w.heap.size,1,none⟩=some (.string ⟨#[]⟩):=by rw[cell_of_row _ _ _ _ _ _ G.out]; rfl
  have q2:w1.cell? ⟨w.heap.size,2,none⟩=some (.int .i64 0):=by rw[cell_of_row _ _ _ _ _ _ G.out]; rfl
  have q3:w1.cell? ⟨w.heap.size,3,none⟩=some (.int .i64 0):=by rw[cell_of_row _ _ _ _ _ _ G.out]; rfl
  have f0:=frozen_of_row _ _ 0 _ _ G.out;have f1:=frozen_of_row _ _ 1 _ _ G.out;have f2:=frozen_of_row _ _ 2 _ _ G.out;have f3:=frozen_of_row _ _ 3 _ _ G.out;go_wp2_with fail;refine bodyPost_ret (JS rfl _ _ w.heap.size 105 #[.int .i64 0,.string (bs wd),.int .i64 0,.int .i64 0] (0,0) _ rfl (blk4 _ _ _ _ G.out) underlying105 rfl info25) rfl ?_;rw[HT.out];exact Ky (t:=⟨0,wd,0,0⟩) rfl (by intro u k h; injection h with h; injection h with h1 h2; subst h1; subst h2; exact ⟨rfl,rfl⟩) (Ke _ _ _ _ hB zzl)
 ·have HT:Hid (tokF l=none):=by unfold Hid; rw[HF.out,if_neg h24]
  clear HF hcell;generalize hwd:wordL l=wd at *;clear hwd;have d24:decide ((wd.length:Int)≤24)=false:=decide_eq_false (by omega);have q0:w1.cell? ⟨w.heap.size,0,none⟩=some (.int .i64 0):=by rw[cell_of_row _ _ _ _ _ _ G.out]; rfl
  have q1:w1.cell? ⟨w.heap.size,1,none⟩=some (.string ⟨#[]⟩):=by rw[cell_of_row _ _ _ _ _ _ G.out]; rfl
  have q2:w1.cell? ⟨w.heap.size,2,none⟩=some (.int .i64 0):=by rw[cell_of_row _ _ _ _ _ _ G.out]; rfl
  have q3:w1.cell? ⟨w.heap.size,3,none⟩=some (.int .i64 0):=by rw[cell_of_row _ _ _ _ _ _ G.out]; rfl
  have f0:=frozen_of_row _ _ 0 _ _ G.out;have f1:=frozen_of_row _ _ 1 _ _ G.out;have f2:=frozen_of_row _ _ 2 _ _ G.out;have f3:=frozen_of_row _ _ 3 _ _ G.out;go_wp2_with fail;refine bodyPost_ret (JS rfl _ _ w.heap.size 105 #[.int .i64 0,.string (bs wd),.int .i64 0,.int .i64 0] (0,0) _ rfl (blk4 _ _ _ _ G.out) underlying105 rfl info25) rfl ?_;rw[HT.out];exact Ky (t:=⟨0,wd,0,0⟩) rfl (by intro u k h; cases h) (Ke _ _ _ _ hB zzl)
theorem JbL (c:UInt8) (r:List UInt8) (p:Nat) (w:World) (hC:ClsAt w p) (hp:p<w.heap.size) (hl:(c::r).length≤281474976710655) (hc:isDi c=true) (hc0:isLe c=false) (hL:Laid w) :
  Calls prog 62 #[.pointer (some ⟨p,0,none⟩),.string (bs (c::r))] w (TokPost (tokF (c::r)) w):=by
 have HF:Hid (tokF (c::r)=(parseI (wordL (c::r)) 0 1125899906842624).map fun n=>(⟨1,[],n,0⟩,(wordL (c::r)).length)):=by
  unfold Hid;simp only[tokF];rw[if_neg (by simp[hc0]),if_pos hc]
 obtain ⟨l,hLl⟩:∃ l,l=c::r:=⟨_,rfl⟩
 have hg:∀ h,((bs l)[0]'h).toNat=c.toNat:=by rw[hLl]; intro h; rfl
 have hlen:l.length=r.length+1:=by rw[hLl]; rfl
 have hpos:0<l.length:=by omega
 have hcell:=hC c.toNat c.toNat_lt;rw[Jew.1 hc] at hcell;have hx:c.toNat<256:=c.toNat_lt;rw[← hLl] at hl HF ⊢;have hs:=JP l;have hwle:=Yv l;clear hLl hlen;generalize c.toNat=x at *;have HC:=Zh hC;clear hC;go_enter func62,ntmps62;go_wp2;go_quiet (fail);go_wp2_with fail;obtain ⟨W,hW⟩:∃ W,W=(w.alloc (.cells #[.int .i64 0,.string ⟨#[]⟩,.int .i64 0,.int .i64 0] 105)).drewN nq:=⟨_,rfl⟩
 have hb0:Below w.heap.size w W:=by rw[hW]; exact J2 (zzb.alloc zzl _) _
 have g0:W.heap[w.heap.size]?=some (.cells #[.int .i64 0,.string ⟨#[]⟩,.int .i64 0,.int .i64 0] 105 (0,0)):=by rw[hW]; exact zzw w _
 have z0:w.heap.size<W.heap.size:=by rw[hW]; show _<(w.alloc _).heap.size; simp
 rw[← hW];clear hW;have hCW:=HC.out.below hb0 hp;refine (Yy l p W hCW (by omega)).mono ?_;rintro e w1 ⟨rfl,hb1⟩;have g1:=(hb1.block _ z0).trans g0;have hB:=hb0.trans (hb1.mono hb0.size);have z1:w.heap.size<w1.heap.size:=Nat.lt_of_lt_of_le z0 hb1.size;have hwl:=JP (wordL l);have G:=Zh g1;clear hb1 hb0 g0 z0 hCW HC g1;have hwn:(wordL l).length≤281474976710656:=by omega
 have cP:=Jer (wordL l) 0 1125899906842624 w1 hwn (hL.below hB);have HP:∀ o,parseI (wordL l) 0 1125899906842624=o→Hid (tokF l=o.map fun n=>(⟨1,[],n,0⟩,(wordL l).length)):=fun o h=>by unfold Hid; rw[HF.out,h]
 clear HF hcell;generalize hpo:parseI (wordL l) 0 1125899906842624=o at *;have HT:=HP o rfl;clear HP hpo;generalize hwd:wordL l=wd at *;clear hwd
 cases o with
 | some m=>
  go_wp2_with fail;refine (Calls.mono cP ?_);rintro e w2 ⟨rfl,hb2⟩;have G:=Zh ((hb2.block _ z1).trans G.out);have hB:=hB.trans (hb2.mono hB.size);clear hb2 cP;have q0:w2.cell? ⟨w.heap.size,0,none⟩=some (.int .i64 0):=by rw[cell_of_row _ _ _ _ _ _ G.out]; rfl
  have q1:w2.cell? ⟨w.heap.size,1,none⟩=some (.string ⟨#[]⟩):=by rw[cell_of_row _ _ _ _ _ _ G.out]; rfl
  have q2:w2.cell? ⟨w.heap.size,2,none⟩=some (.int .i64 0):=by rw[cell_of_row _ _ _ _ _ _ G.out]; rfl
  have q3:w2.cell? ⟨w.heap.size,3,none⟩=some (.int .i64 0):=by rw[cell_of_row _ _ _ _ _ _ G.out]; rfl
  have f0:=frozen_of_row _ _ 0 _ _ G.out;have f1:=frozen_of_row _ _ 1 _ _ G.out;have f2:=frozen_of_row _ _ 2 _ _ G.out;have f3:=frozen_of_row _ _ 3 _ _ G.out;go_wp2_with fail;refine bodyPost_ret (JS rfl _ _ w.heap.size 105 #[.int .i64 1,.string (⟨#[]⟩),.int .i64 m,.int .i64 0] (0,0) _ rfl (blk4 _ _ _ _ G.out) underlying105 rfl info25) rfl ?_;rw[HT.out];exact Ky (t:=⟨1,[],m,0⟩) rfl (by intro u k h; injection h with h; injection h with h1 h2; subst h1; subst h2; exact ⟨rfl,rfl⟩) (Ke _ _ _ _ hB zzl)
 | none=>
  go_wp2_with fail;refine (Calls.mono cP ?_);rintro e w2 ⟨rfl,hb2⟩;have G:=Zh ((hb2.block _ z1).trans G.out);have hB:=hB.trans (hb2.mono hB.size);clear hb2 cP;have q0:w2.cell? ⟨w.heap.size,0,none⟩=some (.int .i64 0):=by rw[cell_of_row _ _ _ _ _ _ G.out]; rfl
  have q1:w2.cell? ⟨w.heap.size,1,none⟩=some (.string ⟨#[]⟩):=by rw[cell_of_row _ _ _ _ _ _ G.out]; rfl
  have q2:w2.cell? ⟨w.heap.size,2,none⟩=some (.int .i64 0):=by rw[cell_of_row _ _ _ _ _ _ G.out]; rfl
  have q3:w2.cell? ⟨w.heap.size,3,none⟩=some (.int .i64 0):=by rw[cell_of_row _ _ _ _ _ _ G.out]; rfl
  have f0:=frozen_of_row _ _ 0 _ _ G.out;have f1:=frozen_of_row _ _ 1 _ _ G.out;have f2:=frozen_of_row _ _ 2 _ _ G.out;have f3:=frozen_of_row _ _ 3 _ _ G.out;go_wp2_with fail;refine bodyPost_ret (JS rfl _ _ w.heap.size 105 #[.int .i64 1,.string (⟨#[]⟩),.int .i64 0,.int .i64 0] (0,0) _ rfl (blk4 _ _ _ _ G.out) underlying105 rfl info25) rfl ?_;rw[HT.out];exact Ky (t:=⟨1,[],0,0⟩) rfl (by intro u k h; cases h) (Ke _ _ _ _ hB zzl)
theorem JbM (c:UInt8) (r:List UInt8) (p:Nat) (w:World) (hC:ClsAt w p) (hp:p<w.heap.size) (hl:(c::r).length≤281474976710655) (hc:c=34) (hL:Laid w) :
  Calls prog 62 #[.pointer (some ⟨p,0,none⟩),.string (bs (c::r))] w (TokPost (tokF (c::r)) w):=by
 have HF:Hid (tokF (c::r)=(textF 25 r).map fun w=>(⟨2,w,0,0⟩,w.length+2)):=by
  unfold Hid;subst hc;simp only[tokF];rw[if_neg (by decide),if_neg (by decide),if_pos trivial]
 obtain ⟨l,hLl⟩:∃ l,l=c::r:=⟨_,rfl⟩
 have hg:∀ h,((bs l)[0]'h).toNat=c.toNat:=by rw[hLl]; intro h; rfl
 have hlen:l.length=r.length+1:=by rw[hLl]; rfl
 have hpos:0<l.length:=by omega
 have hcell:=hC c.toNat c.toNat_lt;rw[Jic.1 hc] at hcell;have hx:c.toNat<256:=c.toNat_lt;rw[← hLl] at hl HF ⊢;have hs:=JP l;have hwle:=Yv l;have hex:(bs l).extract 1 l.length=bs r:=by rw[KH,hLl]; simp
 have hrl:r.length≤281474976710655:=by omega
 have hpos1:1≤l.length:=by omega
 clear hLl hlen;generalize c.toNat=x at *;have HC:=Zh hC;clear hC;go_enter func62,ntmps62;go_wp2;go_quiet (fail);go_wp2_with fail;obtain ⟨W,hW⟩:∃ W,W=(w.alloc (.cells #[.int .i64 0,.string ⟨#[]⟩,.int .i64 0,.int .i64 0] 105)).drewN nq:=⟨_,rfl⟩
 have hb0:Below w.heap.size w W:=by rw[hW]; exact J2 (zzb.alloc zzl _) _
 have g0:W.heap[w.heap.size]?=some (.cells #[.int .i64 0,.string ⟨#[]⟩,.int .i64 0,.int .i64 0] 105 (0,0)):=by rw[hW]; exact zzw w _
 have z0:w.heap.size<W.heap.size:=by rw[hW]; show _<(w.alloc _).heap.size; simp
 rw[← hW];clear hW;have hCW:=HC.out.below hb0 hp;have cT:=JbJ r W (by omega)
 cases ho:textF 25 r with
 | some v=>
  have HT:Hid (tokF l=some (⟨2,v,0,0⟩,v.length+2)):=by unfold Hid; rw[HF.out,ho]; rfl
  rw[ho] at cT;have hv:v.length≤24:=by have:=Vc _ _ _ ho; omega
  clear HF hcell ho;refine (Calls.mono cT ?_);rintro e w1 ⟨rfl,rfl⟩;have hvs:=JP v;have G:=Zh g0;have hB:=hb0;clear hb0 g0 z0 hCW HC cT;have q0:W.cell? ⟨w.heap.size,0,none⟩=some (.int .i64 0):=by rw[cell_of_row _ _ _ _ _ _ G.out]; rfl
  have q1:W.cell? ⟨w.heap.size,1,none⟩=some (.string ⟨#[]⟩):=by rw[cell_of_row _ _ _ _ _ _ G.out]; rfl
  have q2:W.cell? ⟨w.heap.size,2,none⟩=some (.int .i64 0):=by rw[cell_of_row _ _ _ _ _ _ G.out]; rfl
  have q3:W.cell? ⟨w.heap.size,3,none⟩=some (.int .i64 0):=by rw[cell_of_row _ _ _ _ _ _ G.out]; rfl
  have f0:=frozen_of_row _ _ 0 _ _ G.out;have f1:=frozen_of_row _ _ 1 _ _ G.out;have f2:=frozen_of_row _ _ 2 _ _ G.out;have f3:=frozen_of_row _ _ 3 _ _ G.out;go_wp2_with fail;refine bodyPost_ret (JS rfl _ _ w.heap.size 105 #[.int .i64 2,.string (bs v),.int .i64 0,.int .i64 0] (0,0) _ rfl (blk4 _ _ _ _ G.out) underlying105 rfl info25) rfl ?_;rw[HT.out];exact Ky (t:=⟨2,v,0,0⟩) rfl (by intro u k h; injection h with h; injection h with h1 h2; subst h1; subst h2; exact ⟨rfl,(by simp)⟩) (Ke _ _ _ _ hB zzl)
 | none=>
  have HT:Hid (tokF l=none):=by unfold Hid; rw[HF.out,ho]; rfl
  rw[ho] at cT;clear HF hcell ho;refine (Calls.mono cT ?_);rintro e w1 ⟨rfl,rfl⟩;have hvs:=JP [];have G:=Zh g0;have hB:=hb0;clear hb0 g0 z0 hCW HC cT;have q0:W.cell? ⟨w.heap.size,0,none⟩=some (.int .i64 0):=by rw[cell_of_row _ _ _ _ _ _ G.out]; rfl
  have q1:W.cell? ⟨w.heap.size,1,none⟩=some (.string ⟨#[]⟩):=by rw[cell_of_row _ _ _ _ _ _ G.out]; rfl
  have q2:W.cell? ⟨w.heap.size,2,none⟩=some (.int .i64 0):=by rw[cell_of_row _ _ _ _ _ _ G.out]; rfl
  have q3:W.cell? ⟨w.heap.size,3,none⟩=some (.int .i64 0):=by rw[cell_of_row _ _ _ _ _ _ G.out]; rfl
  have f0:=frozen_of_row _ _ 0 _ _ G.out;have f1:=frozen_of_row _ _ 1 _ _ G.out;have f2:=frozen_of_row _ _ 2 _ _ G.out;have f3:=frozen_of_row _ _ 3 _ _ G.out;go_wp2_with fail;refine bodyPost_ret (JS rfl _ _ w.heap.size 105 #[.int .i64 2,.string (bs []),.int .i64 0,.int .i64 0] (0,0) _ rfl (blk4 _ _ _ _ G.out) underlying105 rfl info25) rfl ?_;rw[HT.out];exact Ky (t:=⟨2,[],0,0⟩) rfl (by intro u k h; cases h) (Ke _ _ _ _ hB zzl)
theorem Jdw (c:UInt8) (r:List UInt8) (p:Nat) (w:World) (hC:ClsAt w p) (hp:p<w.heap.size) (hl:(c::r).length≤281474976710655) (hc0:isLe c=false) (hc1:isDi c=false) (hc2:c≠34) (hL:Laid w) :
  Calls prog 62 #[.pointer (some ⟨p,0,none⟩),.string (bs (c::r))] w (TokPost (tokF (c::r)) w):=by
 have HF:Hid (tokF (c::r)=if signL (c::r)=[] then none else some (⟨3,signL (c::r),0,0⟩,(signL (c::r)).length)):=by
  unfold Hid;simp only[tokF];rw[if_neg (by simp[hc0]),if_neg (by simp[hc1]),if_neg hc2]
 have k2:((clsN c.toNat:Nat):Int)≠2:=fun h=>by
  have h':clsN c.toNat=2:=by omega
  rw[Jev.2 h'] at hc0; cases hc0
 have k3:((clsN c.toNat:Nat):Int)≠3:=fun h=>by
  have h':clsN c.toNat=3:=by omega
  rw[Jew.2 h'] at hc1; cases hc1
 have k5:((clsN c.toNat:Nat):Int)≠5:=fun h=>by
  have h':clsN c.toNat=5:=by omega
  exact hc2 (Jic.2 h')
 have e2:(((clsN c.toNat:Nat):Int)==2)=false:=zzq k2;have e3:(((clsN c.toNat:Nat):Int)==3)=false:=zzq k3;have e5:(((clsN c.toNat:Nat):Int)==5)=false:=zzq k5;clear k2 k3 k5;have cS:=fun W=>JbK c r W (by omega)
 obtain ⟨l,hLl⟩:∃ l,l=c::r:=⟨_,rfl⟩
 have hg:∀ h,((bs l)[0]'h).toNat=c.toNat:=by rw[hLl]; intro h; rfl
 have hlen:l.length=r.length+1:=by rw[hLl]; rfl
 have hpos:0<l.length:=by omega
 have hcell:=hC c.toNat c.toNat_lt;have hx:c.toNat<256:=c.toNat_lt;rw[← hLl] at hl HF cS ⊢;have hs:=JP l;have hwle:=Yv l;clear hLl hlen;generalize c.toNat=x at *;generalize clsN x=cn at *;have HC:=Zh hC;clear hC;go_enter func62,ntmps62;go_wp2;go_quiet (fail);go_wp2_with fail;obtain ⟨W,hW⟩:∃ W,W=(w.alloc (.cells #[.int .i64 0,.string ⟨#[]⟩,.int .i64 0,.int .i64 0] 105)).drewN nq:=⟨_,rfl⟩
 have hb0:Below w.heap.size w W:=by rw[hW]; exact J2 (zzb.alloc zzl _) _
 have g0:W.heap[w.heap.size]?=some (.cells #[.int .i64 0,.string ⟨#[]⟩,.int .i64 0,.int .i64 0] 105 (0,0)):=by rw[hW]; exact zzw w _
 have z0:w.heap.size<W.heap.size:=by rw[hW]; show _<(w.alloc _).heap.size; simp
 rw[← hW];clear hW;have hCW:=HC.out.below hb0 hp;have hsl:=ZU l
 by_cases h0:signL l=[]
 ·have HT:Hid (tokF l=none):=by unfold Hid; rw[HF.out,if_pos h0]
  rw[h0] at cS;clear HF hcell h0;refine (cS _).mono ?_;rintro e w1 ⟨rfl,rfl⟩;have hvs:=JP [];have tl:=Jk [];have G:=Zh g0;have hB:=hb0;clear hb0 g0 z0 hCW HC cS hsl;have q0:W.cell? ⟨w.heap.size,0,none⟩=some (.int .i64 0):=by rw[cell_of_row _ _ _ _ _ _ G.out]; rfl
  have q1:W.cell? ⟨w.heap.size,1,none⟩=some (.string ⟨#[]⟩):=by rw[cell_of_row _ _ _ _ _ _ G.out]; rfl
  have q2:W.cell? ⟨w.heap.size,2,none⟩=some (.int .i64 0):=by rw[cell_of_row _ _ _ _ _ _ G.out]; rfl
  have q3:W.cell? ⟨w.heap.size,3,none⟩=some (.int .i64 0):=by rw[cell_of_row _ _ _ _ _ _ G.out]; rfl
  have f0:=frozen_of_row _ _ 0 _ _ G.out;have f1:=frozen_of_row _ _ 1 _ _ G.out;have f2:=frozen_of_row _ _ 2 _ _ G.out;have f3:=frozen_of_row _ _ 3 _ _ G.out;go_wp2_with fail;refine bodyPost_ret (JS rfl _ _ w.heap.size 105 #[.int .i64 3,.string (bs []),.int .i64 0,.int .i64 0] (0,0) _ rfl (blk4 _ _ _ _ G.out) underlying105 rfl info25) rfl ?_;rw[HT.out];exact Ky (t:=⟨3,[],0,0⟩) rfl (by intro u k h; cases h) (Ke _ _ _ _ hB zzl)
 ·have HT:Hid (tokF l=some (⟨3,signL l,0,0⟩,(signL l).length)):=by unfold Hid; rw[HF.out,if_neg h0]
  clear HF hcell;generalize hsg:signL l=sg at *;clear hsg;refine (cS _).mono ?_;rintro e w1 ⟨rfl,rfl⟩;have hvs:=JP sg;have tl:=Jk sg;have i0:sg.isEmpty=false:=by simpa using h0
  have hsgl:sg.length≤2:=hsl.2.1;have G:=Zh g0;have hB:=hb0;clear hb0 g0 z0 hCW HC cS hsl h0;have q0:W.cell? ⟨w.heap.size,0,none⟩=some (.int .i64 0):=by rw[cell_of_row _ _ _ _ _ _ G.out]; rfl
  have q1:W.cell? ⟨w.heap.size,1,none⟩=some (.string ⟨#[]⟩):=by rw[cell_of_row _ _ _ _ _ _ G.out]; rfl
  have q2:W.cell? ⟨w.heap.size,2,none⟩=some (.int .i64 0):=by rw[cell_of_row _ _ _ _ _ _ G.out]; rfl
  have q3:W.cell? ⟨w.heap.size,3,none⟩=some (.int .i64 0):=by rw[cell_of_row _ _ _ _ _ _ G.out]; rfl
  have f0:=frozen_of_row _ _ 0 _ _ G.out;have f1:=frozen_of_row _ _ 1 _ _ G.out;have f2:=frozen_of_row _ _ 2 _ _ G.out;have f3:=frozen_of_row _ _ 3 _ _ G.out;go_wp2_with fail;refine bodyPost_ret (JS rfl _ _ w.heap.size 105 #[.int .i64 3,.string (bs sg),.int .i64 0,.int .i64 0] (0,0) _ rfl (blk4 _ _ _ _ G.out) underlying105 rfl info25) rfl ?_;rw[HT.out];exact Ky (t:=⟨3,sg,0,0⟩) rfl (by intro u k h; injection h with h; injection h with h1 h2; subst h1; subst h2; exact ⟨rfl,rfl⟩) (Ke _ _ _ _ hB zzl)
theorem Jaq (c:UInt8) (r:List UInt8) (p:Nat) (w:World) (hC:ClsAt w p) (hp:p<w.heap.size) (hl:(c::r).length≤281474976710655) (hL:Laid w) :
  Calls prog 62 #[.pointer (some ⟨p,0,none⟩),.string (bs (c::r))] w (TokPost (tokF (c::r)) w):=by
 cases h1:isLe c with
 | true=>exact Jap c r p w hC hp hl h1 hL
 | false=>
  cases h2:isDi c with
  | true=>exact JbL c r p w hC hp hl h2 h1 hL
  | false=>
   by_cases h3:c=34
   ·exact JbM c r p w hC hp hl h3 hL
   ·exact Jdw c r p w hC hp hl h1 h2 h3 hL
def tokCells:List Tok→List Value
 | []=>[]
 | t::l=>[.int .i64 t.kind,.string (bs t.text),.int .i64 t.n,.int .i64 t.off]++tokCells l
theorem KZ (a b:List Tok):tokCells (a++b)=tokCells a++tokCells b:=by
 induction a with
 | nil=>rfl
 | cons t a ih=>simp[tokCells,ih]
def Scan.prep (us:List Tok):Scan→Scan
 | .ok ts=>.ok (us++ts)
 | .err k=>.err k
theorem JgD (s:Scan):s.prep []=s:=by cases s <;> rfl
theorem Jey (us:List Tok) (t:Tok) (s:Scan):(s.push t).prep us=s.prep (us++[t]):=by cases s <;> simp[Scan.push,Scan.prep]
def scanR (l:List UInt8):List Tok × Int × Int:=
 if 4096<l.length then ([],7,0) else match sc 0 l with
  | .ok ts=>(ts,0,0)
  | .err k=>([],2,(k:Nat))
def ScanPost (R:List Tok × Int × Int) (w:World) (e:Ending) (w':World):Prop:=
 ∃ v,e=.returned (.tuple #[v,.int .i64 R.2.1,.int .i64 R.2.2])∧w'.ownsRow w.heap.size 105 4 v R.1.length (tokCells R.1)∧Below w.heap.size w w'
theorem Z0 {w:World} {base e size n:Nat} {v:Value} {xs:List Value} (h:w.ownsRow base e size v n xs):∃ a c,v=.slice a n c:=by
 rcases h.2 with ⟨rfl,rfl⟩ | ⟨g,cap,cur,rfl,_⟩
 ·exact ⟨_,_,rfl⟩
 ·exact ⟨_,_,rfl⟩
theorem Jiw {w:World} {base g n:Nat} {e t:Nat} {size:Nat} {v:Value} {xs:List Value} {cs:Array Value} {fr:Nat × Nat} (h:w.ownsRow base e size v n xs) (hg:w.heap[g]?=some (.cells cs t fr)) (hne:e≠t):v.ownBlock≠some g:=by
 rcases h.2 with ⟨rfl,_⟩ | ⟨g',cap,cur,rfl,_,hh,_⟩
 ·simp[Value.ownBlock]
 ·intro he;have:g'=g:=by simpa[Value.ownBlock] using he
  subst this;rw[hh] at hg;injection hg with hg;injection hg with _ ht;exact hne ht
theorem Jdx {w w':World} {base n e size:Nat} {v:Value} {xs:List Value} (h:w.ownsRow base e size v n xs) (hb:Below w.heap.size w w'):w'.ownsRow base e size v n xs:=by
 refine ⟨h.1,?_⟩
 rcases h.2 with ⟨rfl,rfl⟩ | ⟨g,cap,cur,rfl,hg,hh,q⟩
 ·exact .inl ⟨rfl,rfl⟩
 ·exact .inr ⟨g,cap,cur,rfl,hg,(hb.block g (Array.getElem?_eq_some_iff.1 hh).1).trans hh,q⟩
theorem wx86 {P:Prop}(h:P:=by
  have hadd:(⟨w.heap.size,0,none⟩:Addr).add j=⟨w.heap.size,j,none⟩:=by unfold Addr.add; split <;> simp_all
  rw[hadd]
  exact cell_of_row _ _ _ _ _ (0,0) (zzw w _)):P:=h
theorem Z1 (w:World) (cs:Array Value) (e:TypeId) (j:Nat):(w.alloc (.cells cs e)).cell? ((⟨w.heap.size,0,none⟩:Addr).add j)=cs[j]?:=by
 exact wx86
theorem Jar {w:World} {base e size n:Nat} {v:Value} {xs:List Value} (h:w.ownsRow base e size v n xs):∀ k,v.ownBlock=some k→base≤k:=by
 intro k hk;exact (World.ownsRow.lt h k hk).1
theorem Zd (w:World) (o:Obj) (cs:Array Value) (e:TypeId) (j:Nat):((w.alloc o).alloc (.cells cs e)).cell? ((⟨w.heap.size+1,0,none⟩:Addr).add j)=cs[j]?:=by
 have hadd:(⟨w.heap.size+1,0,none⟩:Addr).add j=⟨w.heap.size+1,j,none⟩:=by unfold Addr.add; split <;> simp_all
 rw[hadd];exact cell_of_row _ _ _ _ _ (0,0) (heap_alloc2_new w _ _)
theorem Jdy {c:UInt8} {r:List UInt8} {t:Tok} {n:Nat} (p:Nat) (w:World) (hC:ClsAt w p) (hp:p<w.heap.size) (hl:(c::r).length≤281474976710655) (hL:Laid w) (h:tokF (c::r)=some (t,n)) :
  Calls prog 62 #[.pointer (some ⟨p,0,none⟩),.string (bs (c::r))] w (fun e w'=>e=.returned (.tuple #[.agg #[.int .i64 t.kind,.string (bs t.text),.int .i64 t.n,.int .i64 0],.int .i64 n,.bool true])∧Below w.heap.size w w'):=by
 have hf:=(Yw h).2.2.2.2.2;refine (Jaq c r p w hC hp hl hL).mono ?_;rintro e w' ⟨⟨u,m,rfl,hu⟩,hb⟩;obtain ⟨rfl,rfl⟩:=hu t n h;refine ⟨?_,hb⟩;rw[h];simp only[tokV,hf];rfl
theorem Jdz {c:UInt8} {r:List UInt8} (p:Nat) (w:World) (hC:ClsAt w p) (hp:p<w.heap.size) (hl:(c::r).length≤281474976710655) (hL:Laid w) (h:tokF (c::r)=none) :
  Calls prog 62 #[.pointer (some ⟨p,0,none⟩),.string (bs (c::r))] w (fun e w'=>∃ (a b d m:Int) (x:ByteArray),e=.returned (.tuple #[.agg #[.int .i64 a,.string x,.int .i64 b,.int .i64 d],.int .i64 m,.bool false])∧Below w.heap.size w w'):=by
 refine (Jaq c r p w hC hp hl hL).mono ?_;rintro e w' ⟨⟨u,m,rfl,hu⟩,hb⟩;refine ⟨u.kind,u.n,u.off,m,bs u.text,?_,hb⟩;rw[h];rfl
theorem Jez (l:List UInt8) (w:World) (h:4096<l.length) (hl:l.length≤281474976710655):Calls prog 32 #[.string (bs l)] w (ScanPost (scanR l) w):=by
 have HR:Hid (scanR l=([],7,0)):=by unfold Hid scanR; rw[if_pos h]
 have hs:=JP l;have d1:decide (4096<(l.length:Int))=true:=decide_eq_true (by omega);clear h;go_enter func32,ntmps32;go_wp2;go_ret3;rw[HR.out];exact ⟨_,rfl,World.ownsRow_nil _ _ _ _,Below.refl _ _⟩
theorem info22:(prog.info? 105).map (fun i=>(i.zero,i.size,i.bytes))=some (some (.agg #[.int .i64 0,.string ⟨#[]⟩,.int .i64 0,.int .i64 0]),4,40):=by kernel_rfl
theorem JgE (l:List UInt8) (w:World) (h:l.length≤4096) (hL:Laid w):Calls prog 32 #[.string (bs l)] w (ScanPost (scanR l) w):=by
 have HR:Hid (scanR l=match sc 0 l with | .ok ts=>(ts,0,0) | .err k=>([],2,(k:Nat))):=by unfold Hid scanR; rw[if_neg (by omega)]
 have hs:=JP l;have d1:decide (4096<(l.length:Int))=false:=decide_eq_false (by omega);obtain ⟨i0,hi,hz0,hz1,hz2⟩:=info_parts info22;go_enter func32,ntmps32;go_wp2_with fail;refine (JbH w).mono ?_;rintro e w1 ⟨rfl,hb1⟩;have g0:(w1.alloc (.cells Tryz.zeroCells102 102)).heap[w1.heap.size]?=some (.cells (tab zf) 102 (0,0)):=by rw[zzw,ZY]
 have G0:=Zh g0;clear g0;go_wp2_with (refine wpList_store_row rfl 102 (.tmp 5) (.tmp 14) rfl w1.heap.size (tab clsN) rfl rfl 102 (tab zf) G0.out (by rw[Kb]; exact info37) (by rw[Kb,Kb]) (Jeu _) ?_);obtain ⟨B,hBz⟩:∃ B,w1.heap.size=B:=⟨_,rfl⟩
 have hbW:Below w.heap.size w ((w1.alloc (.cells Tryz.zeroCells102 102)).setRow w1.heap.size (tab clsN)):=below_setRow (hb1.alloc hb1.size _) hb1.size _;have gB:((w1.alloc (.cells Tryz.zeroCells102 102)).setRow w1.heap.size (tab clsN)).heap[B]?=some (.cells (tab clsN) 102 (0,0)):=by rw[← hBz]; exact setRow_heap _ _ (tab zf) _ _ _ G0.out
 have hBw:w.heap.size≤B:=by rw[← hBz]; exact hb1.size
 generalize (w1.alloc (.cells Tryz.zeroCells102 102)).setRow w1.heap.size (tab clsN)=W2 at *;rw[hBz];clear hBz G0 hb1;go_loopw [6,7] (fun v6 v7 wr=>∃ (us:List Tok) (k:Nat),k≤l.length∧v7=.int .i64 k∧us.length≤k∧wr.ownsRow w.heap.size 105 4 v6 us.length (tokCells us)∧wr.heap[B]?=some (.cells (tab clsN) 102 (0,0))∧Below w.heap.size w wr∧Hid (sc 0 l=(sc k (l.drop k)).prep us)) (fun _ v7 _=>l.length-(intOf v7).toNat)
 case atStart=>exact ⟨[],0,by omega,rfl,by simp,World.ownsRow_nil _ _ _ _,gB,hbW,by unfold Hid; rw[JgD]; rfl⟩
 case round=>
  obtain ⟨us,k,hk,rfl,huk,hown,gB,hbr,HS⟩:=hrel;have hc0:=fun (j:Nat)=>cell_of_row wr B j _ _ _ gB
  obtain ⟨va,vc,rfl⟩:=Z0 hown
  by_cases hlt:k<l.length
  ·have hg:=Jit l hlt;have hx:l[k].toNat<256:=l[k].toNat_lt;have hcell:=hc0 l[k].toNat;rw[VT _ hx] at hcell;clear hc0;have HD:=Zh (List.drop_eq_getElem_cons hlt);obtain ⟨c,hce⟩:∃ c,l[k]=c:=⟨_,rfl⟩
   rw[hce] at HD hg hcell hx
   cases hsp:isSp c with
   | true=>
    have hc1:=Jib.1 hsp;rw[hc1] at hcell;have H:Hid (sc 0 l=(sc (k+1) (l.drop (k+1))).prep us):=by unfold Hid; rw[HS.out,HD.out,JgB k _ hsp]
    have HO:=Zh hown;have HB:=Zh gB;clear hc1 hce HS hown gB;generalize c.toNat=x at *;go_wp2;go_roundw
    case rel=>exact ⟨us,k+1,by omega,by go_num,by omega,HO.out,HB.out,hbr,H⟩
    case measure=>simp[intOf]; omega
   | false=>
    have hc1:((clsN c.toNat:Nat):Int)≠1:=fun h=>by
     have h':clsN c.toNat=1:=by omega
     rw[Jib.2 h'] at hsp; cases hsp
    have e1:(((clsN c.toNat:Nat):Int)==1)=false:=zzq hc1;have hex:(bs l).extract k l.length=bs (c::l.drop (k+1)):=by rw[KH,List.take_of_length_le (by simp),HD.out]
    have hdl:(c::l.drop (k+1)).length≤4096:=by simp; omega
    have hCl:ClsAt wr B:=fun i hi=>by rw[cell_of_row _ _ _ _ _ _ gB,VT _ hi]
    have hBr:=(Array.getElem?_eq_some_iff.1 gB).1
    cases ht:tokF (c::l.drop (k+1)) with
    | none=>
     have cT:=Jdz B wr hCl hBr (by omega) (hL.below hbr) ht;have H:Hid (scanR l=([],2,((k:Nat):Int))):=by unfold Hid; rw[HR.out,HS.out,HD.out,ZV k _ hsp ht]; rfl
     clear hc1 hce HS hown gB hCl;generalize clsN c.toNat=cn at *;generalize c.toNat=x at *;go_wp2_with fail;refine (Calls.mono cT ?_);rintro e w3 ⟨fa,fb,fd,fm,fx,rfl,hb3⟩;have hbx:=hbr.trans (hb3.mono hbr.size);clear hb3 cT;go_wp2_with fail;go_ret3;rw[H.out];exact ⟨_,rfl,World.ownsRow_nil _ _ _ _,hbx.alloc hbx.size _⟩
    | some q=>
     obtain ⟨t,n⟩:=q;have hw:=Jao ht;have cT:=Jdy B wr hCl hBr (by omega) (hL.below hbr) ht
     have H:Hid (sc 0 l=(sc (k+n) (l.drop (k+n))).prep (us++[{ t with off:=(k:Int) }])):=by
      unfold Hid;rw[HS.out,HD.out,ZW k _ hsp ht,Jey,← HD.out,List.drop_drop]
     have hn:k+n≤l.length:=by
      have h1:=hw.2.2.1;rw[← HD.out,List.length_drop] at h1;omega
     have hn1:=hw.2.1;obtain ⟨tk,tt,tn,to⟩:=t;have HO:=Zh hown;have HB:=Zh gB;clear hc1 hce HS hown gB hCl hw ht;generalize clsN c.toNat=cn at *;generalize c.toNat=x at *;go_wp2_with fail;refine (Calls.mono cT ?_);rintro e w3 ⟨rfl,hb3⟩;have hown3:=Jdx HO.out hb3;have HB3:=Zh ((hb3.block _ hBr).trans HB.out);have hbx:=hbr.trans (hb3.mono hbr.size);have hBr3:B<w3.heap.size:=Nat.lt_of_lt_of_le hBr hb3.size;clear hb3 cT HO HB;have HO3:=Zh hown3;clear hown3;have hu63:us.length+1≤5000:=by omega
     go_wp2_with (at_builtin; refine wpList_append_own _ rfl _ _ 65 rfl w.heap.size 105 i0 (.agg #[.int .i64 0,.string ⟨#[]⟩,.int .i64 0,.int .i64 0]) 4 40 underlying65 hi hz0 hz1 hz2 rfl (by decide) _ _ _ rfl ((HO3.out.alloc _).alloc _) ⟨w3.heap.size+1,0,none⟩ 1 1 [.int .i64 tk,.string (bs tt),.int .i64 tn,.int .i64 (k:Nat)] rfl rfl ?c1 ?c2 ?c3 ?c4 ?c5 ?_)
     case c1=>
      intro j u hj;rw[Zd];simpa using hj
     case c2=>intro u hu; simp at hu; rcases hu with rfl | rfl | rfl | rfl <;> rfl
     case c3=>unfold maxLen; omega
     case c4=>omega
     case c5=>simp; exact Nat.le_trans hbx.size (by omega)
     intro v' w' hown' hgrow _;have hbA:=(hbx.alloc hbx.size (.cells #[.int .i64 tk,.string (bs tt),.int .i64 tn,.int .i64 (k:Nat)] 105)).alloc (by simp; exact Nat.le_trans hbx.size (by omega)) (.cells #[.int .i64 tk,.string (bs tt),.int .i64 tn,.int .i64 (k:Nat)] 105);have hsz:=hbA.size;have hbG:=hbA.grown hgrow hsz (Jar HO3.out)
     have hBB:((w3.alloc (.cells #[.int .i64 tk,.string (bs tt),.int .i64 tn,.int .i64 (k:Nat)] 105)).alloc (.cells #[.int .i64 tk,.string (bs tt),.int .i64 tn,.int .i64 (k:Nat)] 105)).heap[B]?=some (.cells (tab clsN) 102 (0,0)):=by
      rw[heap_alloc_old _ _ (by simp; omega),heap_alloc_old _ _ hBr3]; exact HB3.out
     have HBB:=Zh ((hgrow.block B (by simp; omega) (fun e=>Jiw HO3.out HB3.out (by decide) e.symm)).trans hBB)
     have HOW:Hid (w'.ownsRow w.heap.size 105 4 v' (us++[(⟨tk,tt,tn,(k:Nat)⟩:Tok)]).length (tokCells (us++[(⟨tk,tt,tn,(k:Nat)⟩:Tok)]))):=by
      unfold Hid;rw[List.length_append,KZ];exact hown'
     clear hown' hgrow hbA hsz hBB HO3 HB3;go_wp2;go_roundw
     case rel=>exact ⟨us++[(⟨tk,tt,tn,(k:Nat)⟩:Tok)],k+n,by omega,by go_num,by simp; omega,HOW.out,HBB.out,hbG,H⟩
     case measure=>simp[intOf]; omega
  ·have hkl:k=l.length:=by omega
   have H:Hid (scanR l=(us++[⟨4,[],0,(l.length:Nat)⟩],0,0)):=by
    unfold Hid;rw[HR.out,HS.out,hkl,List.drop_length,JcB];rfl
   subst hkl;have HO3:=Zh hown;clear hown gB hc0 HS;have hu63:us.length+1≤5000:=by omega
   go_wp2_with (at_builtin; refine wpList_append_own _ rfl _ _ 65 rfl w.heap.size 105 i0 (.agg #[.int .i64 0,.string ⟨#[]⟩,.int .i64 0,.int .i64 0]) 4 40 underlying65 hi hz0 hz1 hz2 rfl (by decide) _ _ _ rfl (HO3.out.alloc _) ⟨wr.heap.size,0,none⟩ 1 1 [.int .i64 4,.string ⟨#[]⟩,.int .i64 0,.int .i64 (l.length:Nat)] rfl rfl ?d1 ?d2 ?d3 ?d4 ?d5 ?_)
   case d1=>
    intro j u hj;rw[Z1];simpa using hj
   case d2=>intro u hu; simp at hu; rcases hu with rfl | rfl | rfl | rfl <;> rfl
   case d3=>unfold maxLen; omega
   case d4=>omega
   case d5=>simp; exact Nat.le_trans hbr.size (by omega)
   intro v' w' hown' hgrow _;have hbA:=hbr.alloc hbr.size (.cells #[.int .i64 4,.string ⟨#[]⟩,.int .i64 0,.int .i64 (l.length:Nat)] 105);have hbG:=hbA.grown hgrow hbA.size (Jar HO3.out)
   have HOW:Hid (w'.ownsRow w.heap.size 105 4 v' (us++[(⟨4,[],0,(l.length:Nat)⟩:Tok)]).length (tokCells (us++[(⟨4,[],0,(l.length:Nat)⟩:Tok)]))):=by
    unfold Hid;rw[List.length_append,KZ];exact hown'
   clear hown' hgrow hbA HO3;go_wp2_with fail;go_ret3;rw[H.out];exact ⟨_,rfl,HOW.out,hbG⟩
theorem JcC (l:List UInt8) (w:World) (hl:l.length≤281474976710655) (hL:Laid w):Calls prog 32 #[.string (bs l)] w (ScanPost (scanR l) w):=by
 by_cases h:4096<l.length
 ·exact Jez l w h hl
 ·exact JgE l w (by omega) hL
end Go.Proofs.YtncanmdgdflnpaaGreatDoor
namespace Go.Proofs.YtncanmdgdflnpaaGreatDoor
open Go.RowKit
open _root_.Go.Proofs.Tryz
set_option linter.all false
set_option maxRecDepth 100000
set_option maxHeartbeats 32000000
structure Chg (S:List Nat) (w w':World):Prop where
 os:w'.os=w.os
 tape:w'.tape=w.tape
 output:w'.output=w.output
 size:w.heap.size≤w'.heap.size
 block:∀ k,k<w.heap.size→k∉S→w'.heap[k]?=w.heap[k]?
section
variable {S S':List Nat} {a w w' w1:World}
theorem Chg.refl (S:List Nat) (w:World):Chg S w w:=⟨rfl,rfl,rfl,Nat.le_refl _,fun _ _ _=>rfl⟩
theorem Chg.trans (h:Chg S w w1) (k:Chg S w1 w'):Chg S w w':=
 ⟨k.os.trans h.os,k.tape.trans h.tape,k.output.trans h.output,Nat.le_trans h.size k.size,fun i hi hn=>(k.block i (Nat.lt_of_lt_of_le hi h.size) hn).trans (h.block i hi hn)⟩
theorem Chg.mono (h:Chg S w w') (hs:∀ k,k∈S→k∈S'∨w.heap.size≤k):Chg S' w w':=
 ⟨h.os,h.tape,h.output,h.size,fun k hk hn=>h.block k hk (fun hm=>by rcases hs k hm with h1 | h1; exact hn h1; omega)⟩
theorem Chg.step (h:Chg S w w1) (k:Chg S' w1 w') (hs:∀ b,b∈S'→b∈S∨w.heap.size≤b):Chg S w w':=
 ⟨k.os.trans h.os,k.tape.trans h.tape,k.output.trans h.output,Nat.le_trans h.size k.size,fun i hi hn=>
  (k.block i (Nat.lt_of_lt_of_le hi h.size) (fun hm=>by rcases hs i hm with h1 | h1; exact hn h1; omega)).trans (h.block i hi hn)⟩
theorem Chg.drew (h:Chg S a w):Chg S a w.drew:=⟨h.os,h.tape,h.output,h.size,h.block⟩
theorem Chg.alloc (h:Chg S a w) (o:Obj):Chg S a (w.alloc o):=
 h.trans ⟨rfl,rfl,rfl,by simp,fun k hk _=>Below.heap_alloc _ _ _ hk⟩
theorem Chg.setCell (h:Chg S a w) {p:Addr} (hp:p.block∈S∨a.heap.size≤p.block) (u:Value):Chg S a (w.setCell p u):=
 h.step (S':=[p.block]) ⟨rfl,rfl,rfl,by simp[World.setCell],fun k _ hn=>Below.heap_setCell _ _ _ _ (by simpa using hn)⟩ (by simpa using hp)
theorem Chg.of_below (h:Below w.heap.size w w') (S:List Nat):Chg S w w':=⟨h.os,h.tape,h.output,h.size,fun k hk _=>h.block k hk⟩
theorem Chg.of_grownBy {g:Nat} (h:w.grownBy w' (some g)):Chg [g] w w':=⟨h.os,h.tape,h.output,h.size,fun k hk hn=>h.block k hk (by simpa using hn)⟩
theorem Ze {p:Addr} {v:Value} (h:w.cell? p=some v):p.block<w.heap.size:=World.block_lt_of_cell? w p h
theorem Jb {k:Nat} {o:Obj} (h:w.heap[k]?=some o):k<w.heap.size:=(Array.getElem?_eq_some_iff.1 h).1
theorem Chg.heap_some {k:Nat} {o:Obj} (h:Chg S w w') (hn:k∉S) (hc:w.heap[k]?=some o):w'.heap[k]?=some o:=
 (h.block k (Jb hc) hn).trans hc
theorem Chg.cell_some {p:Addr} {v:Value} (h:Chg S w w') (hn:p.block∉S) (hc:w.cell? p=some v):w'.cell? p=some v:=
 (World.cell?_of_block (w:=w) (h.block p.block (Ze hc) hn)).trans hc
end
theorem Ja {w:World} {g:Nat} {cs:Array Value} {t:TypeId} {fr:Nat × Nat} (hg:w.heap[g]?=some (.cells cs t fr)) (j:Nat):w.cell? ⟨g,j,none⟩=cs[j]?:=
 cell_of_row w g j cs t fr hg
theorem Jc {w:World} {g:Nat} {cs:Array Value} {t:TypeId} (hg:w.heap[g]?=some (.cells cs t (0,0))) (j:Nat):w.frozen? ⟨g,j,none⟩=false:=by
 simp[World.frozen?,hg]
theorem JC {w:World} {g:Nat} {cs:Array Value} {t:TypeId} {fr:Nat × Nat} (hg:w.heap[g]?=some (.cells cs t fr)) (j:Nat) (u:Value) :
  (w.setCell ⟨g,j,none⟩ u).heap[g]?=some (.cells (cs.setIfInBounds j u) t fr):=by
 simp[World.setCell,Array.getElem?_modify,hg]
theorem Jh {w:World} {g:Nat} {p:Addr} {o:Obj} (hg:w.heap[g]?=some o) (hn:g≠p.block) (u:Value):(w.setCell p u).heap[g]?=some o:=
 (Below.heap_setCell w p u g hn).trans hg
end Go.Proofs.YtncanmdgdflnpaaGreatDoor
