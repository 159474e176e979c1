import Derived.Test.YtdlkcjkjnehnkaaGreatDoorE42
import Derived.Test.YtdlkcjkjnehnkaaGreatDoorE43
namespace Go.Proofs.YtdlkcjkjnehnkaaGreatDoor
open Go Go.Lib
open Go.ChangeShapes Go.WideShapes Go.ChangeAt Go.RowKit Go.Lib
open Go.RowKit
open Go
open _root_.Go.Proofs.Tryz
set_option linter.all false
set_option maxRecDepth 100000
set_option maxHeartbeats 32000000
theorem itoa_ne_nil (n:Int):itoa n≠[]:=by
 rcases V6 n with ⟨_,h⟩ | ⟨_,h⟩ <;> rw[h]
 ·exact V5 _
 ·simp
theorem itoa_length {n:Int} (h1:-9223372036854775808≤n) (h2:n≤9223372036854775807):(itoa n).length≤20∧1≤(itoa n).length:=by
 have hp:(10:Nat) ^ 19=10000000000000000000:=by decide
 have:=itoa_ne_nil n
 have h0:1≤(itoa n).length:=by
  cases h:itoa n with
  | nil=>exact absurd h this
  | cons c r=>simp
 refine ⟨?_,h0⟩
 rcases V6 n with ⟨_,h⟩ | ⟨_,h⟩ <;> rw[h]
 ·have:=ZJ n.toNat 19 (by omega) (by omega); omega
 ·have:=ZJ n.natAbs 19 (by omega) (by omega); simp; omega
theorem bs_append (a b:List UInt8):bs a++bs b=bs (a++b):=by
 apply ByteArray.ext;simp[bs]
def TokR (w:World) (A:Option Addr) (ts:List Tok):Prop:=
 ∀ (i:Nat) (t:Tok),ts[i]?=some t→∃ g o,A=some ⟨g,o,none⟩∧g<w.heap.size∧w.cell? ⟨g,o+i*4,none⟩=some (.int .i64 t.kind)∧w.cell? ⟨g,o+i*4+1,none⟩=some (.string (bs t.text))∧w.cell? ⟨g,o+i*4+2,none⟩=some (.int .i64 t.n)∧w.cell? ⟨g,o+i*4+3,none⟩=some (.int .i64 t.off)
theorem TokR.below {w w':World} {A:Option Addr} {ts:List Tok} (h:TokR w A ts) (hb:Below w.heap.size w w'):TokR w' A ts:=by
 intro i t hi;obtain ⟨g,o,rfl,hg,h0,h1,h2,h3⟩:=h i t hi;exact ⟨g,o,rfl,Nat.lt_of_lt_of_le hg hb.size,by rw[hb.cell (p:=⟨g,_,none⟩) hg,h0],by rw[hb.cell (p:=⟨g,_,none⟩) hg,h1],by rw[hb.cell (p:=⟨g,_,none⟩) hg,h2],by rw[hb.cell (p:=⟨g,_,none⟩) hg,h3]⟩
theorem tokCells_at:∀ (ts:List Tok) (i:Nat) (t:Tok),ts[i]?=some t→(tokCells ts)[i*4]?=some (.int .i64 t.kind)∧(tokCells ts)[i*4+1]?=some (.string (bs t.text))∧(tokCells ts)[i*4+2]?=some (.int .i64 t.n)∧(tokCells ts)[i*4+3]?=some (.int .i64 t.off):=by
 intro ts
 induction ts with
 | nil=>intro i t h; simp at h
 | cons u ts ih=>
  intro i t h
  cases i with
  | zero=>
   simp at h;subst h;simp[tokCells]
  | succ i=>
   have:=ih i t (by simpa using h);rw[show (i+1)*4=i*4+4 by omega];simpa[tokCells,Nat.add_right_comm] using this
theorem TokR.of_own {w:World} {base e:Nat} {a:Option Addr} {c:Nat} {ts:List Tok} (h:w.ownsRow base e 4 (.slice a ts.length c) ts.length (tokCells ts)):TokR w a ts:=by
 intro i t hi;have hlt:i<ts.length:=(List.getElem?_eq_some_iff.1 hi).1
 rcases h.2 with ⟨_,h0⟩ | ⟨g,cap,cur,hv,hg,hh,_⟩
 ·omega
 ·have ha:a=some ⟨g,0,none⟩:=by injection hv
  have hc:∀ j u,(tokCells ts)[j]?=some u→w.cell? ⟨g,j,none⟩=some u:=by
   intro j u hu;have:=World.ownsRow.cells h (g:=g) (by rw[ha]; rfl) j u hu;have hadd:(⟨g,0,none⟩:Addr).add j=⟨g,j,none⟩:=by unfold Addr.add; split <;> simp_all
   rwa [hadd] at this
  obtain ⟨h0,h1,h2,h3⟩:=tokCells_at ts i t hi;refine ⟨g,0,ha,(Array.getElem?_eq_some_iff.1 hh).1,?_,?_,?_,?_⟩
  ·rw[Nat.zero_add]; exact hc _ _ h0
  ·rw[Nat.zero_add]; exact hc _ _ h1
  ·rw[Nat.zero_add]; exact hc _ _ h2
  ·rw[Nat.zero_add]; exact hc _ _ h3
theorem scan_open {R:List Tok × Int × Int} {w w':World} {e:Ending} (h:ScanPost R w e w'):∃ a c,e=.returned (.tuple #[.slice a R.1.length c,.int .i64 R.2.1,.int .i64 R.2.2])∧TokR w' a R.1∧Below w.heap.size w w':=by
 obtain ⟨v,rfl,ho,hb⟩:=h;obtain ⟨a,c,rfl⟩:=Jan ho;exact ⟨a,c,rfl,TokR.of_own ho,hb⟩
def strV (l:List UInt8):Value:=.string (bs l)
theorem joinW_tail (a:List UInt8) (r:List (List UInt8)):joinW (a::r)=a++(r.map ([32]++·)).flatten:=by
 induction r generalizing a with
 | nil=>simp[joinW]
 | cons b r ih=>rw[joinW,ih b]; simp
theorem inter_tail (a:List UInt8) (r:List (List UInt8)):[32].intercalate (a::r)=a++(r.map (([32]:List UInt8)++·)).flatten:=by
 induction r generalizing a with
 | nil=>simp[List.intercalate]
 | cons b r ih=>
  have h:=ih b;simp only[List.intercalate,List.intersperse] at h ⊢;simp[h]
theorem join_eq (l:List (List UInt8)):Lib.join l [32]=joinW l:=by
 cases l with
 | nil=>rfl
 | cons a r=>rw[joinW_tail,Lib.join,inter_tail]
theorem infoStrW:(Tryz.prog.info? 9).map (fun i=>(i.zero,i.size,i.bytes))=some (some (.string ⟨#[]⟩),1,16):=by kernel_rfl
theorem take_fm {ts:List Tok} {k:Nat} {t:Tok} (h:ts[k]?=some t):(ts.take (k+1)).filterMap wrO=(ts.take k).filterMap wrO++(wrO t).toList:=by
 rw[List.take_add_one,h,List.filterMap_append]
 cases hw:wrO t <;> simp[hw]
structure WrR (w:World) (xs:List (List UInt8)) (v:Value) (wr:World):Prop where
 own:wr.ownsRow w.heap.size 9 1 v xs.length (xs.map strV)
 below:Below w.heap.size w wr
theorem WrR.add {w wr W w':World} {xs:List (List UInt8)} {v v':Value} {x:List UInt8} (h:WrR w xs v wr) (hW:Below w.heap.size w W) (hown:w'.ownsRow w.heap.size 9 1 v' (xs.length+1) (xs.map strV++[.string (bs x)])) (hg:W.grownBy w' v.ownBlock) :
  WrR w (xs++[x]) v' w':=by
 refine ⟨?_,hW.grown hg hW.size (JdE h.own)⟩;rw[List.length_append,List.map_append];exact hown
set_option maxRecDepth 100000 in
set_option maxHeartbeats 4000000 in
theorem lwrite_loop (A:Option Addr) (n c:Nat) (ts:List Tok) (w:World) (hA:TokR w A ts) (hn:ts.length=n) (hlim:n≤100000) (hw:∀ t∈ts,wf64 t.n∧t.text.length≤1000000) (hL:Laid w)
  (hj:∀ v W,WrR w (ts.filterMap wrO) v W→Calls Tryz.prog 48 #[v,.string { data:=#[32] }] W (StrPost W (joinW (ts.filterMap wrO)))) :
  Calls Tryz.prog 18 #[.slice A n c] w (StrPost w (writeL ts)):=by
 obtain ⟨i0,hi,hz0,hz1,hz2⟩:=info_parts infoStrW;have HW:=Lib.hid hw;have HJ:=Lib.hid hj;have HN:=Lib.hid hn;have HA:=Lib.hid hA;clear hw hj hA;go_enter Tryz.func18,Tryz.ntmps18;go_wp2;go_loopw [3,8] (fun v3 v8 wr=>∃ k:Nat,k≤n∧v8=.int .i64 k∧WrR w ((ts.take k).filterMap wrO) v3 wr) (fun _ v8 _=>n-(intOf v8).toNat)
 case atStart=>exact ⟨0,by omega,rfl,⟨World.ownsRow_nil _ _ _ _,Below.refl _ _⟩⟩
 case round=>
  obtain ⟨k,hk,rfl,hR⟩:=hrel
  by_cases hlt:k<n
  ·obtain ⟨t,ht⟩:∃ t,ts[k]?=some t:=⟨_,List.getElem?_eq_getElem (by omega)⟩
   obtain ⟨wt,wl⟩:=HW.out t (List.mem_of_getElem? ht);obtain ⟨g,o,rfl,hg,a0,a1,a2,a3⟩:=(HA.out.below hR.below) k t ht;have HT:=Lib.hid (take_fm ht);have hlen:((ts.take k).filterMap wrO).length≤k:=Nat.le_trans (List.length_filterMap_le _ _) (by simp; omega);have HR:=Lib.hid hR;obtain ⟨va,vc,rfl⟩:=Jan hR.own;have hLr:=hL.below hR.below;clear ht hR hn;obtain ⟨tk,tt,tn,tof⟩:=t;have htl:=JF tt;have wl':tt.length≤1000000:=wl;clear wl;generalize hxs:(ts.take k).filterMap wrO=xs at *;clear hxs;have hb1:=HR.out.below.alloc HR.out.below.size (.cells #[.int .i64 tk,.string (bs tt),.int .i64 tn,.int .i64 tof] 46)
   by_cases h4:tk=4
   ·subst h4;have H:Hid (((ts.take (k+1)).filterMap wrO)=xs):=by unfold Hid; rw[HT.out]; simp[wrO]
    clear HT;go_wp2;go_roundw
    case rel=>exact ⟨k+1,by omega,by go_num,by rw[H.out]; exact ⟨HR.out.own.alloc _,hb1⟩⟩
    case measure=>simp[intOf]; omega
   have b4:((tk:Int)==4)=false:=beq_eq_false_iff_ne.2 h4
   by_cases h0:tk=0
   ·subst h0;have H:Hid (((ts.take (k+1)).filterMap wrO)=xs++[tt]):=by unfold Hid; rw[HT.out]; simp[wrO]
    clear HT h4;go_wp2_with (at_builtin; refine wpList_append_own _ rfl _ _ 47 rfl w.heap.size 9 i0 (.string ⟨#[]⟩) 1 16 Tryz.underlying47 hi hz0 hz1 hz2 rfl (by decide) _ _ _ rfl ((HR.out.own.alloc _).alloc _) ⟨wr.heap.size+1,0,none⟩ 1 1 [.string (bs tt)] rfl rfl (fun j u hj=>by rw[ZI]; simpa using hj) (fun u hu=>by rw[List.mem_singleton] at hu; rw[hu]; rfl) (by unfold maxLen; omega) (by omega) (by simp; exact Nat.le_trans HR.out.below.size (by omega)) ?_);intro v' w' hown' hgrow _;have HX:Hid (WrR w ((ts.take (k+1)).filterMap wrO) v' w'):=by unfold Hid; rw[H.out]; exact HR.out.add (hb1.alloc hb1.size _) hown' hgrow
    clear hown' hgrow;go_wp2;go_roundw
    case rel=>exact ⟨k+1,by omega,by go_num,HX.out⟩
    case measure=>simp[intOf]; omega
   have b0:((tk:Int)==0)=false:=beq_eq_false_iff_ne.2 h0
   by_cases h3:tk=3
   ·subst h3;have H:Hid (((ts.take (k+1)).filterMap wrO)=xs++[tt]):=by unfold Hid; rw[HT.out]; simp[wrO]
    clear HT h4 h0;go_wp2_with (at_builtin; refine wpList_append_own _ rfl _ _ 47 rfl w.heap.size 9 i0 (.string ⟨#[]⟩) 1 16 Tryz.underlying47 hi hz0 hz1 hz2 rfl (by decide) _ _ _ rfl ((HR.out.own.alloc _).alloc _) ⟨wr.heap.size+1,0,none⟩ 1 1 [.string (bs tt)] rfl rfl (fun j u hj=>by rw[ZI]; simpa using hj) (fun u hu=>by rw[List.mem_singleton] at hu; rw[hu]; rfl) (by unfold maxLen; omega) (by omega) (by simp; exact Nat.le_trans HR.out.below.size (by omega)) ?_);intro v' w' hown' hgrow _;have HX:Hid (WrR w ((ts.take (k+1)).filterMap wrO) v' w'):=by unfold Hid; rw[H.out]; exact HR.out.add (hb1.alloc hb1.size _) hown' hgrow
    clear hown' hgrow;go_wp2;go_roundw
    case rel=>exact ⟨k+1,by omega,by go_num,HX.out⟩
    case measure=>simp[intOf]; omega
   have b3:((tk:Int)==3)=false:=beq_eq_false_iff_ne.2 h3
   by_cases h1:tk=1
   ·subst h1;have H:Hid (((ts.take (k+1)).filterMap wrO)=xs++[itoa tn]):=by unfold Hid; rw[HT.out]; simp[wrO]
    clear HT h4 h0 h3;have hL1:Laid (wr.alloc (.cells #[.int .i64 1,.string (bs tt),.int .i64 tn,.int .i64 tof] 46)):=hLr.below ((Below.refl _ _).alloc (Nat.le_refl _) _);have cT:=Vm tn _ wt hL1;go_wp2_with fail;refine (Calls.mono cT ?_);rintro e w2 ⟨rfl,hb2⟩;have HO2:=Lib.hid (JfH (HR.out.own.alloc (.cells #[.int .i64 1,.string (bs tt),.int .i64 tn,.int .i64 tof] 46)) hb2);have hb2:=hb1.trans (hb2.mono hb1.size);clear cT hL1;go_wp2_with (at_builtin; refine wpList_append_own _ rfl _ _ 47 rfl w.heap.size 9 i0 (.string ⟨#[]⟩) 1 16 Tryz.underlying47 hi hz0 hz1 hz2 rfl (by decide) _ _ _ rfl (HO2.out.alloc _) ⟨w2.heap.size,0,none⟩ 1 1 [.string (bs (itoa tn))] rfl rfl (fun j u hj=>by rw[KV]; simpa using hj) (fun u hu=>by rw[List.mem_singleton] at hu; rw[hu]; rfl) (by unfold maxLen; omega) (by omega) (by simp; exact Nat.le_trans hb2.size (by omega)) ?_);intro v' w' hown' hgrow _;have HX:Hid (WrR w ((ts.take (k+1)).filterMap wrO) v' w'):=by unfold Hid; rw[H.out]; exact HR.out.add (hb2.alloc hb2.size _) hown' hgrow
    clear hown' hgrow;go_wp2;go_roundw
    case rel=>exact ⟨k+1,by omega,by go_num,HX.out⟩
    case measure=>simp[intOf]; omega
   have b1:((tk:Int)==1)=false:=beq_eq_false_iff_ne.2 h1
   by_cases h2:tk=2
   ·subst h2;have H:Hid (((ts.take (k+1)).filterMap wrO)=xs++[34::(tt++[34])]):=by unfold Hid; rw[HT.out]; simp[wrO]
    have q1:(⟨#[34]⟩:ByteArray)++bs tt=bs (34::tt):=bs_append [34] tt;have q2:bs (34::tt)++(⟨#[34]⟩:ByteArray)=bs (34::(tt++[34])):=bs_append (34::tt) [34];have q3:=JF (34::tt);rw[List.length_cons] at q3;clear HT h4 h0 h3 h1;go_wp2_with (at_builtin; refine wpList_append_own _ rfl _ _ 47 rfl w.heap.size 9 i0 (.string ⟨#[]⟩) 1 16 Tryz.underlying47 hi hz0 hz1 hz2 rfl (by decide) _ _ _ rfl ((HR.out.own.alloc _).alloc _) ⟨wr.heap.size+1,0,none⟩ 1 1 [.string (bs (34::(tt++[34])))] rfl rfl (fun j u hj=>by rw[ZI]; simpa using hj) (fun u hu=>by rw[List.mem_singleton] at hu; rw[hu]; rfl) (by unfold maxLen; omega) (by omega) (by simp; exact Nat.le_trans HR.out.below.size (by omega)) ?_);intro v' w' hown' hgrow _;have HX:Hid (WrR w ((ts.take (k+1)).filterMap wrO) v' w'):=by unfold Hid; rw[H.out]; exact HR.out.add (hb1.alloc hb1.size _) hown' hgrow
    clear hown' hgrow;go_wp2;go_roundw
    case rel=>exact ⟨k+1,by omega,by go_num,HX.out⟩
    case measure=>simp[intOf]; omega
   have b2:((tk:Int)==2)=false:=beq_eq_false_iff_ne.2 h2;have H:Hid (((ts.take (k+1)).filterMap wrO)=xs++[[]]):=by unfold Hid; rw[HT.out]; simp[wrO,h4,h0,h3,h1,h2]
   clear HT h4 h0 h3 h1 h2;go_wp2_with (at_builtin; refine wpList_append_own _ rfl _ _ 47 rfl w.heap.size 9 i0 (.string ⟨#[]⟩) 1 16 Tryz.underlying47 hi hz0 hz1 hz2 rfl (by decide) _ _ _ rfl ((HR.out.own.alloc _).alloc _) ⟨wr.heap.size+1,0,none⟩ 1 1 [.string ⟨#[]⟩] rfl rfl (fun j u hj=>by rw[ZI]; simpa using hj) (fun u hu=>by rw[List.mem_singleton] at hu; rw[hu]; rfl) (by unfold maxLen; omega) (by omega) (by simp; exact Nat.le_trans HR.out.below.size (by omega)) ?_);intro v' w' hown' hgrow _;have HX:Hid (WrR w ((ts.take (k+1)).filterMap wrO) v' w'):=by unfold Hid; rw[H.out]; exact HR.out.add (hb1.alloc hb1.size _) hown' hgrow
   clear hown' hgrow;go_wp2;go_roundw
   case rel=>exact ⟨k+1,by omega,by go_num,HX.out⟩
   case measure=>simp[intOf]; omega
  ·have hkn:k=n:=by omega
   subst hkn;have hfin:ts.take k=ts:=List.take_of_length_le (by rw[HN.out]; omega);rw[hfin] at hR;have cJ:=HJ.out _ _ hR;have HR:=Lib.hid hR;clear hR hn hfin;go_wp2_with fail;refine (Calls.mono cJ ?_);rintro e w2 ⟨rfl,hb2⟩;have hbx:=HR.out.below.trans (hb2.mono HR.out.below.size);clear hb2;go_wp2_with fail;go_ret;exact ⟨rfl,hbx⟩
theorem lwrite_any (A:Option Addr) (n c:Nat) (ts:List Tok) (w:World) (hA:TokR w A ts) (hn:ts.length=n) (hlim:n≤100000) (hw:∀ t∈ts,wf64 t.n∧t.text.length≤1000000) (hL:Laid w) (hsum:(writeL ts).length≤140737488355328) :
  Calls Tryz.prog 18 #[.slice A n c] w (StrPost w (writeL ts)):=by
 refine lwrite_loop A n c ts w hA hn hlim hw hL fun v W hR=>?_
 have hlen:(ts.filterMap wrO).length≤n:=by rw[← hn]; exact List.length_filterMap_le _ _
 cases hxs:ts.filterMap wrO with
 | nil=>
  rw[hxs] at hR;obtain ⟨va,vc,rfl⟩:=Jan hR.own;refine (Tryz.strings_Join_none va vc { data:=#[32] } W).mono ?_;rintro e w' ⟨rfl,rfl⟩;exact ⟨rfl,Below.refl _ _⟩
 | cons a r=>
  rw[hxs] at hR hlen;have hsum':(joinW (a::r)).length≤140737488355328:=by unfold writeL at hsum; rw[hxs] at hsum; exact hsum
  rcases hR.own.2 with ⟨_,h0⟩ | ⟨g,cap,cur,rfl,hg,hh,hcap,hmax,hcs,htk⟩
  ·simp at h0
  ·have hcells:∀ (j:Nat) (x:ByteArray),((a::r).map bs)[j]?=some x→W.cell? ⟨g,0+j,none⟩=some (.string x):=by
    intro j x hj;rw[Nat.zero_add]
    have hj2:((a::r).map strV)[j]?=some (.string x):=by
     rw[List.getElem?_map] at hj ⊢
     cases hq:(a::r)[j]? with
     | none=>rw[hq] at hj; simp at hj
     | some y=>rw[hq] at hj; simp at hj; simp[strV,hj]
    have:=World.ownsRow.cells hR.own (g:=g) rfl j _ hj2;have hadd:(⟨g,0,none⟩:Addr).add j=⟨g,j,none⟩:=by unfold Addr.add; split <;> simp_all
    rwa [hadd] at this
   have hmap:((a::r).map bs).map (·.data.toList)=a::r:=by
    rw[List.map_map]
    conv=>rhs; rw[← List.map_id (a::r)]
    apply List.map_congr_left;intro x _;exact Vy x
   have hjn:Lib.join (((a::r).map bs).map (·.data.toList)) [32]=joinW (a::r):=by rw[hmap,join_eq]
   have hl2:((a::r).map bs).length=(a::r).length:=List.length_map _
   have c:=Tryz.strings_Join g 0 cap ((a::r).map bs) { data:=#[32] } W hcells (Array.getElem?_eq_some_iff.1 hh).1 (by rw[hl2]; omega) (by rw[hl2]; exact hcap) (by
    show (Lib.join _ [32]).length≤_
    rw[hjn]; exact hsum')
   rw[hl2] at c;refine c.mono ?_;rintro e w' ⟨rfl,hb⟩;refine ⟨?_,hb⟩
   show Ending.returned (.string (bs (Lib.join (((a::r).map bs).map (·.data.toList)) [32])))=_
   rw[hjn]
theorem joinW_len (l:List (List UInt8)):(joinW l).length≤(l.map (fun x=>x.length+1)).sum:=by
 cases l with
 | nil=>simp[joinW]
 | cons a r=>
  rw[joinW_tail];simp only[List.length_append,List.length_flatten,List.map_map,List.map_cons,List.sum_cons]
  have:(List.map (List.length∘fun x=>([32]:List UInt8)++x) r)=r.map (fun x=>x.length+1):=by
   apply List.map_congr_left;intro x _;simp
  rw[this];omega
theorem wrO_len {t:Tok} (h1:wf64 t.n) (h2:t.text.length≤50):∀ x,wrO t=some x→x.length+1≤60:=by
 intro x hx;have:=(itoa_length h1.1 h1.2).1;unfold wrO at hx;split at hx
 ·cases hx
 ·split at hx
  ·injection hx with hx; subst hx; omega
  ·split at hx
   ·injection hx with hx; subst hx; omega
   ·split at hx
    ·injection hx with hx; subst hx; simp; omega
    ·injection hx with hx; subst hx; simp
theorem writeL_len (ts:List Tok) (h:∀ t∈ts,wf64 t.n∧t.text.length≤50):(writeL ts).length≤ts.length*60:=by
 unfold writeL;refine Nat.le_trans (joinW_len _) ?_
 induction ts with
 | nil=>simp
 | cons t ts ih=>
  have ih:=ih (fun t h'=>h t (by simp[h']));have ht:=h t (by simp)
  cases hw:wrO t with
  | none=>rw[List.filterMap_cons_none hw]; simp only[List.length_cons]; omega
  | some x=>
   have:=wrO_len ht.1 ht.2 x hw;rw[List.filterMap_cons_some hw];simp only[List.map_cons,List.sum_cons,List.length_cons];omega
end Go.Proofs.YtdlkcjkjnehnkaaGreatDoor
