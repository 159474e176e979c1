import Derived.Test.YtdlkcjkjnehnkaaGreatDoorG41
import Derived.Test.YtdlkcjkjnehnkaaGreatDoorG47
namespace Go.Proofs.YtdlkcjkjnehnkaaGreatDoor
open Go Go.Lib
open Go.ChangeShapes Go.WideShapes Go.ChangeAt Go.RowKit
open Go.ChangeShapes Go.WideShapes Go.ChangeAt Go.RowKit
open Go.ChangeShapes Go.WideShapes Go.ChangeAt Go.RowKit Go.Lib
open Go.RowKit
open Go Go.ChangeShapes Go.WideShapes Go.ChangeAt Go.RowKit Go.Lib
open Go
open _root_.Go.Proofs.Tryz
set_option linter.all false
set_option maxRecDepth 100000
set_option maxHeartbeats 32000000
theorem max_cast (a b:Nat):max (a:Int) (b:Int)=((max a b:Nat):Int):=by omega
theorem nestL_drop {l:List Exp} {i:Nat} {x:Exp} (h:l[i]?=some x):nestL (utL (l.drop i))=max (nest (utN x)) (nestL (utL (l.drop (i+1)))):=by
 rw[Jhb h,utL,nestL]
set_option maxRecDepth 100000 in
set_option maxHeartbeats 16000000 in
theorem nest_any {w0:World}:∀ (x:Exp) (d:List Value) (W:World),siz (utN x)≤1000000→ExpX w0 x d→Bel w0 W→Calls Tryz.prog 11 #[.agg d.toArray] W (BelP W (.int .i64 (nest (utN x):Nat)))
 | .mk kd nm s l,d,W,hk,h1,hb=>by
  obtain ⟨a1,c1,e1,g1⟩:=RowG.kids h1;rw[e1];rw[utN,JG] at hk
  have hel:∀ x∈l,∀ d W,ExpX w0 x d→Bel w0 W→Calls Tryz.prog 11 #[.agg d.toArray] W (BelP W (.int .i64 (nest (utN x):Nat)))∧nest (utN x)≤1000000:=
   fun x hx d W h1 hb=>by
    have hs:siz (utN x)≤sizL (utL l):=JcY hx;exact ⟨nest_any x d W (by omega) h1 hb,Nat.le_trans (JdC _) (by omega)⟩
  have hT1:nestL (utL l)≤1000000:=Nat.le_trans (Y6 _) (by omega);have hml:l.length≤1000000:=by have:=JdB (utL l); rw[Yj] at this; omega
  rw[utN,nest];obtain ⟨T,hT⟩:∃ T,nestL (utL l)=T:=⟨_,rfl⟩
  rw[hT] at hT1 ⊢;obtain ⟨m,hm⟩:∃ m,l.length=m:=⟨_,rfl⟩
  rw[hm] at hml;have HM:=Lib.hid hm;have HEL:=Lib.hid hel;have HG1:=Lib.hid g1;have HT:=Lib.hid hT;rw[hm];clear e1 h1 hel g1 hm hk hT;have HX:=Lib.hid (BxB.of (heap_alloc_new W (.cells #[.int .i64 kd,.int .i64 nm,.string (bs s),.slice a1 m c1] 30)));have HB0:Hid (Bel W (W.alloc (.cells #[.int .i64 kd,.int .i64 nm,.string (bs s),.slice a1 m c1] 30))):=(Below.refl _ _).alloc (Nat.le_refl _) _;have HBW:=Lib.hid (Jd hb HB0.out);clear hb;go_enter Tryz.func11,Tryz.ntmps11;go_upto_region 1 with fail;generalize World.alloc W _=w1 at *;generalize W.heap.size=xb at *;have HBC:Hid (Bel w1 w1):=Below.refl _ _;go_wp2_with fail;go_loopg [3,4] m (fun g v3 v4 wr=>∃ i N:Nat,g+i=m∧v3=.int .i64 (N:Int)∧v4=.int .i64 (i:Int)∧Hid (Bel w1 wr∧max N (nestL (utL (l.drop i)))=T))
  case atStart=>exact ⟨0,0,rfl,rfl,rfl,HBC.out,by rw[List.drop_zero,HT.out]; omega⟩
  case round=>
   clear HBC HT;obtain ⟨wl,rfl⟩:∃ wl:World,wl=wr:=⟨_,rfl⟩
   obtain ⟨i,N,hg,rfl,rfl,hws⟩:=hrel;have HBC:Hid (Bel w1 wl):=hws.out.1;have HT:=Lib.hid hws.out.2;clear hws;obtain ⟨x0,x1,x2,x3⟩:=wfour (HX.out _ HBC.out)
   by_cases hi:i<m
   ·have dil:decide ((i:Int)<(m:Int))=true:=decide_eq_true (by omega);have diN:decide (i<m)=true:=decide_eq_true hi;obtain ⟨x,hx⟩:∃ x,l[i]?=some x:=⟨_,List.getElem?_eq_getElem (by rw[HM.out]; exact hi)⟩
    obtain ⟨b1,o1,ha1,hk1⟩:=HG1.out (List.ne_nil_of_mem (List.mem_of_getElem? hx));subst ha1;obtain ⟨d1,hr1,hc1⟩:=hk1 i x hx;have hr1f:=hr1;obtain ⟨xa,xc,rfl⟩:=hr1.form;have HBL:=Lib.hid (Jd HBW.out HBC.out);obtain ⟨cc,hzb⟩:=HEL.out x (List.mem_of_getElem? hx) _ wl hr1f HBL.out;have hT2:=HT.out;rw[nestL_drop hx] at hT2;obtain ⟨z,hz⟩:∃ z,nest (utN x)=z:=⟨_,rfl⟩
    rw[hz] at cc hzb hT2;have hT3:max (max N z) (nestL (utL (l.drop (i+1))))=T:=by omega
    have HT2:=Lib.hid hT3;have p0:wl.cell? ⟨b1,o1+i*4,none⟩=some (.int .i64 x.kind):=hc1 wl HBL.out 0 _ rfl;have p1:wl.cell? ⟨b1,o1+i*4+1,none⟩=some (.int .i64 x.num):=hc1 wl HBL.out 1 _ rfl;have p2:wl.cell? ⟨b1,o1+i*4+2,none⟩=some (.string (bs x.name)):=hc1 wl HBL.out 2 _ rfl;have p3:wl.cell? ⟨b1,o1+i*4+3,none⟩=some (.slice xa x.kids.length xc):=hc1 wl HBL.out 3 _ rfl;have k0:0≤(i:Int):=by omega
    have k1:(i:Int)<(m:Int):=by omega
    have wk:IntKind.i64.wrap ((i:Int)+1)=((i+1:Nat):Int):=by rw[IntWalk.i64_in _ (by omega)]; omega
    have wz:=max_cast N z;have HG:Hid (gk+i=m∧i<m):=⟨hg,hi⟩
    clear hx hk1 hr1 hr1f hz hzb hT2 hT3 hg hi HT hc1;go_wp2_with fail;refine cc.mono ?_;rintro e w8 ⟨rfl,hbb⟩;have HBD:Hid (Bel w1 w8):=Jd HBC.out hbb;clear cc x0 x1 x2 x3 p0 p1 p2 p3 hbb;go_wp2;go_roundg (m-(i+1))
    case measure=>have:=HG.out; omega
    case rel=>exact ⟨i+1,max N z,by have:=HG.out; omega,by first | rfl | (rw[wz]),rfl,HBD.out,HT2.out⟩
   ·have dil:decide ((i:Int)<(m:Int))=false:=decide_eq_false (by omega)
    have hTN:T=N:=by
     have h:=HT.out;rw[List.drop_of_length_le (by rw[HM.out]; omega),utL,nestL] at h;omega
    subst hTN;clear HT hg;go_wp2;go_ret;exact ⟨by first | rfl | simp,Jd HB0.out HBC.out⟩
termination_by x=>SizeOf.sizeOf x
decreasing_by
 have:=List.sizeOf_lt_of_mem hx;simp only[Exp.mk.sizeOf_spec];omega
theorem xat_row {W:World} {P:Nat→Prop} {b:Nat} {k n:Int} {s:List UInt8} {l:List Exp} {cs:Array Value} (hr:RowX W P l cs.toList) (hb:W.heap[b]?=some (.cells cs 30 (0,0))) (hP:P b) :
  XAt W P (.mk k n s l) #[.int .i64 k,.int .i64 n,.string (bs s),.slice (some ⟨b,0,none⟩) l.length l.length]:=by
 unfold XAt;refine ⟨_,_,cs.toList,rfl,Nat.le_refl _,hr,.inr ⟨b,0,rfl,hP,fun j u hj=>?_⟩⟩;rw[Nat.zero_add];exact KO hb hj
theorem row_one {W:World} {P:Nat→Prop} {x:Exp} {c:Array Value} (h:XAt W P x c):RowX W P [x] c.toList:=by
 unfold RowX;exact ⟨c,[],h,by simp,by unfold RowX; rfl⟩
theorem row_more {W:World} {P:Nat→Prop} {x:Exp} {c:Array Value} {l:List Exp} {xs:List Value} (h:XAt W P x c) (hr:RowX W P l xs):RowX W P (x::l) (c.toList++xs):=by
 unfold RowX;exact ⟨c,xs,h,rfl,hr⟩
theorem rule_one {w':World} {x:Exp} {d:Array Value} {b:Nat} (hx:XAt w' (In w') x d) (hb:w'.heap[b]?=some (.cells (d.toList++[Value.int .i64 0,Value.string (bs [])]).toArray 32 (0,0))):RuleX w' (In w') (oneR x) #[.slice none 0 0,.slice (some ⟨b,0,none⟩) 1 1,.int .i64 0]:=
 ⟨_,_,rfl,⟨none,0,[],rfl,Nat.le_refl _,rfl,.inl rfl⟩,⟨some ⟨b,0,none⟩,1,d.toList++[Value.int .i64 0,Value.string (bs [])],rfl,Nat.le_refl _,⟨_,[],⟨d,hx,rfl⟩,by simp,rfl⟩,.inr ⟨b,0,rfl,Jb hb,fun j u hj=>by rw[Nat.zero_add]; exact KO hb (by simpa using hj)⟩⟩⟩
theorem one_sz {x:Exp} (hn:NmN x) (hz:siz (utN x)≤1000000):RSz (oneR x):=by
 refine ⟨Nat.zero_le _,show (1:Nat)≤1000000 by decide,fun f hf=>?_,fun c hc=>?_⟩
 ·have hf:f∈([]:List FnM):=hf
  cases hf
 have hc:c=⟨x,0,[]⟩:=by simpa[oneR] using hc
 subst hc;exact ⟨hn,hz,Nat.zero_le _⟩
theorem one_len {x:Exp} (hz:siz (utN x)≤1000) (hr:rightM (oneR x)=true):(flat (iR (oneR x))).length≤1000000:=by
 have g1:=Jhf _ (Jlp hr (fun f hf=>by have hf:f∈([]:List FnM):=hf; cases hf))
 have g3:=Jhj (fnF (oneR x)) 14009 (oneR x).clauses fun c hc=>by
  have hc:c=⟨x,0,[]⟩:=by simpa[oneR] using hc
  subst hc;have:=Jmh (fnF (oneR x)) ⟨x,0,[]⟩;dsimp only at this;omega
 have g4:(iR (oneR x)).length≤14009+4:=by
  have e:(oneR x).clauses.length=1:=rfl;rw[e] at g3;unfold iR;simp only[List.length_cons,List.length_append,List.length_nil];have e2:(iFs (fnF (oneR x)) (oneR x).funcs).length=0:=rfl;omega
 omega
set_option maxRecDepth 100000 in
set_option maxHeartbeats 16000000 in
theorem source_any {w0:World} (x:Exp) (d:List Value) (W:World) (hz:siz (utN x)≤1000) (hn:NmN x) (hf:fitsN [] 0 40 x=true) (ht:tyOne x) (h1:ExpX w0 x d) (hb:Bel w0 W) (hL:Laid W):Calls Tryz.prog 12 #[.agg d.toArray] W (BelP W (.string (bs (flat (iB0 x))))):=by
 have hR:=oneR_right hf ht;have hS:=source_eq hf ht;have hlen:=one_len hz hR;have hSf:=KQ hR;have hRS:=one_sz hn (Nat.le_trans hz (by decide));have hxx:XAt w0 (In w0) x d.toArray:=h1;obtain ⟨kd,nm,s,l⟩:=x;obtain ⟨a1,c1,e1,_⟩:=RowG.kids h1;rw[e1] at hxx ⊢;obtain ⟨x,hxe⟩:∃ x,Exp.mk kd nm s l=x:=⟨_,rfl⟩
 rw[hxe] at hxx hRS hlen hS hR hSf ⊢;rw[hSf] at hS;rw[hS] at hSf hlen;obtain ⟨C,hC⟩:∃ C,flat (iB0 x)=C:=⟨_,rfl⟩
 rw[flat_t,flat_s,J5,hC] at hSf hlen;rw[hC];obtain ⟨S,hS0⟩:∃ S,writeM (oneR x)=S:=⟨_,rfl⟩
 rw[hS0] at hSf
 have hSl:S.length=C.length+32:=by
  rw[hSf];simp only[List.length_append,List.length_cons];rw[show (wr (tW kWhen)).length=4 from rfl,show (flat [It.s 32,.t (tW kThen),.s 32,.t (tW kShow),.s 32,.t (tT []),.s 10,.t (tW kDefault),.s 32,.t (tW kShow),.s 10]).length=27 from rfl];omega
 have hex:(bs S).extract 5 (C.length+5)=bs C:=by
  rw[KY,hSf];have e5:wr (tW kWhen)++32::(C++flat [It.s 32,.t (tW kThen),.s 32,.t (tW kShow),.s 32,.t (tT []),.s 10,.t (tW kDefault),.s 32,.t (tW kShow),.s 10])=[119,104,101,110,32]++(C++flat [It.s 32,.t (tW kThen),.s 32,.t (tW kShow),.s 32,.t (tT []),.s 10,.t (tW kDefault),.s 32,.t (tW kShow),.s 10]):=rfl;rw[e5];simp
 have HS0:=Lib.hid hS0;have ul:=JF S;have HXX:=Lib.hid hxx;have HRS:=Lib.hid hRS;have HR:=Lib.hid hR;have HL:=Lib.hid hL;have HXE:=Lib.hid hxe;obtain ⟨m,hm⟩:∃ m,l.length=m:=⟨_,rfl⟩
 rw[hm] at HXX ⊢
 have hCl:C.length≤1000000:=by
  simp only[List.length_append,List.length_cons] at hlen;omega
 have hRl:rightM (oneR x)=true→(flat (iR (oneR x))).length≤140737488355328:=fun hr=>Nat.le_trans (one_len (by rw[← hxe]; exact hz) hr) (by decide)
 have HRl:=Lib.hid hRl;clear hSf hS0 hlen hRS hR hL hxe h1 hz hn hf ht hS hxx e1 hm hRl hC;have HX:=Lib.hid (BxB.of (heap_alloc_new W (.cells #[.int .i64 kd,.int .i64 nm,.string (bs s),.slice a1 m c1] 30)));have HB0:Hid (Bel W (W.alloc (.cells #[.int .i64 kd,.int .i64 nm,.string (bs s),.slice a1 m c1] 30))):=(Below.refl _ _).alloc (Nat.le_refl _) _;go_enter Tryz.func12,Tryz.ntmps12;go_upto_region 1 with fail;generalize World.alloc W _=w1 at *;generalize W.heap.size=xb at *;obtain ⟨x0,x1,x2,x3⟩:=wfour (HX.out _ (Below.refl _ _));have hB1:Below w1.heap.size w1 (w1.alloc (.cells #[.int .i64 kd,.int .i64 nm,.string (bs s),.slice a1 m c1,.int .i64 0,.string (bs [])] 32)):=(Below.refl _ _).alloc (Nat.le_refl _) _
 have cw:=Zz (oneR x) #[.slice none 0 0,.slice (some ⟨w1.heap.size,0,none⟩) 1 1,.int .i64 0] (w1.alloc (.cells #[.int .i64 kd,.int .i64 nm,.string (bs s),.slice a1 m c1,.int .i64 0,.string (bs [])] 32))
  (rule_one (XAt.keep (fun q hq=>(Jd (Jd hb HB0.out) hB1).block q hq) (fun q hq=>Nat.lt_of_lt_of_le hq (Jd (Jd hb HB0.out) hB1).size) x _ HXX.out) (heap_alloc_new w1 (.cells #[.int .i64 kd,.int .i64 nm,.string (bs s),.slice a1 m c1,.int .i64 0,.string (bs [])] 32))) HRS.out (HL.out.below (Jd HB0.out hB1)) HRl.out
 rw[HS0.out] at cw;have HB1:=Lib.hid hB1;clear hB1 hb;go_wp2_with fail;refine cw.mono ?_;rintro e w2 ⟨rfl,hb2⟩;have HF:Hid (Bel W w2):=Jd HB0.out (Jd HB1.out hb2);clear cw hb2 x0 x1 x2 x3;have w27:IntKind.i64.wrap ((C.length:Int)+32-27)=((C.length+5:Nat):Int):=by rw[IntWalk.i64_in _ (by omega)]; omega
 have d5:decide (((C.length+5:Nat):Int)<5)=false:=decide_eq_false (by omega);go_wp2;go_ret;exact ⟨by rw[← hex]; rfl,HF.out⟩
end Go.Proofs.YtdlkcjkjnehnkaaGreatDoor
