
import Derived.Test.YtncanmdgdflnpaaGreatDoorW17
import Derived.Test.YtncanmdgdflnpaaGreatDoorW21
namespace Go.Proofs.YtncanmdgdflnpaaGreatDoor
open Go.ChangeShapes Go.WideShapes Go.ChangeAt Go.RowKit Go.Lib
open _root_.Go.Proofs.Tryz
set_option linter.all false
set_option maxRecDepth 100000
set_option maxHeartbeats 32000000
def sigC (f:FnA):List Value:=[.string ⟨#[]⟩,f.tv,.int .i64 f.result,.int .i64 0,.int .i64 0,.string ⟨#[]⟩,.slice none 0 0]
def sigM (f:FnA):SigM:=⟨f.types,f.result⟩
theorem Jcg (f:FnA):(sigC f).length=7:=rfl
theorem infoFuncP:(prog.info? 79).map (fun i=>(i.zero,i.size,i.bytes))=some (some (.agg #[.string ⟨#[]⟩,.slice none 0 0,.int .i64 0,.int .i64 0,.int .i64 0,.string ⟨#[]⟩,.slice none 0 0]),7,104):=by kernel_rfl
theorem Jfb {W:World} {rb:Nat} {f:FnA} (h:f.Ok W) (hr:f.hi≤rb):IntsAt W rb f.tv f.types:=by
 obtain ⟨m,m1,m2,m3,m4,m5⟩:=h.bmd;have ht:=h.town
 rcases ht.2 with ⟨e,e0⟩ | ⟨g,cap,cur,e,e2,e3,e4,_⟩
 ·exact .inl ⟨List.eq_nil_of_length_eq_zero e0,none,0,e⟩
 ·have hg:=m4 g (by rw[e]; rfl);have hw:=h.hle;refine .inr ⟨g,0,cap,e,e4,by omega,by omega,fun i n hi=>?_⟩
  ·have hc:=JT ht (j:=i) (u:=.int .i64 n) (by unfold intCells; rw[List.getElem?_map,hi]; rfl);rw[e] at hc;rw[Nat.zero_add];exact hc
theorem JiP {W:World} {base rb:Nat} {v:Value} {l:List FnA} (h:W.ownsRow base 79 7 v l.length (l.flatMap sigC)) (hv:∀ f∈l,f.Ok W∧f.hi≤rb) (hrb:v.ownBlock≠some rb):SigsAt W rb v (l.map sigM):=by
 obtain ⟨ad,cc,e,had⟩:=KU h;refine ⟨ad,cc,by rw[List.length_map]; exact e,fun hne=>?_⟩
 have hpos:0<l.length:=by
  rcases l with _ | ⟨a,l⟩
  ·exact absurd rfl hne
  ·exact Nat.succ_pos _
 have ha:=had hpos;subst ha;refine ⟨Value.blk v,0,rfl,fun hb=>hrb (by rw[← hb]; exact K4 h hpos),fun i s hs=>?_⟩;rw[List.getElem?_map] at hs;obtain ⟨f,hf,rfl⟩:=Option.map_eq_some_iff.1 hs;obtain ⟨o1,o2⟩:=hv f (List.mem_of_getElem? hf);refine ⟨⟨#[]⟩,f.tv,0,0,⟨#[]⟩,none,0,0,Jfb o1 o2,fun j u hj=>?_⟩;have:=JT h (Kd Jcg l i j f u hf hj);rw[Nat.zero_add];exact this
structure Ck (w W:World) (sb:Nat) (S:SrcA) (rb:Nat) (x:Option Int) (M:Value):Prop where
 ok:SrcOk W sb S
 flt:FltAt W rb 147 x M
 sigs:SigsAt W rb M (S.funcs.map sigM)
 bel:Below w.heap.size w W
 num:w.heap.size≤rb
 his:∀ iv∈S.ivs,iv.2≤w.heap.size
section
variable {w W W':World} {sb:Nat} {S:SrcA} {rb:Nat} {x:Option Int} {M:Value}
theorem Ck.mk' (h:SrcOk w sb S) (hf:FltAt W rb 147 x M) (hs:SigsAt W rb M (S.funcs.map sigM)) (hb:Below w.heap.size w W) (hn:w.heap.size≤rb):Ck w W sb S rb x M:=
 ⟨h.on (Chg.of_below hb []) (by simp),hf,hs,hb,hn,fun iv hi=>(h.ivs iv hi).2.2⟩
theorem Ck.up (h:Ck w W sb S rb x M) (hb:Below W.heap.size W W'):Ck w W' sb S rb x M:=
 ⟨h.ok.on (Chg.of_below hb []) (by simp),(hb.block _ (Jb h.flt)).trans h.flt,h.sigs.chg (Chg.of_below hb [rb]),Kk h.bel hb.os hb.tape hb.output hb.size (fun k hk=>hb.block k (Nat.lt_of_lt_of_le hk h.bel.size)),h.num,h.his⟩
theorem Ck.step (h0:SrcOk w sb S) (h:Ck w W sb S rb x M) {errs:List Int} {v:Value} {e:Ending} (ht:TyP W rb M x errs v e W'):Ck w W' sb S rb (addL x errs) M:=by
 obtain ⟨_,hf,hc⟩:=ht;have hn:=h.num;exact Ck.mk' h0 hf (h.sigs.chg hc) (Kk h.bel hc.os hc.tape hc.output hc.size (fun k hk=>hc.block k (Nat.lt_of_lt_of_le hk h.bel.size) (by simp; omega))) hn
theorem Ck.preF {f:FnA} (h:Ck w W sb S rb x M) (hf:f∈S.funcs) (hk:TyOk S.funcs.length f.types.length f.body.nd) (hw:WfN f.body.nd):TyPre (S.funcs.map sigM) rb M W x f.types f.tv f.body:=by
 obtain ⟨fo,f1,f2⟩:=h.ok.fok f hf;have hi:=h.his (f.lo,f.hi) (List.mem_append_left _ (List.mem_map.2 ⟨f,hf,rfl⟩));have hn:=h.num;have hfo:=Jad fo;dsimp only at hi;exact ⟨fo.bat,fun hm=>by have:=hfo _ hm; omega,h.flt,h.sigs,Jfb fo (by omega),by rw[List.length_map]; exact hk,hw⟩
theorem Ck.preC {c:ClA} (h:Ck w W sb S rb x M) (hc:c∈S.clauses) (hk:TyOk S.funcs.length 0 c.cond.nd) (hw:WfN c.cond.nd):TyPre (S.funcs.map sigM) rb M W x [] (.slice none 0 0) c.cond:=by
 obtain ⟨co,c1⟩:=h.ok.cok c hc;have hi:=h.his (c.lo,c.hi) (List.mem_append_right _ (List.mem_map.2 ⟨c,hc,rfl⟩));have hn:=h.num;dsimp only at hi;exact ⟨co.at',fun hm=>by have:=(co.made.2 _ hm).2; omega,h.flt,h.sigs,.inl ⟨rfl,none,0,rfl⟩,by rw[List.length_map]; exact hk,hw⟩
end
def ckF (S:SrcA) (i:Nat):List Int:=((S.funcs.take i).map fun f=>needE (S.funcs.map sigM) f.types f.result f.body.nd).flatten
def ckC (S:SrcA) (i:Nat):List Int:=((S.clauses.take i).map fun c=>needE (S.funcs.map sigM) [] 1 c.cond.nd).flatten
theorem Jhk {S:SrcA} {i:Nat} {f:FnA} (h:S.funcs[i]?=some f):ckF S (i+1)=ckF S i++needE (S.funcs.map sigM) f.types f.result f.body.nd:=by unfold ckF; rw[JF h]; simp
theorem Jhl {S:SrcA} {i:Nat} {c:ClA} (h:S.clauses[i]?=some c):ckC S (i+1)=ckC S i++needE (S.funcs.map sigM) [] 1 c.cond.nd:=by unfold ckC; rw[JF h]; simp
theorem JjX (S:SrcA):ckF S S.funcs.length++ckC S S.clauses.length=checkM S.src:=by
 unfold ckF ckC checkM;rw[List.take_length,List.take_length];unfold SrcA.src;simp only[List.map_map];rfl
theorem Jfc (w:World) (sb:Nat) (S:SrcA) (h:SrcOk w sb S) (h1:S.funcs.length≤100000000) (h2:S.clauses.length≤100000000)
  (h3:∀ f∈S.funcs,WfN f.body.nd∧siz f.body.nd≤100000000∧f.types.length≤100000000∧TyOk S.funcs.length f.types.length f.body.nd) (h4:∀ c∈S.clauses,WfN c.cond.nd∧siz c.cond.nd≤100000000∧TyOk S.funcs.length 0 c.cond.nd) :
  Calls prog 37 #[.pointer (some ⟨sb,0,none⟩)] w (EndP w 15 (least (checkM S.src))):=by
 obtain ⟨R,hR⟩:∃ R,EndP w 15 (least (checkM S.src))=R:=⟨_,rfl⟩
 rw[hR];have HR:Hid (R=EndP w 15 (least (checkM S.src))):=hR.symm;obtain ⟨fa,fc,hfv,hfa⟩:=KU h.fown;obtain ⟨ca,cc,hcv,hca⟩:=KU h.cown;have HFV:=Zh hfv;have HCV:=Zh hcv;have HFA:=Zh hfa;have HCA:=Zh hca;have H3:=Zh h3;have H4:=Zh h4;have HS:=Zh h;have b0:w.cell? ⟨sb,0,none⟩=some (.slice fa S.funcs.length fc):=by rw[Ja HS.out.box]; rw[hfv]; rfl
 clear hR hfv hcv hfa hca h h3 h4;go_enter func37,ntmps37;go_wp2_with fail;clear b0;go_loopg [2,15] S.funcs.length (fun g v2 v15 wr=>∃ i:Nat,g+i=S.funcs.length∧v15=.int .i64 i∧Hid (Below w.heap.size w wr)∧Hid (wr.ownsRow w.heap.size 79 7 v2 i ((S.funcs.take i).flatMap sigC)))
 case atStart=>exact ⟨0,rfl,rfl,Zh zzb,Zh ⟨rfl,.inl ⟨rfl,rfl⟩⟩⟩
 case round=>
 obtain ⟨wl,rfl⟩:∃ wl:World,wl=wr:=⟨_,rfl⟩
 obtain ⟨i,hg,rfl,hb,ho⟩:=hrel
 by_cases hi:i<S.funcs.length
 ·have hil:(i:Int)<(S.funcs.length:Int):=by omega
  obtain ⟨fn,hfn⟩:∃ fn,S.funcs[i]?=some fn:=⟨S.funcs[i],List.getElem?_eq_getElem hi⟩
  have had:=HFA.out (by omega);have hs1:=HS.out.on (Chg.of_below hb.out []) (by simp);obtain ⟨fo,_,_⟩:=hs1.fok fn (List.mem_of_getElem? hfn);have hcl:=VG hs1 hfn;have HTS:Hid ((S.funcs.take (i+1)).flatMap sigC=(S.funcs.take i).flatMap sigC++sigC fn):=by rw[Hid,JF hfn]; simp
  obtain ⟨nm,of,ps,ts,res,b,pv,tv,flo,fhi⟩:=fn;obtain ⟨pa,pn,pc,hpv⟩:=Ji fo.pown;obtain ⟨ta,tn,tc,htv⟩:=Ji fo.town;obtain ⟨va,vn,vc,hvv⟩:=Ji ho.out;dsimp only at hpv htv;subst hpv htv hvv;obtain ⟨yA,yn,yc,hcg⟩:=Jg b;simp only[FnA.cells,hcg,List.cons_append,List.nil_append] at hcl;have c0:=hcl 0 _ rfl;have c1:=hcl 1 _ rfl;have c2:=hcl 2 _ rfl;have c3:=hcl 3 _ rfl;have c4:=hcl 4 _ rfl;have c5:=hcl 5 _ rfl;have c6:=hcl 6 _ rfl;have c7:=hcl 7 _ rfl;have c8:=hcl 8 _ rfl;have c9:=hcl 9 _ rfl;simp only[Nat.add_zero] at c0;have wk:IntKind.i64.wrap ((i:Int)+1)=(i:Int)+1:=IntWalk.i64_in _ (by omega);have HCP:=Zh (zzw wl (.cells ([.string (bs nm),.int .i64 of,.slice pa pn pc,.slice ta tn tc,.int .i64 res,.int .i64 b.kind,.int .i64 b.num,.string (bs b.name),.int .i64 b.off,.slice yA yn yc]).toArray 121));have HB1:Hid (Below w.heap.size w (wl.alloc (.cells ([.string (bs nm),.int .i64 of,.slice pa pn pc,.slice ta tn tc,.int .i64 res,.int .i64 b.kind,.int .i64 b.num,.string (bs b.name),.int .i64 b.off,.slice yA yn yc]).toArray 121))):=hb.out.alloc hb.out.size _;have HOW:Hid ((wl.alloc (.cells ([.string (bs nm),.int .i64 of,.slice pa pn pc,.slice ta tn tc,.int .i64 res,.int .i64 b.kind,.int .i64 b.num,.string (bs b.name),.int .i64 b.off,.slice yA yn yc]).toArray 121)).ownsRow w.heap.size 79 7 (.slice va vn vc) i ((S.funcs.take i).flatMap sigC)):=ho.out.alloc _;have HG:=Zh hg;subst had;clear hcl hfn fo hg hcg hs1 hb ho;go_upto_region 4 with fail;clear c0 c1 c2 c3 c4 c5 c6 c7 c8 c9;generalize World.alloc wl _=w1 at *;generalize wl.heap.size=cb at *;have n2:=Ja HCP.out 2;have n3:=Ja HCP.out 3;have n4:=Ja HCP.out 4;simp only[ZD,ZE,ZF] at n2 n3 n4;obtain ⟨i0,hi0,hz0,hz1,hz2⟩:=info_parts infoFuncP;have HI:=Zh hi0;clear hi0;go_wp2_with (at_builtin; refine wpList_append_own _ rfl _ _ 27 rfl w.heap.size 79 i0 (.agg #[.string ⟨#[]⟩,.slice none 0 0,.int .i64 0,.int .i64 0,.int .i64 0,.string ⟨#[]⟩,.slice none 0 0]) 7 104 underlying27 HI.out hz0 hz1 hz2 rfl (by decide) _ _ _ rfl (HOW.out.alloc _) ⟨w1.heap.size,0,none⟩ 1 1 [.string ⟨#[]⟩,.slice ta tn tc,.int .i64 res,.int .i64 0,.int .i64 0,.string ⟨#[]⟩,.slice none 0 0] rfl rfl ?c1 ?c2 ?c3 ?c4 ?c5 ?_)
  case c2=>exact ⟨rfl,rfl,rfl,rfl,rfl,rfl⟩
  case c3=>unfold maxLen; omega
  case c4=>omega
  case c5=>have:=HB1.out.size; omega
  intro v' w' hown' hgrow _;have HO7:Hid (w'.ownsRow w.heap.size 79 7 v' (i+1) ((S.funcs.take (i+1)).flatMap sigC)):=by rw[Hid,HTS.out]; exact hown'
  have HB7:Hid (Below w.heap.size w w'):=by
   have hc:=JK hgrow;exact Kk HB1.out hc.os hc.tape hc.output hc.size (fun k hk=>hc.block k (by have:=HB1.out.size; omega) (fun hm=>by have:=(HOW.out.lt k (by simpa using hm)).1; omega))
  clear hown' hgrow HB1 HOW n2 n3 n4 HCP;go_wp2;go_roundg (S.funcs.length-(i+1))
  case measure=>have:=HG.out; omega
  case rel=>exact ⟨i+1,by omega,by go_num,HB7,HO7⟩
 ·have hil:¬ (i:Int)<(S.funcs.length:Int):=by omega
  obtain rfl:i=S.funcs.length:=by omega
  have ho2:=ho.out;rw[List.take_length] at ho2;obtain ⟨va,vn,vc,hvv⟩:=Ji ho2;subst hvv;have hb0:Below w.heap.size w (wl.alloc (.cells #[.bool false,.int .i64 0,.slice va vn vc] 147)):=hb.out.alloc hb.out.size _
  have HCK:Hid (Ck w (wl.alloc (.cells #[.bool false,.int .i64 0,.slice va vn vc] 147)) sb S wl.heap.size (addL none (ckF S 0)) (.slice va vn vc)):=by
   have hs2:=HS.out.on (Chg.of_below hb0 []) (by simp);refine Ck.mk' HS.out (zzw _ _) (JiP (ho2.alloc _) (fun f hf=>⟨(hs2.fok f hf).1,?_⟩) (fun e=>?_)) hb0 hb.out.size
   ·have:=(HS.out.ivs (f.lo,f.hi) (List.mem_append_left _ (List.mem_map.2 ⟨f,hf,rfl⟩))).2.2;have:=hb.out.size;dsimp only at *;omega
   ·have:=(ho2.lt _ e).2;omega
  have hbx:=HCK.out.ok.box;rw[HFV.out] at hbx;have b1:=Ja hbx 0;simp only[ZD,ZE,ZF] at b1;clear hi hg ho ho2 hb hb0 hbx
  have HPS:Hid (∀ s∈S.funcs.map sigM,s.params.length≤1000000000):=fun s hs=>by
   obtain ⟨f,hf,rfl⟩:=List.mem_map.1 hs;have:=(H3.out f hf).2.2.1
   show f.types.length≤_
   omega
  go_wp2_with fail;clear b1;generalize World.alloc wl _=w2 at *;generalize wl.heap.size=rb at *;generalize Value.slice va vn vc=M at *;go_loopg [36] S.funcs.length (fun g v36 wr=>∃ i:Nat,g+i=S.funcs.length∧v36=.int .i64 i∧Hid (Ck w wr sb S rb (addL none (ckF S i)) M))
  case atStart=>exact ⟨0,rfl,rfl,HCK⟩
  case round=>
  clear HCK hil;obtain ⟨wm,rfl⟩:∃ wm:World,wm=wr:=⟨_,rfl⟩
  obtain ⟨i,hg,rfl,hk⟩:=hrel
  by_cases hi:i<S.funcs.length
  ·have hil:(i:Int)<(S.funcs.length:Int):=by omega
   obtain ⟨fn,hfn⟩:∃ fn,S.funcs[i]?=some fn:=⟨S.funcs[i],List.getElem?_eq_getElem hi⟩
   have hmem:=List.mem_of_getElem? hfn;have had:=HFA.out (by omega);obtain ⟨fo,_,_⟩:=hk.out.ok.fok fn hmem;have hcl:=VG hk.out.ok hfn;obtain ⟨hwf,hsz,htl,hty⟩:=H3.out fn hmem;have HES:=Zh (Jhk hfn);have hb1:Below wm.heap.size wm (wm.alloc (.cells fn.cells.toArray 121)):=zzb.alloc zzl _;have cn:=JD (S.funcs.map sigM) rb M fn.body fn.types fn.tv (addL none (ckF S i)) fn.result _ ((hk.out.up hb1).preF hmem hty hwf) (fun W hp=>JaW _ rb M HPS.out (siz fn.body.nd) fn.body fn.types fn.tv _ W zzl (by omega) hp);have HK1:=Zh (hk.out.up hb1);obtain ⟨nm,of,ps,ts,res,b,pv,tv,flo,fhi⟩:=fn;obtain ⟨pa,pn,pc,hpv⟩:=Ji fo.pown;obtain ⟨ta,tn,tc,htv⟩:=Ji fo.town;dsimp only at hpv htv cn HES;subst hpv htv;obtain ⟨yA,yn,yc,hcg⟩:=Jg b;obtain ⟨E,hE⟩:∃ E,needE (S.funcs.map sigM) ts res b.nd=E:=⟨_,rfl⟩
   rw[hE] at cn HES;simp only[FnA.cells,hcg,List.cons_append,List.nil_append] at hcl cn HK1;have c0:=hcl 0 _ rfl;have c1:=hcl 1 _ rfl;have c2:=hcl 2 _ rfl;have c3:=hcl 3 _ rfl;have c4:=hcl 4 _ rfl;have c5:=hcl 5 _ rfl;have c6:=hcl 6 _ rfl;have c7:=hcl 7 _ rfl;have c8:=hcl 8 _ rfl;have c9:=hcl 9 _ rfl;simp only[Nat.add_zero] at c0;have wk:IntKind.i64.wrap ((i:Int)+1)=(i:Int)+1:=IntWalk.i64_in _ (by omega);have HG:=Zh hg;subst had;clear hcl hfn fo hg hcg hk hb1 hE hwf hsz htl hty hmem;go_wp2_with fail;clear c0 c1 c2 c3 c4 c5 c6 c7 c8 c9;refine cn.mono ?_;intro e w8 hr
   have HK8:Hid (Ck w w8 sb S rb (addL none (ckF S (i+1))) M):=by
    rw[Hid,HES.out,Jt];exact HK1.out.step HS.out hr
   obtain rfl:=hr.1;clear hr cn HK1;go_wp2;go_roundg (S.funcs.length-(i+1))
   case measure=>have:=HG.out; omega
   case rel=>exact ⟨i+1,by omega,by go_num,HK8⟩
  ·have hil:¬ (i:Int)<(S.funcs.length:Int):=by omega
   obtain rfl:i=S.funcs.length:=by omega
   obtain ⟨X0,hX0⟩:∃ X0,addL none (ckF S S.funcs.length)=X0:=⟨_,rfl⟩
   rw[hX0] at hk;have HX0:=Zh hX0;have HCK:Hid (Ck w wm sb S rb (addL X0 (ckC S 0)) M):=hk;have hbx:=HCK.out.ok.box;rw[HCV.out] at hbx;have b1:=Ja hbx 1;simp only[ZD,ZE,ZF] at b1;clear hi hg hk hX0 hbx H3 HFA;go_wp2_with fail;clear b1;go_loopg [54] S.clauses.length (fun g v54 wr=>∃ i:Nat,g+i=S.clauses.length∧v54=.int .i64 i∧Hid (Ck w wr sb S rb (addL X0 (ckC S i)) M))
   case atStart=>exact ⟨0,rfl,rfl,HCK⟩
   case round=>
   clear HCK hil;obtain ⟨wc,rfl⟩:∃ wc:World,wc=wr:=⟨_,rfl⟩
   obtain ⟨i,hg,rfl,hk⟩:=hrel
   by_cases hi:i<S.clauses.length
   ·have hil:(i:Int)<(S.clauses.length:Int):=by omega
    obtain ⟨c,hcc⟩:∃ c,S.clauses[i]?=some c:=⟨S.clauses[i],List.getElem?_eq_getElem hi⟩
    have hmem:=List.mem_of_getElem? hcc;have had:=HCA.out (by omega);have hcl:=JcS hk.out.ok hcc;obtain ⟨hwf,hsz,hty⟩:=H4.out c hmem;have HES:=Zh (Jhl hcc);have hb1:Below wc.heap.size wc (wc.alloc (.cells c.cells.toArray 125)):=zzb.alloc zzl _;have cn:=JD (S.funcs.map sigM) rb M c.cond [] (.slice none 0 0) (addL X0 (ckC S i)) 1 _ ((hk.out.up hb1).preC hmem hty hwf) (fun W hp=>JaW _ rb M HPS.out (siz c.cond.nd) c.cond [] (.slice none 0 0) _ W zzl (by simp; omega) hp);have HK1:=Zh (hk.out.up hb1);obtain ⟨b,ac,rs,clo,chi⟩:=c;obtain ⟨yA,yn,yc,hcg⟩:=Jg b;obtain ⟨E,hE⟩:∃ E,needE (S.funcs.map sigM) [] 1 b.nd=E:=⟨_,rfl⟩
    dsimp only at cn HES;rw[hE] at cn HES;simp only[ClA.cells,hcg,List.cons_append,List.nil_append] at hcl cn HK1;have c0:=hcl 0 _ rfl;have c1:=hcl 1 _ rfl;have c2:=hcl 2 _ rfl;have c3:=hcl 3 _ rfl;have c4:=hcl 4 _ rfl;have c5:=hcl 5 _ rfl;have c6:=hcl 6 _ rfl;simp only[Nat.add_zero] at c0;have wk:IntKind.i64.wrap ((i:Int)+1)=(i:Int)+1:=IntWalk.i64_in _ (by omega);have HG:=Zh hg;subst had;clear hcl hcc hg hcg hk hb1 hE hwf hsz hty hmem;go_wp2_with fail;clear c0 c1 c2 c3 c4 c5 c6;refine cn.mono ?_;intro e w8 hr
    have HK8:Hid (Ck w w8 sb S rb (addL X0 (ckC S (i+1))) M):=by
     rw[Hid,HES.out,Jt];exact HK1.out.step HS.out hr
    obtain rfl:=hr.1;clear hr cn HK1;go_wp2;go_roundg (S.clauses.length-(i+1))
    case measure=>have:=HG.out; omega
    case rel=>exact ⟨i+1,by omega,by go_num,HK8⟩
   ·have hil:¬ (i:Int)<(S.clauses.length:Int):=by omega
    obtain rfl:i=S.clauses.length:=by omega
    have hk2:=hk.out;rw[← HX0.out,← Jt,JjX,Zl] at hk2;have HK:=Zh hk2;have r0:=Ja HK.out.flt 0;have r1:=Ja HK.out.flt 1;simp only[ZD,ZE,ZF] at r0 r1;clear hi hg hk hk2 HX0 HCA H4 HPS
    cases hL:least (checkM S.src) with
    | none=>
     rw[hL] at r0 r1;simp only[Option.isSome,Option.getD] at r0 r1;have HL:=Zh hL;clear hL;go_wp2;go_end0;rw[HR.out];unfold EndP;rw[HL.out];exact ⟨rfl,HK.out.bel⟩
    | some er=>
     rw[hL] at r0 r1;simp only[Option.isSome,Option.getD] at r0 r1;have HL:=Zh hL;clear hL;go_wp2;refine ⟨rfl,?_⟩;rw[HR.out];unfold EndP;rw[HL.out];exact ⟨rfl,HK.out.bel⟩
mutual
def XAt (W:World) (P:Nat→Prop):Exp→Array Value→Prop
 | .mk k n s l,c=>∃ ad cc xs,c=#[.int .i64 k,.int .i64 n,.string (bs s),.slice ad l.length cc]∧l.length≤cc∧RowX W P l xs∧
   (l=[]∨∃ b o,ad=some ⟨b,o,none⟩∧P b∧∀ j u,xs[j]?=some u→W.cell? ⟨b,o+j,none⟩=some u)
def RowX (W:World) (P:Nat→Prop):List Exp→List Value→Prop
 | [],xs=>xs=[]
 | e::l,xs=>∃ c r,XAt W P e c∧xs=c.toList++r∧RowX W P l r
end
theorem wx118 {P:Prop}(h:P:=by
  rintro ⟨b,o,h5,h6,h7⟩
  exact ⟨b,o,h5,hq b h6,fun j u hj=>(World.cell?_of_block (a:=⟨b,o+j,none⟩) (hk b h6)).trans (h7 j u hj)⟩):P:=h
mutual
theorem XAt.keep {W W':World} {P Q:Nat→Prop} (hk:∀ b,P b→W'.heap[b]?=W.heap[b]?) (hq:∀ b,P b→Q b):∀ (e:Exp) (c:Array Value),XAt W P e c→XAt W' Q e c
 | .mk k n s l,c,h=>by
  unfold XAt at *;obtain ⟨ad,cc,xs,h1,h2,h3,h4⟩:=h;refine ⟨ad,cc,xs,h1,h2,RowX.keep hk hq l xs h3,h4.imp id ?_⟩;exact wx118
theorem RowX.keep {W W':World} {P Q:Nat→Prop} (hk:∀ b,P b→W'.heap[b]?=W.heap[b]?) (hq:∀ b,P b→Q b):∀ (l:List Exp) (xs:List Value),RowX W P l xs→RowX W' Q l xs
 | [],xs,h=>by unfold RowX at *; exact h
 | e::l,xs,h=>by
  unfold RowX at *;obtain ⟨c,r,h1,h2,h3⟩:=h;exact ⟨c,r,XAt.keep hk hq e c h1,h2,RowX.keep hk hq l r h3⟩
end
theorem XAt.form {W:World} {P:Nat→Prop} {e:Exp} {c:Array Value} (h:XAt W P e c):∃ ad cc,c=#[.int .i64 e.kind,.int .i64 e.num,.string (bs e.name),.slice ad e.kids.length cc]∧e.kids.length≤cc:=by
 cases e
 unfold XAt at h;obtain ⟨ad,cc,xs,h1,h2,_⟩:=h;exact ⟨ad,cc,h1,h2⟩
theorem XAt.size {W:World} {P:Nat→Prop} {e:Exp} {c:Array Value} (h:XAt W P e c):c.size=4:=by
 obtain ⟨ad,cc,rfl,_⟩:=h.form;rfl
theorem RowX.snoc {W:World} {P:Nat→Prop} {e:Exp} {c:Array Value} (he:XAt W P e c):∀ {l:List Exp} {xs:List Value},RowX W P l xs→RowX W P (l++[e]) (xs++c.toList)
 | [],xs,h=>by
  unfold RowX at h;subst h
  show RowX W P [e] _
  unfold RowX;exact ⟨c,[],he,by simp,by unfold RowX; rfl⟩
 | a::l,xs,h=>by
  unfold RowX at h;obtain ⟨c',r,h1,rfl,h3⟩:=h
  show RowX W P (a::(l++[e])) _
  unfold RowX;exact ⟨c',r++c.toList,h1,by simp,h3.snoc he⟩
theorem RowX.get {W:World} {P:Nat→Prop}:∀ {l:List Exp} {xs:List Value} {i:Nat} {e:Exp},RowX W P l xs→l[i]?=some e→∃ c,XAt W P e c∧∀ j u,c[j]?=some u→xs[i*4+j]?=some u
 | [],xs,i,e,h,hi=>by cases hi
 | a::l,xs,0,e,h,hi=>by
  unfold RowX at h;obtain ⟨c,r,h1,rfl,h3⟩:=h;obtain rfl:a=e:=by simpa using hi
  refine ⟨c,h1,fun j u hj=>?_⟩;have hl:j<c.toList.length:=by rw[Array.length_toList]; exact (Array.getElem?_eq_some_iff.1 hj).1
  rw[Nat.zero_mul,Nat.zero_add,List.getElem?_append_left hl,Array.getElem?_toList];exact hj
 | a::l,xs,i+1,e,h,hi=>by
  unfold RowX at h;obtain ⟨c,r,h1,rfl,h3⟩:=h;obtain ⟨c',g1,g2⟩:=h3.get (i:=i) (by simpa using hi);refine ⟨c',g1,fun j u hj=>?_⟩;have hl:c.toList.length=4:=by rw[Array.length_toList,h1.size]
  rw[List.getElem?_append_right (by omega),hl,show (i+1)*4+j-4=i*4+j by omega];exact g2 j u hj
theorem XAt.kid {W:World} {P:Nat→Prop} {k n:Int} {s:List UInt8} {l:List Exp} {c:Array Value} (h:XAt W P (.mk k n s l) c):∃ ad cc,c=#[.int .i64 k,.int .i64 n,.string (bs s),.slice ad l.length cc]∧l.length≤cc∧
  (l≠[]→∃ b o,ad=some ⟨b,o,none⟩∧P b∧∀ i e,l[i]?=some e→∃ d,XAt W P e d∧∀ j u,d[j]?=some u→W.cell? ⟨b,o+i*4+j,none⟩=some u):=by
 unfold XAt at h;obtain ⟨ad,cc,xs,h1,h2,h3,h4⟩:=h;refine ⟨ad,cc,h1,h2,fun hne=>?_⟩
 rcases h4 with h4 | ⟨b,o,h5,h6,h7⟩
 ·exact absurd h4 hne
 ·refine ⟨b,o,h5,h6,fun i e hi=>?_⟩;obtain ⟨d,g1,g2⟩:=h3.get hi;exact ⟨d,g1,fun j u hj=>by rw[Nat.add_assoc]; exact h7 _ u (g2 j u hj)⟩
def NumsX (W:World) (P:Nat→Prop) (l:List Int) (v:Value):Prop:=∃ ad cc,v=.slice ad l.length cc∧l.length≤cc∧(l=[]∨∃ b o,ad=some ⟨b,o,none⟩∧P b∧∀ i n,l[i]?=some n→W.cell? ⟨b,o+i,none⟩=some (.int .i64 n))
theorem NumsX.keep {W W':World} {P Q:Nat→Prop} {l:List Int} {v:Value} (hk:∀ b,P b→W'.heap[b]?=W.heap[b]?) (hq:∀ b,P b→Q b) (h:NumsX W P l v):NumsX W' Q l v:=by
 obtain ⟨ad,cc,h1,h2,h3⟩:=h;refine ⟨ad,cc,h1,h2,h3.imp id ?_⟩;rintro ⟨b,o,h4,h5,h6⟩;exact ⟨b,o,h4,hq b h5,fun i n hi=>(World.cell?_of_block (a:=⟨b,o+i,none⟩) (hk b h5)).trans (h6 i n hi)⟩
def FnX (W:World) (P:Nat→Prop) (f:FnM) (c:List Value):Prop:=∃ v d,NumsX W P f.params v∧XAt W P f.body d∧c=[.string (bs f.name),v,.int .i64 f.result]++d.toList
def ClX (W:World) (P:Nat→Prop) (m:ClM) (c:List Value):Prop:=∃ d,XAt W P m.cond d∧c=d.toList++[.int .i64 m.action,.string (bs m.reason)]
def RowOf {α:Type} (R:α→List Value→Prop):List α→List Value→Prop
 | [],xs=>xs=[]
 | e::l,xs=>∃ c r,R e c∧xs=c++r∧RowOf R l r
theorem RowOf.imp {α:Type} {R R':α→List Value→Prop} (h:∀ a c,R a c→R' a c):∀ {l:List α} {xs:List Value},RowOf R l xs→RowOf R' l xs
 | [],xs,hh=>hh
 | e::l,xs,⟨c,r,h1,h2,h3⟩=>⟨c,r,h e c h1,h2,RowOf.imp h h3⟩
theorem RowOf.snoc {α:Type} {R:α→List Value→Prop} {e:α} {c:List Value} (he:R e c):∀ {l:List α} {xs:List Value},RowOf R l xs→RowOf R (l++[e]) (xs++c)
 | [],xs,h=>by
  obtain rfl:xs=[]:=h;exact ⟨c,[],he,by simp,rfl⟩
 | a::l,xs,⟨c',r,h1,h2,h3⟩=>⟨c',r++c,h1,by rw[h2,List.append_assoc],RowOf.snoc he h3⟩
theorem RowOf.get {α:Type} {R:α→List Value→Prop} {m:Nat} (hR:∀ a c,R a c→c.length=m):∀ {l:List α} {xs:List Value} {i:Nat} {e:α},RowOf R l xs→l[i]?=some e→∃ c,R e c∧∀ j u,c[j]?=some u→xs[i*m+j]?=some u
 | [],xs,i,e,h,hi=>by cases hi
 | a::l,xs,0,e,⟨c,r,h1,h2,h3⟩,hi=>by
  obtain rfl:a=e:=by simpa using hi
  refine ⟨c,h1,fun j u hj=>?_⟩;rw[h2,Nat.zero_mul,Nat.zero_add,List.getElem?_append_left (List.getElem?_eq_some_iff.1 hj).1];exact hj
 | a::l,xs,i+1,e,⟨c,r,h1,h2,h3⟩,hi=>by
  obtain ⟨c',g1,g2⟩:=RowOf.get hR h3 (i:=i) (by simpa using hi);refine ⟨c',g1,fun j u hj=>?_⟩;have hl:=hR _ _ h1;rw[h2,List.getElem?_append_right (by rw[hl,Nat.add_mul]; omega),hl,show (i+1)*m+j-m=i*m+j by rw[Nat.add_mul]; omega];exact g2 j u hj
theorem FnX.len {W:World} {P:Nat→Prop} (f:FnM) (c:List Value) (h:FnX W P f c):c.length=7:=by
 obtain ⟨v,d,_,h2,rfl⟩:=h;have:=h2.size;simp[this]
theorem ClX.len {W:World} {P:Nat→Prop} (f:ClM) (c:List Value) (h:ClX W P f c):c.length=6:=by
 obtain ⟨d,h2,rfl⟩:=h;have:=h2.size;simp[this]
theorem FnX.keep {W W':World} {P Q:Nat→Prop} (hk:∀ b,P b→W'.heap[b]?=W.heap[b]?) (hq:∀ b,P b→Q b) (f:FnM) (c:List Value) (h:FnX W P f c):FnX W' Q f c:=by
 obtain ⟨v,d,h1,h2,h3⟩:=h;exact ⟨v,d,h1.keep hk hq,h2.keep hk hq,h3⟩
theorem ClX.keep {W W':World} {P Q:Nat→Prop} (hk:∀ b,P b→W'.heap[b]?=W.heap[b]?) (hq:∀ b,P b→Q b) (f:ClM) (c:List Value) (h:ClX W P f c):ClX W' Q f c:=by
 obtain ⟨d,h2,h3⟩:=h;exact ⟨d,h2.keep hk hq,h3⟩
def SliceOf {α:Type} (W:World) (P:Nat→Prop) (R:α→List Value→Prop) (l:List α) (v:Value):Prop:=
 ∃ ad cc xs,v=.slice ad l.length cc∧l.length≤cc∧RowOf R l xs∧(l=[]∨∃ b o,ad=some ⟨b,o,none⟩∧P b∧∀ j u,xs[j]?=some u→W.cell? ⟨b,o+j,none⟩=some u)
theorem SliceOf.keep {α:Type} {W W':World} {P Q:Nat→Prop} {R R':α→List Value→Prop} {l:List α} {v:Value} (hk:∀ b,P b→W'.heap[b]?=W.heap[b]?) (hq:∀ b,P b→Q b) (hR:∀ a c,R a c→R' a c) (h:SliceOf W P R l v):SliceOf W' Q R' l v:=by
 obtain ⟨ad,cc,xs,h1,h2,h3,h4⟩:=h;refine ⟨ad,cc,xs,h1,h2,h3.imp hR,h4.imp id ?_⟩;exact wx118
theorem SliceOf.get {α:Type} {W:World} {P:Nat→Prop} {R:α→List Value→Prop} {m:Nat} (hR:∀ a c,R a c→c.length=m) {l:List α} {v:Value} (h:SliceOf W P R l v):∃ ad cc,v=.slice ad l.length cc∧l.length≤cc∧
  (l≠[]→∃ b o,ad=some ⟨b,o,none⟩∧P b∧∀ i e,l[i]?=some e→∃ c,R e c∧∀ j u,c[j]?=some u→W.cell? ⟨b,o+i*m+j,none⟩=some u):=by
 obtain ⟨ad,cc,xs,h1,h2,h3,h4⟩:=h;refine ⟨ad,cc,h1,h2,fun hne=>?_⟩
 rcases h4 with h4 | ⟨b,o,h5,h6,h7⟩
 ·exact absurd h4 hne
 ·refine ⟨b,o,h5,h6,fun i e hi=>?_⟩;obtain ⟨d,g1,g2⟩:=RowOf.get hR h3 hi;exact ⟨d,g1,fun j u hj=>by rw[Nat.add_assoc]; exact h7 _ u (g2 j u hj)⟩
def RuleX (W:World) (P:Nat→Prop) (r:RuleM) (c:Array Value):Prop:=∃ fv cv,c=#[fv,cv,.int .i64 r.action]∧SliceOf W P (FnX W P) r.funcs fv∧SliceOf W P (ClX W P) r.clauses cv
theorem RuleX.keep {W W':World} {P Q:Nat→Prop} {r:RuleM} {c:Array Value} (hk:∀ b,P b→W'.heap[b]?=W.heap[b]?) (hq:∀ b,P b→Q b) (h:RuleX W P r c):RuleX W' Q r c:=by
 obtain ⟨fv,cv,h1,h2,h3⟩:=h;exact ⟨fv,cv,h1,h2.keep hk hq (FnX.keep hk hq),h3.keep hk hq (ClX.keep hk hq)⟩
theorem wx44 {P:Prop}(h:P:=by
  rcases h.2 with ⟨rfl,h0⟩ | ⟨g,cap,cur,rfl,h1,h2,h3,h4,h5,h6⟩
  ·have:l=[]:=List.eq_nil_of_length_eq_zero h0;subst this;exact ⟨none,0,xs,rfl,Nat.le_refl _,hr,.inl rfl⟩
  ·refine ⟨_,cap,xs,rfl,h3,hr,.inr ⟨g,0,rfl,hP g rfl,fun j u hj=>?_⟩⟩;have:=h.cells (g:=g) rfl j u hj;have hadd:(⟨g,0,none⟩:Addr).add j=⟨g,j,none⟩:=by unfold Addr.add; split <;> simp_all
   rw[hadd] at this;rw[Nat.zero_add]
   exact this):P:=h
theorem SliceOf.own {α:Type} {W:World} {P:Nat→Prop} {R:α→List Value→Prop} {l:List α} {v:Value} {base e size:Nat} {xs:List Value} (h:W.ownsRow base e size v l.length xs) (hr:RowOf R l xs) (hP:∀ g,v.ownBlock=some g→P g):SliceOf W P R l v:=by
 exact wx44
theorem XAt.own {W:World} {P:Nat→Prop} {k n:Int} {s:List UInt8} {l:List Exp} {v:Value} {base e size:Nat} {xs:List Value} (h:W.ownsRow base e size v l.length xs) (hr:RowX W P l xs) (hP:∀ g,v.ownBlock=some g→P g):XAt W P (.mk k n s l) #[.int .i64 k,.int .i64 n,.string (bs s),v]:=by
 unfold XAt;exact wx44
theorem infoExprP:(prog.info? 50).map (fun i=>(i.zero,i.size,i.bytes))=some (some (.agg #[.int .i64 0,.int .i64 0,.string ⟨#[]⟩,.slice none 0 0]),4,56):=by kernel_rfl
theorem infoExpr:(prog.info? 50).map (·.size)=some 4:=by kernel_rfl
def Since (w W:World) (b:Nat):Prop:=w.heap.size≤b∧b<W.heap.size
structure TrI (w:World) (rs bx lo:Nat) (k n:Int) (s:List UInt8) (W:World) (l:List Exp) (V:Value) (xs:List Value):Prop where
 own:W.ownsRow lo 50 4 V l.length xs
 row:RowX W (fun b=>lo≤b∧b<W.heap.size∧V.ownBlock≠some b) l xs
 box:W.heap[bx]?=some (.cells #[.int .i64 k,.int .i64 n,.string (bs s),V] 50 (0,0))
 res:W.heap[rs]?=some (.cells #[.int .i64 0,.int .i64 0,.string ⟨#[]⟩,.slice none 0 0] 50 (0,0))
 bel:Below w.heap.size w W
 low:w.heap.size≤rs∧rs<bx∧bx<lo∧lo≤W.heap.size
section
variable {w:World} {rs bx lo:Nat} {k n:Int} {s:List UInt8} {W W':World} {l:List Exp} {V:Value} {xs:List Value}
theorem TrI.up (h:TrI w rs bx lo k n s W l V xs) (hb:Below W.heap.size W W'):TrI w rs bx lo k n s W' l V xs:=by
 obtain ⟨l1,l2,l3,l4⟩:=h.low;have hc:=Chg.of_below hb []
 exact ⟨Jx h.own hc (by simp),RowX.keep (fun b hP=>hb.block b hP.2.1) (fun b hP=>⟨hP.1,Nat.lt_of_lt_of_le hP.2.1 hb.size,hP.2.2⟩) _ _ h.row,(hb.block _ (Jb h.box)).trans h.box,(hb.block _ (Jb h.res)).trans h.res,
  ⟨hb.os.trans h.bel.os,hb.tape.trans h.bel.tape,hb.output.trans h.bel.output,Nat.le_trans h.bel.size hb.size,fun q hq=>(hb.block q (Nat.lt_of_lt_of_le hq h.bel.size)).trans (h.bel.block q hq)⟩,l1,l2,l3,Nat.le_trans l4 hb.size⟩
theorem wx64 {P:Prop}(h:P:=by
  exact ⟨hst.os.trans (hc7.os.trans h6.bel.os),hst.tape.trans (hc7.tape.trans h6.bel.tape),hst.output.trans (hc7.output.trans h6.bel.output),by omega,fun q hq=>(hkeep q (by omega) (fun e1=>by have h1:=(hrow _ e1).1; omega) (by omega)).trans (h6.bel.block q hq)⟩):P:=h
theorem TrI.step {w1 w6 w7:World} {e:Exp} {c:Array Value} {V':Value} {X:Obj} (h:TrI w rs bx lo k n s w1 l V xs) (hb:Below w1.heap.size w1 w6) (hx:XAt w6 (Since w1 w6) e c)
  (hown:w7.ownsRow lo 50 4 V' (l.length+1) (xs++c.toList)) (hgr:(w6.alloc X).grownBy w7 V.ownBlock) (hfr:V'.ownBlock=V.ownBlock∨V'.ownBlock=some (w6.alloc X).heap.size) :
  TrI w rs bx lo k n s (w7.setCell ⟨bx,3,none⟩ V') (l++[e]) V' (xs++c.toList)∧w7.heap[bx]?=some (.cells #[.int .i64 k,.int .i64 n,.string (bs s),V] 50 (0,0)):=by
 have h6:=h.up hb;obtain ⟨l1,l2,l3,l4⟩:=h6.low;have hrow:∀ g,V.ownBlock=some g→lo≤g∧g<w1.heap.size:=fun g hg=>h.own.lt g hg
 have hc7:=JK hgr;have hbx7:w7.heap[bx]?=some (.cells #[.int .i64 k,.int .i64 n,.string (bs s),V] 50 (0,0)):=hc7.heap_some (fun hm=>by have:=(hrow bx (by simpa using hm)).1; omega) h6.box;have hst:Chg [bx] w7 (w7.setCell ⟨bx,3,none⟩ V'):=(Chg.refl _ _).setCell (.inl (by simp:bx∈[bx])) (p:=⟨bx,3,none⟩) V';have hkeep:∀ q,q<w6.heap.size→V.ownBlock≠some q→q≠bx→(w7.setCell ⟨bx,3,none⟩ V').heap[q]?=w6.heap[q]?:=fun q hq hn hne=>(hst.block q (Nat.lt_of_lt_of_le hq hc7.size) (by simpa using hne)).trans (hc7.block q hq (by simpa using hn))
 have hsz:w6.heap.size≤(w7.setCell ⟨bx,3,none⟩ V').heap.size:=Nat.le_trans hc7.size hst.size
 have hV':∀ b,b<w6.heap.size→V.ownBlock≠some b→V'.ownBlock≠some b:=by
  intro b hb1 hb2 e1
  rcases hfr with e2 | e2
  ·exact hb2 (e2.symm.trans e1)
  ·rw[e2] at e1;simp at e1;omega
 have hb16:=hb.size;refine ⟨⟨?_,RowX.snoc ?_ ?_,?_,?_,?_,l1,l2,l3,Nat.le_trans l4 hsz⟩,hbx7⟩
 ·rw[List.length_append];exact Jx hown hst (by simp; omega)
 ·refine XAt.keep (P:=Since w1 w6) (fun b hP=>?_) (fun b hP=>?_) _ _ hx
  ·exact hkeep b hP.2 (fun e1=>by have h1:=(hrow b e1).2; have h2:=hP.1; omega) (by have h2:=hP.1; have:=h.low; omega)
  ·have h2:=hP.1;have h3:=hP.2;have:=h.low;exact ⟨by omega,by omega,hV' b h3 (fun e1=>by have h1:=(hrow b e1).2; omega)⟩
 ·exact RowX.keep (fun b hP=>hkeep b hP.2.1 hP.2.2 (by have:=hP.1; omega)) (fun b hP=>⟨hP.1,by have:=hP.2.1; omega,hV' b hP.2.1 hP.2.2⟩) _ _ h6.row
 ·exact JC hbx7 3 V'
 ·exact (hkeep _ (Jb h6.res) (fun e1=>by have h1:=(hrow _ e1).1; omega) (by omega)).trans h6.res
 ·have hlw:w.heap.size≤w6.heap.size:=h6.bel.size;exact wx64
theorem TrI.fin (h:TrI w rs bx lo k n s W l V xs):let W':=(((W.setCell ⟨rs,0,none⟩ (.int .i64 k)).setCell ⟨rs,1,none⟩ (.int .i64 n)).setCell ⟨rs,2,none⟩ (.string (bs s))).setCell ⟨rs,3,none⟩ V
  XAt W' (Since w W') (.mk k n s l) #[.int .i64 k,.int .i64 n,.string (bs s),V]∧Below w.heap.size w W':=by
 intro W';obtain ⟨l1,l2,l3,l4⟩:=h.low;have hst:Chg [rs] W W':=((((Chg.refl _ _).setCell (.inl (by simp)) _).setCell (.inl (by simp)) _).setCell (.inl (by simp)) _).setCell (.inl (by simp)) _;have hsz:=hst.size;refine ⟨XAt.own (Jx h.own hst (by simp; omega)) (RowX.keep (fun b hP=>hst.block b hP.2.1 (by have:=hP.1; simp; omega)) (fun b hP=>⟨by have:=hP.1; omega,by have:=hP.2.1; omega⟩) _ _ h.row) (fun g hg=>?_),set4Z _ _ _ _ h.bel l1⟩;have:=h.own.lt g hg;exact ⟨by omega,by omega⟩
end
theorem Jfd (l:List Nd) (a:Nd):treeL (l++[a])=treeL l++[treeN a]:=by
 induction l with
 | nil=>simp[treeL]
 | cons x r ih=>simp[treeL,ih]
def TrP (w:World) (x:Exp) (e:Ending) (w':World):Prop:=∃ c,e=.returned (.agg c)∧XAt w' (Since w w') x c∧Below w.heap.size w w'
theorem Jfe (n:Nat) (IH:∀ (a:An) (w:World),siz a.nd≤n→a.At w→Calls prog 77 #[.agg (cellsN a)] w (TrP w (treeN a.nd))) (k nn:Int) (s:List UInt8) (off:Int) (b c:Nat) (l:List An) (w:World) (hn:sizL (ndL l)≤n) (hb:n≤100000000) (hat:(An.mk k nn s off b c l).At w) :
  Calls prog 77 #[.agg (cellsN (.mk k nn s off b c l))] w (TrP w (.mk k nn s (treeL (ndL l)))):=by
 obtain ⟨R,hR⟩:∃ R,TrP w (.mk k nn s (treeL (ndL l)))=R:=⟨_,rfl⟩
 rw[hR];have HR:Hid (R=TrP w (.mk k nn s (treeL (ndL l)))):=hR.symm;obtain ⟨ad,cc,hkv,had⟩:=Jn b c l
 have hcs:cellsN (.mk k nn s off b c l)=#[.int .i64 k,.int .i64 nn,.string (bs s),.int .i64 off,.slice ad l.length cc]:=by
  show #[_,_,_,_,kidsV b c l]=_
  rw[hkv]
 have hbA:Below w.heap.size w (((w.alloc (.cells #[.int .i64 k,.int .i64 nn,.string (bs s),.int .i64 off,.slice ad l.length cc] 119)).alloc (.cells #[.int .i64 0,.int .i64 0,.string ⟨#[]⟩,.slice none 0 0] 50)).alloc (.cells #[.int .i64 k,.int .i64 nn,.string (bs s),.slice none 0 0] 50)):=((zzb.alloc zzl _).alloc (by simp) _).alloc (by simp; omega) _
 have HI0:Hid (TrI w (w.heap.size+1) (w.heap.size+1+1) (w.heap.size+1+1+1) k nn s (((w.alloc (.cells #[.int .i64 k,.int .i64 nn,.string (bs s),.int .i64 off,.slice ad l.length cc] 119)).alloc (.cells #[.int .i64 0,.int .i64 0,.string ⟨#[]⟩,.slice none 0 0] 50)).alloc (.cells #[.int .i64 k,.int .i64 nn,.string (bs s),.slice none 0 0] 50)) [] (.slice none 0 0) []):=by
  have e1:=zzw (w.alloc (.cells #[.int .i64 k,.int .i64 nn,.string (bs s),.int .i64 off,.slice ad l.length cc] 119)) (.cells #[.int .i64 0,.int .i64 0,.string ⟨#[]⟩,.slice none 0 0] 50);have e2:=zzw ((w.alloc (.cells #[.int .i64 k,.int .i64 nn,.string (bs s),.int .i64 off,.slice ad l.length cc] 119)).alloc (.cells #[.int .i64 0,.int .i64 0,.string ⟨#[]⟩,.slice none 0 0] 50)) (.cells #[.int .i64 k,.int .i64 nn,.string (bs s),.slice none 0 0] 50);simp only[World.size_alloc] at e1 e2;exact ⟨⟨rfl,.inl ⟨rfl,rfl⟩⟩,by unfold RowX; rfl,e2,Jf e1,hbA,by omega,by omega,by omega,by simp⟩
 have HNB:Hid ((((w.alloc (.cells #[.int .i64 k,.int .i64 nn,.string (bs s),.int .i64 off,.slice ad l.length cc] 119)).alloc (.cells #[.int .i64 0,.int .i64 0,.string ⟨#[]⟩,.slice none 0 0] 50)).alloc (.cells #[.int .i64 k,.int .i64 nn,.string (bs s),.slice none 0 0] 50)).heap[w.heap.size]?=some (.cells #[.int .i64 k,.int .i64 nn,.string (bs s),.int .i64 off,.slice ad l.length cc] 119 (0,0))):=Jf (Jf (zzw _ _));have HAT:=Zh hat;have HAD:=Zh had;have HIH:=Zh IH;have hll:l.length≤100000000:=by have:=Jw l; omega
 have HSZ:=Zh hn;rw[hcs];clear hR hbA hkv had hcs IH hat hn;go_enter func77,ntmps77;go_wp2_with fail;generalize World.alloc (World.alloc (World.alloc w _) _) _=w1 at *;generalize w.heap.size+1+1+1=lo at *;generalize w.heap.size+1+1=bx at *;generalize w.heap.size+1=rs at *;have HLW:Hid (w.heap.size<w1.heap.size):=Jb HNB.out;have n4:=Ja HNB.out 4;simp only[ZD,ZE,ZF] at n4;go_wp2_with fail;clear n4;go_loopg [16] l.length (fun g v16 wr=>∃ i:Nat,g+i=l.length∧v16=.int .i64 i∧Hid (∃ V xs,TrI w rs bx lo k nn s wr (treeL (ndL (l.take i))) V xs)∧Hid (Below w.heap.size w wr))
 case atStart=>exact ⟨0,rfl,rfl,⟨_,_,HI0.out⟩,HI0.out.bel⟩
 case round=>
 clear HI0 HNB;obtain ⟨wl,rfl⟩:∃ wl:World,wl=wr:=⟨_,rfl⟩
 obtain ⟨i,hg,rfl,hti,hbw⟩:=hrel;obtain ⟨V,xs,hti⟩:=hti.out;obtain ⟨va,vn,vc,rfl⟩:=Ji hti.own
 by_cases hi:i<l.length
 ·have hil:(i:Int)<(l.length:Int):=by omega
  obtain ⟨y,hy⟩:∃ y,l[i]?=some y:=⟨l[i],List.getElem?_eq_getElem hi⟩
  have hmem:=List.mem_of_getElem? hy;have had':ad=some ⟨b,0,none⟩:=HAD.out (List.ne_nil_of_mem hmem);have hat:=HAT.out;have hat2:(An.mk k nn s off b c l).At wl:=JE _ hat fun q hq=>hbw.out.block q (JaL _ hat q hq)
  unfold An.At at hat2;obtain ⟨hcl,hya⟩:=JO hat2.2 hy;rw[Nat.zero_add] at hcl;obtain ⟨yA,yn,yc,hcf⟩:=Jg y;rw[hcf] at hcl;have c0:=hcl 0 _ rfl;have c1:=hcl 1 _ rfl;have c2:=hcl 2 _ rfl;have c3:=hcl 3 _ rfl;have c4:=hcl 4 _ rfl;simp only[Nat.add_zero] at c0;have wk:IntKind.i64.wrap ((i:Int)+1)=(i:Int)+1:=IntWalk.i64_in _ (by omega);have hb2:Below wl.heap.size wl (wl.alloc (.cells #[.int .i64 y.kind,.int .i64 y.num,.string (bs y.name),.int .i64 y.off,.slice yA yn yc] 119)):=zzb.alloc zzl _;have HTI:=Zh (hti.up hb2);have HYA:=Zh (JE y hya fun q hq=>hb2.block q (JaL y hya q hq));have HCP:=Zh (zzw wl (.cells #[.int .i64 y.kind,.int .i64 y.num,.string (bs y.name),.int .i64 y.off,.slice yA yn yc] 119));have HTS:Hid (treeL (ndL (l.take (i+1)))=treeL (ndL (l.take i))++[treeN y.nd]):=by rw[Hid,List.take_add_one,hy]; show treeL (ndL (_++[y]))=_; rw[KL,Jfd]
  have HLN:Hid ((treeL (ndL (l.take i))).length≤100000000):=by
   have e1:∀ q:List Nd,(treeL q).length=q.length:=fun q=>by induction q with
    | nil=>rfl
    | cons x r ih=>simp[treeL,ih]
   have e2:∀ q:List An,(ndL q).length=q.length:=fun q=>by rw[J7,List.length_map]
   rw[Hid,e1,e2,List.length_take];omega
  have HYS:Hid (siz y.nd≤n):=by have:=JH hmem; have:=HSZ.out; rw[Hid]; omega
  have HYF:=Zh hcf;have HG:=Zh hg;subst had';clear hat hat2 hcl hcf hb2 hti hy hmem HAD hg hya hbw;go_upto_region 5 with fail;clear c0 c1 c2 c3 c4;generalize World.alloc wl _=wk0 at *;generalize wl.heap.size=cb at *;have hD:Below wk0.heap.size wk0 wk0.drew:=(Below.refl wk0.heap.size wk0).drew;replace HTI:=Zh (HTI.out.up hD);replace HYA:=Zh (JE y HYA.out fun q hq=>hD.block q (JaL y HYA.out q hq));replace HCP:=Zh ((hD.block _ (Jb HCP.out)).trans HCP.out);clear hD;have b3:=Ja HTI.out.box 3;simp only[ZD,ZE,ZF] at b3;refine LB (fun W=>W.cell? ⟨bx,3,none⟩=some (.slice va vn vc)) 7 (b3) fun hH=>?_
  generalize wk0.drew=wk1 at *;refine LK 0 rfl ?_;refine LK 1 rfl ?_;refine LO 2 rfl fun K hK=>?_
  have hbx:=HCP.out;have p0:=Ja hbx 0;have p1:=Ja hbx 1;have p2:=Ja hbx 2;have p3:=Ja hbx 3;have p4:=Ja hbx 4;simp only[ZD,ZE,ZF] at p0 p1 p2 p3 p4;go_simp;clear p0 p1 p2 p3 p4 hbx;refine hK.out _ _ (b3) fun hH=>?_
  clear hK K;refine LO 3 rfl fun K hK=>?_
  have ci:=HIH.out y _ HYS.out HYA.out;rw[HYF.out] at ci
  (go_simp; go_at_call 77; refine ci.mono ?_; intro e w6 h6)
  clear ci;obtain ⟨cy,rfl,hx6,hb6⟩:=h6;obtain ⟨ca,cm,hcy,hcm⟩:=hx6.form;have HX6:=Zh hx6;have HB6:=Zh hb6;have HCY:=Zh hcy;replace HCP:=Zh ((hb6.block _ (Jb HCP.out)).trans HCP.out);have HT6:=Zh (HTI.out.up hb6);have HOW:Hid ((w6.alloc (.cells cy 50)).ownsRow lo 50 4 (.slice va vn vc) (treeL (ndL (l.take i))).length xs):=HT6.out.own.alloc _;have HRW:Hid ((w6.alloc (.cells cy 50)).heap[w6.heap.size]?=some (.cells cy.toList.toArray 50 (0,0))):=zzw _ _;have hlo6:lo≤(w6.alloc (.cells cy 50)).heap.size:=by have:=HT6.out.low; rw[World.size_alloc]; omega
  replace b3:=Ja HT6.out.box 3;simp only[ZD,ZE,ZF] at b3;rw[hcy] at HOW HRW hlo6 ⊢;clear hx6 hb6 hcy hcm;refine hK.out _ _ (b3) fun hH=>?_
  clear hK K;refine LO 4 rfl fun K hK=>?_
  go_simp;refine hK.out _ _ (by simp[*,World.cell?_alloc_some]) fun hH=>?_
  clear hK K;refine LO 5 rfl fun K hK=>?_
  (refine Js (w6.alloc (.cells #[.int .i64 (treeN y.nd).kind,.int .i64 (treeN y.nd).num,.string (bs (treeN y.nd).name),.slice ca (treeN y.nd).kids.length cm] 50)) (by rfl) (.tmp 21) (.tmp 24) 48 50 _ 4 56 (by rfl) underlying48 infoExprP rfl (by decide) lo (.slice va vn vc) (treeL (ndL (l.take i))).length xs [.int .i64 (treeN y.nd).kind,.int .i64 (treeN y.nd).num,.string (bs (treeN y.nd).name),.slice ca (treeN y.nd).kids.length cm] (by rfl) HOW.out w6.heap.size (by rfl) HRW.out rfl (by intro u hu; simp at hu; rcases hu with rfl | rfl | rfl | rfl <;> rfl) HLN.out (by decide) hlo6 ?_; intro v7 w7 hown7 hgr7 hfr7)
  obtain ⟨a7,m7,c7,rfl⟩:=Ji hown7;have hst:=TrI.step (V':=.slice a7 m7 c7) HTI.out HB6.out HX6.out (by rw[HCY.out]; exact hown7) hgr7 hfr7;replace b3:=Ja hst.2 3;simp only[ZD,ZE,ZF] at b3;have f3:=Jc hst.2 3;have hl7:=Jb hst.2;have HST:=Zh hst.1;clear hown7 hgr7 hfr7 hst HOW HRW hlo6;refine hK.out _ _ (b3) fun hH=>?_
  clear hK K;refine LK 6 rfl ?_;refine LZ 7 rfl fun K hK=>?_
  go_simp;clear b3 f3 hl7;refine hK.out _ _ ?_;clear hK K;have HB7:Hid (Below w.heap.size w (w7.setCell ⟨bx,3,none⟩ (.slice a7 m7 c7))):=HST.out.bel;go_wp2;go_roundg (l.length-(i+1))
  case measure=>have:=HG.out; omega
  case rel=>exact ⟨i+1,by omega,by go_num,⟨_,_,by rw[HTS.out]; exact HST.out⟩,HB7⟩
 ·have hil:¬ (i:Int)<(l.length:Int):=by omega
  obtain rfl:i=l.length:=by omega
  rw[List.take_length] at hti;have HTI:=Zh hti;have hbx:=hti.box;have hrs:=hti.res;have b0:=Ja hbx 0;have b1:=Ja hbx 1;have b2:=Ja hbx 2;have b3:=Ja hbx 3;have z0:=Ja hrs 0;have z1:=Ja hrs 1;have z2:=Ja hrs 2;have z3:=Ja hrs 3;simp only[ZD,ZE,ZF] at b0 b1 b2 b3 z0 z1 z2 z3;have y0:=Jc hrs 0;have y1:=Jc hrs 1;have y2:=Jc hrs 2;have y3:=Jc hrs 3;clear hi hg hti hbx hrs;go_wp2;refine bodyPost_ret (v:=.agg #[.int .i64 k,.int .i64 nn,.string (bs s),.slice va vn vc]) (results_cell_row rfl _ _ rs 50 _ (0,0) _ rfl (blk4Z _ _ _ _ HTI.out.res) underlying50 rfl infoExpr) rfl ?_;rw[HR.out];obtain ⟨e1,e2⟩:=HTI.out.fin;exact ⟨_,rfl,e1,e2⟩
theorem VH:∀ n,n≤100000000→∀ (a:An) (w:World),siz a.nd≤n→a.At w→Calls prog 77 #[.agg (cellsN a)] w (TrP w (treeN a.nd))
 | 0,_,a,w,h,_=>by have:=KN a.nd; omega
 | n+1,hn,.mk k nn s off b c l,w,h,hat=>by
  rw[YK] at h;have e:treeN (An.mk k nn s off b c l).nd=.mk k nn s (treeL (ndL l)):=by unfold An.nd; rw[treeN]
  rw[e];exact Jfe n (fun a w h1 h2=>VH n (by omega) a w h1 h2) k nn s off b c l w (by omega) (by omega) hat
end Go.Proofs.YtncanmdgdflnpaaGreatDoor
