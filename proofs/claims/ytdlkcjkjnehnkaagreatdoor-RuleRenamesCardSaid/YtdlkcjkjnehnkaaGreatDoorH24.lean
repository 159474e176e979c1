import Derived.Test.YtdlkcjkjnehnkaaGreatDoorH19
import Derived.Test.YtdlkcjkjnehnkaaGreatDoorH23
open List(append_eq_nil_iff length_map)
namespace Go.Proofs.YtdlkcjkjnehnkaaGreatDoor
open Go.ChangeShapes Go.WideShapes Go.ChangeAt Go.RowKit Go.Lib
open _root_.Go.Proofs.Tryz
set_option linter.all false
set_option maxRecDepth 100000
set_option maxHeartbeats 32000000
def Qid(f:FnA):List Value:=[.string ⟨#[]⟩,f.tv,.int .i64 f.result,.int .i64 0,.int .i64 0,.string ⟨#[]⟩,.slice none 0 0]
def Qfz(f:FnA):Qbn:=⟨f.types,f.result⟩
theorem JcL(f:FnA):(Qid f).length=7:=rfl
theorem QcZ:(prog.info? 44).map (fun i=>(i.zero,i.size,i.bytes))=some (some (.agg #[.string ⟨#[]⟩,.slice none 0 0,.int .i64 0,.int .i64 0,.int .i64 0,.string ⟨#[]⟩,.slice none 0 0]),7,104):=by kernel_rfl
theorem JfW{W:World}{rb:Nat}{f:FnA}(h:f.Ok W)(hr:f.hi<=rb):QbZ W rb f.tv f.types:=by
 obtain⟨m,m1,m2,m3,m4,m5⟩:=h.bmd;have ht:=h.town
 rcases ht.2 with⟨e,e0⟩|⟨g,cap,cur,e,e2,e3,e4,_⟩
 ·exact .inl ⟨List.eq_nil_of_length_eq_zero e0,none,0,e⟩
 ·have hg:=m4 g (by rw[e];rfl);have hw:=h.hle;refine .inr ⟨g,0,cap,e,e4,by omega,by omega,fun i n hi=>?_⟩
  ·have hc:=JZ ht (j:=i) (u:=.int .i64 n) (by unfold Qbx;rw[List.getElem?_map,hi];rfl);rw[e]at hc;rw[Nat.zero_add];exact hc
theorem Jkn{W:World}{base rb:Nat}{v:Value}{l:List FnA}(h:W.ownsRow base 44 7 v l.length (l.flatMap Qid))(hv:∀ f∈l,f.Ok W/\f.hi<=rb)(hrb:v.ownBlock≠some rb):Qdf W rb v (l.map Qfz):=by
 obtain⟨ad,cc,e,had⟩:=Va h;refine⟨ad,cc,by rw[length_map];exact e,fun hne=>?_⟩
 have hpos:0<l.length:=by
  rcases l with _|⟨a,l⟩
  ·exact absurd rfl hne
  ·exact Nat.succ_pos _
 have ha:=had hpos;subst ha;refine⟨Value.blk v,0,rfl,fun hb=>hrb (by rw[<- hb];exact Vh h hpos),fun i s hs=>?_⟩;rw[List.getElem?_map]at hs;obtain⟨f,hf,rfl⟩:=Option.map_eq_some_iff.1 hs;obtain⟨o1,o2⟩:=hv f (List.mem_of_getElem? hf);refine⟨⟨#[]⟩,f.tv,0,0,⟨#[]⟩,none,0,0,JfW o1 o2,fun j u hj=>?_⟩;have:=JZ h (Kp JcL l i j f u hf hj);rw[Nat.zero_add];exact this
structure Ck(w W:World)(sb:Nat)(S:Qap)(rb:Nat)(x:Option Int)(M:Value):Prop where
 ok:QaL W sb S
 flt:Qba W rb 99 x M
 sigs:Qdf W rb M (S.funcs.map Qfz)
 bel:Below w.heap.size w W
 num:w.heap.size<=rb
 his:∀ iv∈S.ivs,iv.2<=w.heap.size
section
variable {w W W':World} {sb:Nat} {S:Qap} {rb:Nat} {x:Option Int} {M:Value}
theorem Ck.mk'(h:QaL w sb S)(hf:Qba W rb 99 x M)(hs:Qdf W rb M (S.funcs.map Qfz))(hb:Below w.heap.size w W)(hn:w.heap.size<=rb):Ck w W sb S rb x M:=
 ⟨h.on (Chg.of_below hb []) (by simp),hf,hs,hb,hn,fun iv hi=>(h.ivs iv hi).2.2⟩
theorem Ck.up(h:Ck w W sb S rb x M)(hb:Below W.heap.size W W'):Ck w W' sb S rb x M:=
 ⟨h.ok.on (Chg.of_below hb []) (by simp),(hb.block _ (Jb h.flt)).trans h.flt,h.sigs.chg (Chg.of_below hb [rb]),Kz h.bel hb.os hb.tape hb.output hb.size (fun k hk=>hb.block k (Nat.lt_of_lt_of_le hk h.bel.size)),h.num,h.his⟩
theorem Ck.step(h0:QaL w sb S)(h:Ck w W sb S rb x M){errs:List Int}{v:Value}{e:Ending}(ht:TyP W rb M x errs v e W'):Ck w W' sb S rb (QaK x errs) M:=by
 obtain⟨_,hf,hc⟩:=ht;have hn:=h.num;exact Ck.mk' h0 hf (h.sigs.chg hc) (Kz h.bel hc.os hc.tape hc.output hc.size (fun k hk=>hc.block k (Nat.lt_of_lt_of_le hk h.bel.size) (by simp;omega))) hn
theorem Ck.preF{f:FnA}(h:Ck w W sb S rb x M)(hf:f∈S.funcs)(hk:QdW S.funcs.length f.types.length f.body.nd)(hw:WfN f.body.nd):Qas (S.funcs.map Qfz) rb M W x f.types f.tv f.body:=by
 obtain⟨fo,f1,f2⟩:=h.ok.fok f hf;have hi:=h.his (f.lo,f.hi) (List.mem_append_left _ (List.mem_map.2 ⟨f,hf,rfl⟩));have hn:=h.num;have hfo:=JaF fo;dsimp only at hi;exact⟨fo.bat,fun hm=>by have:=hfo _ hm;omega,h.flt,h.sigs,JfW fo (by omega),by rw[length_map];exact hk,hw⟩
theorem Ck.preC{c:ClA}(h:Ck w W sb S rb x M)(hc:c∈S.clauses)(hk:QdW S.funcs.length 0 c.cond.nd)(hw:WfN c.cond.nd):Qas (S.funcs.map Qfz) rb M W x [] (.slice none 0 0) c.cond:=by
 obtain⟨co,c1⟩:=h.ok.cok c hc;have hi:=h.his (c.lo,c.hi) (List.mem_append_right _ (List.mem_map.2 ⟨c,hc,rfl⟩));have hn:=h.num;dsimp only at hi;exact⟨co.at',fun hm=>by have:=(co.made.2 _ hm).2;omega,h.flt,h.sigs,.inl ⟨rfl,none,0,rfl⟩,by rw[length_map];exact hk,hw⟩
end
def ckF(S:Qap)(i:Nat):List Int:=((S.funcs.take i).map fun f=>Qbz (S.funcs.map Qfz) f.types f.result f.body.nd).flatten
def ckC(S:Qap)(i:Nat):List Int:=((S.clauses.take i).map fun c=>Qbz (S.funcs.map Qfz) [] 1 c.cond.nd).flatten
theorem Jil{S:Qap}{i:Nat}{f:FnA}(h:S.funcs[i]?=some f):ckF S (i+1)=ckF S i++Qbz (S.funcs.map Qfz) f.types f.result f.body.nd:=by unfold ckF;rw[J0 h];simp
theorem Jim{S:Qap}{i:Nat}{c:ClA}(h:S.clauses[i]?=some c):ckC S (i+1)=ckC S i++Qbz (S.funcs.map Qfz) [] 1 c.cond.nd:=by unfold ckC;rw[J0 h];simp
theorem Jlz(S:Qap):ckF S S.funcs.length++ckC S S.clauses.length=QaY S.src:=by
 unfold ckF ckC QaY;rw[List.take_length,List.take_length];unfold Qap.src;simp only[List.map_map];rfl
theorem JfX(w:World)(sb:Nat)(S:Qap)(h:QaL w sb S)(h1:S.funcs.length<=100000000)(h2:S.clauses.length<=100000000)
  (h3:∀ f∈S.funcs,WfN f.body.nd/\siz f.body.nd<=100000000/\f.types.length<=100000000/\QdW S.funcs.length f.types.length f.body.nd) (h4:∀ c∈S.clauses,WfN c.cond.nd/\siz c.cond.nd<=100000000/\QdW S.funcs.length 0 c.cond.nd) :
  Calls prog 40 #[.pointer (some ⟨sb,0,none⟩)] w (Qit w 15 (QaG (QaY S.src))):=by
 obtain⟨R,hR⟩:∃ R,Qit w 15 (QaG (QaY S.src))=R:=⟨_,rfl⟩
 rw[hR];have HR:Hid (R=Qit w 15 (QaG (QaY S.src))):=hR.symm;obtain⟨fa,fc,hfv,hfa⟩:=Va h.fown;obtain⟨ca,cc,hcv,hca⟩:=Va h.cown;have HFV:=Zh hfv;have HCV:=Zh hcv;have HFA:=Zh hfa;have HCA:=Zh hca;have H3:=Zh h3;have H4:=Zh h4;have HS:=Zh h;have b0:w.cell? ⟨sb,0,none⟩=some (.slice fa S.funcs.length fc):=by rw[Ja HS.out.box];rw[hfv];rfl
 clear hR hfv hcv hfa hca h h3 h4;go_enter func40,ntmps40;go_wp2_with fail;clear b0;go_loopg [2,15] S.funcs.length (fun g v2 v15 wr=>∃ i:Nat,g+i=S.funcs.length/\v15=.int .i64 i/\Hid (Below w.heap.size w wr)/\Hid (wr.ownsRow w.heap.size 44 7 v2 i ((S.funcs.take i).flatMap Qid)))
 case atStart=>exact⟨0,rfl,rfl,Zh zzb,Zh ⟨rfl,.inl ⟨rfl,rfl⟩⟩⟩
 case round=>
 obtain⟨wl,rfl⟩:∃ wl:World,wl=wr:=⟨_,rfl⟩
 obtain⟨i,hg,rfl,hb,ho⟩:=hrel
 by_cases hi:i<S.funcs.length
 ·have hil:(i:Int)<(S.funcs.length:Int):=by omega
  obtain⟨fn,hfn⟩:∃ fn,S.funcs[i]?=some fn:=⟨S.funcs[i],List.getElem?_eq_getElem hi⟩
  have had:=HFA.out (by omega);have hs1:=HS.out.on (Chg.of_below hb.out []) (by simp);obtain⟨fo,_,_⟩:=hs1.fok fn (List.mem_of_getElem? hfn);have hcl:=VY hs1 hfn;have HTS:Hid ((S.funcs.take (i+1)).flatMap Qid=(S.funcs.take i).flatMap Qid++Qid fn):=by rw[Hid,J0 hfn];simp
  obtain⟨nm,of,ps,ts,res,b,pv,tv,flo,fhi⟩:=fn;obtain⟨pa,pn,pc,hpv⟩:=Jh fo.pown;obtain⟨ta,tn,tc,htv⟩:=Jh fo.town;obtain⟨va,vn,vc,hvv⟩:=Jh ho.out;dsimp only at hpv htv;subst hpv htv hvv;obtain⟨yA,yn,yc,hcg⟩:=Jf b;simp only[FnA.cells,hcg,List.cons_append,List.nil_append]at hcl;have c0:=hcl 0 _ rfl;have c1:=hcl 1 _ rfl;have c2:=hcl 2 _ rfl;have c3:=hcl 3 _ rfl;have c4:=hcl 4 _ rfl;have c5:=hcl 5 _ rfl;have c6:=hcl 6 _ rfl;have c7:=hcl 7 _ rfl;have c8:=hcl 8 _ rfl;have c9:=hcl 9 _ rfl;simp only[Nat.add_zero]at c0;have wk:IntKind.i64.wrap ((i:Int)+1)=(i:Int)+1:=IntWalk.i64_in _ (by omega);have HCP:=Zh (zzw wl (.cells ([.string (bs nm),.int .i64 of,.slice pa pn pc,.slice ta tn tc,.int .i64 res,.int .i64 b.kind,.int .i64 b.num,.string (bs b.name),.int .i64 b.off,.slice yA yn yc]).toArray 126));have HB1:Hid (Below w.heap.size w (wl.alloc (.cells ([.string (bs nm),.int .i64 of,.slice pa pn pc,.slice ta tn tc,.int .i64 res,.int .i64 b.kind,.int .i64 b.num,.string (bs b.name),.int .i64 b.off,.slice yA yn yc]).toArray 126))):=hb.out.alloc hb.out.size _;have HOW:Hid ((wl.alloc (.cells ([.string (bs nm),.int .i64 of,.slice pa pn pc,.slice ta tn tc,.int .i64 res,.int .i64 b.kind,.int .i64 b.num,.string (bs b.name),.int .i64 b.off,.slice yA yn yc]).toArray 126)).ownsRow w.heap.size 44 7 (.slice va vn vc) i ((S.funcs.take i).flatMap Qid)):=ho.out.alloc _;have HG:=Zh hg;subst had;clear hcl hfn fo hg hcg hs1 hb ho;go_upto_region 4 with fail;clear c0 c1 c2 c3 c4 c5 c6 c7 c8 c9;generalize World.alloc wl _=w1 at *;generalize wl.heap.size=cb at *;have n2:=Ja HCP.out 2;have n3:=Ja HCP.out 3;have n4:=Ja HCP.out 4;simp only[ZD,ZE,ZF]at n2 n3 n4;obtain⟨i0,hi0,hz0,hz1,hz2⟩:=info_parts QcZ;have HI:=Zh hi0;clear hi0;go_wp2_with (at_builtin;refine wpList_append_own _ rfl _ _ 22 rfl w.heap.size 44 i0 (.agg #[.string ⟨#[]⟩,.slice none 0 0,.int .i64 0,.int .i64 0,.int .i64 0,.string ⟨#[]⟩,.slice none 0 0]) 7 104 underlying22 HI.out hz0 hz1 hz2 rfl (by decide) _ _ _ rfl (HOW.out.alloc _) ⟨w1.heap.size,0,none⟩ 1 1 [.string ⟨#[]⟩,.slice ta tn tc,.int .i64 res,.int .i64 0,.int .i64 0,.string ⟨#[]⟩,.slice none 0 0] rfl rfl ?c1 ?c2 ?c3 ?c4 ?c5 ?_)
  case c2=>exact⟨rfl,rfl,rfl,rfl,rfl,rfl⟩
  case c3=>unfold maxLen;omega
  case c4=>omega
  case c5=>have:=HB1.out.size;omega
  intro v' w' hown' hgrow _;have HO7:Hid (w'.ownsRow w.heap.size 44 7 v' (i+1) ((S.funcs.take (i+1)).flatMap Qid)):=by rw[Hid,HTS.out];exact hown'
  have HB7:Hid (Below w.heap.size w w'):=by
   have hc:=JR hgrow;exact Kz HB1.out hc.os hc.tape hc.output hc.size (fun k hk=>hc.block k (by have:=HB1.out.size;omega) (fun hm=>by have:=(HOW.out.lt k (by simpa using hm)).1;omega))
  clear hown' hgrow HB1 HOW n2 n3 n4 HCP;go_wp2;go_roundg (S.funcs.length-(i+1))
  case measure=>have:=HG.out;omega
  case rel=>exact⟨i+1,by omega,by go_num,HB7,HO7⟩
 ·have hil:¬ (i:Int)<(S.funcs.length:Int):=by omega
  obtain rfl:i=S.funcs.length:=by omega
  have ho2:=ho.out;rw[List.take_length]at ho2;obtain⟨va,vn,vc,hvv⟩:=Jh ho2;subst hvv;have hb0:Below w.heap.size w (wl.alloc (.cells #[.bool false,.int .i64 0,.slice va vn vc] 99)):=hb.out.alloc hb.out.size _
  have HCK:Hid (Ck w (wl.alloc (.cells #[.bool false,.int .i64 0,.slice va vn vc] 99)) sb S wl.heap.size (QaK none (ckF S 0)) (.slice va vn vc)):=by
   have hs2:=HS.out.on (Chg.of_below hb0 []) (by simp);refine Ck.mk' HS.out (zzw _ _) (Jkn (ho2.alloc _) (fun f hf=>⟨(hs2.fok f hf).1,?_⟩) (fun e=>?_)) hb0 hb.out.size
   ·have:=(HS.out.ivs (f.lo,f.hi) (List.mem_append_left _ (List.mem_map.2 ⟨f,hf,rfl⟩))).2.2;have:=hb.out.size;dsimp only at *;omega
   ·have:=(ho2.lt _ e).2;omega
  have hbx:=HCK.out.ok.box;rw[HFV.out]at hbx;have b1:=Ja hbx 0;simp only[ZD,ZE,ZF]at b1;clear hi hg ho ho2 hb hb0 hbx
  have HPS:Hid (∀ s∈S.funcs.map Qfz,s.params.length<=1000000000):=fun s hs=>by
   obtain⟨f,hf,rfl⟩:=List.mem_map.1 hs;have:=(H3.out f hf).2.2.1
   show f.types.length<=_
   omega
  go_wp2_with fail;clear b1;generalize World.alloc wl _=w2 at *;generalize wl.heap.size=rb at *;generalize Value.slice va vn vc=M at *;go_loopg [36] S.funcs.length (fun g v36 wr=>∃ i:Nat,g+i=S.funcs.length/\v36=.int .i64 i/\Hid (Ck w wr sb S rb (QaK none (ckF S i)) M))
  case atStart=>exact⟨0,rfl,rfl,HCK⟩
  case round=>
  clear HCK hil;obtain⟨wm,rfl⟩:∃ wm:World,wm=wr:=⟨_,rfl⟩
  obtain⟨i,hg,rfl,hk⟩:=hrel
  by_cases hi:i<S.funcs.length
  ·have hil:(i:Int)<(S.funcs.length:Int):=by omega
   obtain⟨fn,hfn⟩:∃ fn,S.funcs[i]?=some fn:=⟨S.funcs[i],List.getElem?_eq_getElem hi⟩
   have hmem:=List.mem_of_getElem? hfn;have had:=HFA.out (by omega);obtain⟨fo,_,_⟩:=hk.out.ok.fok fn hmem;have hcl:=VY hk.out.ok hfn;obtain⟨hwf,hsz,htl,hty⟩:=H3.out fn hmem;have HES:=Zh (Jil hfn);have hb1:Below wm.heap.size wm (wm.alloc (.cells fn.cells.toArray 126)):=zzb.alloc zzl _;have cn:=JH (S.funcs.map Qfz) rb M fn.body fn.types fn.tv (QaK none (ckF S i)) fn.result _ ((hk.out.up hb1).preF hmem hty hwf) (fun W hp=>Jby _ rb M HPS.out (siz fn.body.nd) fn.body fn.types fn.tv _ W zzl (by omega) hp);have HK1:=Zh (hk.out.up hb1);obtain⟨nm,of,ps,ts,res,b,pv,tv,flo,fhi⟩:=fn;obtain⟨pa,pn,pc,hpv⟩:=Jh fo.pown;obtain⟨ta,tn,tc,htv⟩:=Jh fo.town;dsimp only at hpv htv cn HES;subst hpv htv;obtain⟨yA,yn,yc,hcg⟩:=Jf b;obtain⟨E,hE⟩:∃ E,Qbz (S.funcs.map Qfz) ts res b.nd=E:=⟨_,rfl⟩
   rw[hE]at cn HES;simp only[FnA.cells,hcg,List.cons_append,List.nil_append]at hcl cn HK1;have c0:=hcl 0 _ rfl;have c1:=hcl 1 _ rfl;have c2:=hcl 2 _ rfl;have c3:=hcl 3 _ rfl;have c4:=hcl 4 _ rfl;have c5:=hcl 5 _ rfl;have c6:=hcl 6 _ rfl;have c7:=hcl 7 _ rfl;have c8:=hcl 8 _ rfl;have c9:=hcl 9 _ rfl;simp only[Nat.add_zero]at c0;have wk:IntKind.i64.wrap ((i:Int)+1)=(i:Int)+1:=IntWalk.i64_in _ (by omega);have HG:=Zh hg;subst had;clear hcl hfn fo hg hcg hk hb1 hE hwf hsz htl hty hmem;go_wp2_with fail;clear c0 c1 c2 c3 c4 c5 c6 c7 c8 c9;refine cn.mono ?_;intro e w8 hr
   have HK8:Hid (Ck w w8 sb S rb (QaK none (ckF S (i+1))) M):=by
    rw[Hid,HES.out,Jv];exact HK1.out.step HS.out hr
   obtain rfl:=hr.1;clear hr cn HK1;go_wp2;go_roundg (S.funcs.length-(i+1))
   case measure=>have:=HG.out;omega
   case rel=>exact⟨i+1,by omega,by go_num,HK8⟩
  ·have hil:¬ (i:Int)<(S.funcs.length:Int):=by omega
   obtain rfl:i=S.funcs.length:=by omega
   obtain⟨X0,hX0⟩:∃ X0,QaK none (ckF S S.funcs.length)=X0:=⟨_,rfl⟩
   rw[hX0]at hk;have HX0:=Zh hX0;have HCK:Hid (Ck w wm sb S rb (QaK X0 (ckC S 0)) M):=hk;have hbx:=HCK.out.ok.box;rw[HCV.out]at hbx;have b1:=Ja hbx 1;simp only[ZD,ZE,ZF]at b1;clear hi hg hk hX0 hbx H3 HFA;go_wp2_with fail;clear b1;go_loopg [54] S.clauses.length (fun g v54 wr=>∃ i:Nat,g+i=S.clauses.length/\v54=.int .i64 i/\Hid (Ck w wr sb S rb (QaK X0 (ckC S i)) M))
   case atStart=>exact⟨0,rfl,rfl,HCK⟩
   case round=>
   clear HCK hil;obtain⟨wc,rfl⟩:∃ wc:World,wc=wr:=⟨_,rfl⟩
   obtain⟨i,hg,rfl,hk⟩:=hrel
   by_cases hi:i<S.clauses.length
   ·have hil:(i:Int)<(S.clauses.length:Int):=by omega
    obtain⟨c,hcc⟩:∃ c,S.clauses[i]?=some c:=⟨S.clauses[i],List.getElem?_eq_getElem hi⟩
    have hmem:=List.mem_of_getElem? hcc;have had:=HCA.out (by omega);have hcl:=JdJ hk.out.ok hcc;obtain⟨hwf,hsz,hty⟩:=H4.out c hmem;have HES:=Zh (Jim hcc);have hb1:Below wc.heap.size wc (wc.alloc (.cells c.cells.toArray 130)):=zzb.alloc zzl _;have cn:=JH (S.funcs.map Qfz) rb M c.cond [] (.slice none 0 0) (QaK X0 (ckC S i)) 1 _ ((hk.out.up hb1).preC hmem hty hwf) (fun W hp=>Jby _ rb M HPS.out (siz c.cond.nd) c.cond [] (.slice none 0 0) _ W zzl (by simp;omega) hp);have HK1:=Zh (hk.out.up hb1);obtain⟨b,ac,rs,clo,chi⟩:=c;obtain⟨yA,yn,yc,hcg⟩:=Jf b;obtain⟨E,hE⟩:∃ E,Qbz (S.funcs.map Qfz) [] 1 b.nd=E:=⟨_,rfl⟩
    dsimp only at cn HES;rw[hE]at cn HES;simp only[ClA.cells,hcg,List.cons_append,List.nil_append]at hcl cn HK1;have c0:=hcl 0 _ rfl;have c1:=hcl 1 _ rfl;have c2:=hcl 2 _ rfl;have c3:=hcl 3 _ rfl;have c4:=hcl 4 _ rfl;have c5:=hcl 5 _ rfl;have c6:=hcl 6 _ rfl;simp only[Nat.add_zero]at c0;have wk:IntKind.i64.wrap ((i:Int)+1)=(i:Int)+1:=IntWalk.i64_in _ (by omega);have HG:=Zh hg;subst had;clear hcl hcc hg hcg hk hb1 hE hwf hsz hty hmem;go_wp2_with fail;clear c0 c1 c2 c3 c4 c5 c6;refine cn.mono ?_;intro e w8 hr
    have HK8:Hid (Ck w w8 sb S rb (QaK X0 (ckC S (i+1))) M):=by
     rw[Hid,HES.out,Jv];exact HK1.out.step HS.out hr
    obtain rfl:=hr.1;clear hr cn HK1;go_wp2;go_roundg (S.clauses.length-(i+1))
    case measure=>have:=HG.out;omega
    case rel=>exact⟨i+1,by omega,by go_num,HK8⟩
   ·have hil:¬ (i:Int)<(S.clauses.length:Int):=by omega
    obtain rfl:i=S.clauses.length:=by omega
    have hk2:=hk.out;rw[<- HX0.out,<- Jv,Jlz,Z6]at hk2;have HK:=Zh hk2;have r0:=Ja HK.out.flt 0;have r1:=Ja HK.out.flt 1;simp only[ZD,ZE,ZF]at r0 r1;clear hi hg hk hk2 HX0 HCA H4 HPS
    cases hL:QaG (QaY S.src) with
    |none=>
     rw[hL]at r0 r1;simp only[Option.isSome,Option.getD]at r0 r1;have HL:=Zh hL;clear hL;go_wp2;go_end0;rw[HR.out];unfold Qit;rw[HL.out];exact⟨rfl,HK.out.bel⟩
    |some er=>
     rw[hL]at r0 r1;simp only[Option.isSome,Option.getD]at r0 r1;have HL:=Zh hL;clear hL;go_wp2;refine⟨rfl,?_⟩;rw[HR.out];unfold Qit;rw[HL.out];exact⟨rfl,HK.out.bel⟩
def Sh(r:List Tok):Prop:=∀ t∈r,t.text.length<=1000000
theorem Sh.tail{r:List Tok}(h:Sh r):Sh r.tail:=fun t ht=>h t (List.mem_of_mem_tail ht)
theorem Sh.hd{r:List Tok}(h:Sh r):(hd r).text.length<=1000000:=by
 cases r with
 |nil=>show ([]:List UInt8).length<=_;simp
 |cons a l=>exact h a (by simp)
theorem Kv{k:Int}{s:List UInt8}{r r':List Tok}(hs:Sh r)(h:acc k s r=some r'):Sh r':=by
 unfold acc at h;split at h
 ·injection h with h;subst h;exact hs.tail
 ·cases h
theorem J1{k:Int}{s:List UInt8}{r r':List Tok}{u:Unit}(hs:Sh r)(h:Qaf k s r=.ok u r'):Sh r':=by
 unfold Qaf at h;split at h
 ·rename_i r1 h1;injection h with h0 h;subst h;exact Kv hs h1
 ·cases h
theorem VZ{r r':List Tok}{nm:List UInt8 × Int}(hs:Sh r)(h:Qau r=.ok nm r'):Sh r'/\nm.1.length<=1000000:=by
 unfold Qau at h;split at h
 ·injection h with h0 h;subst h h0;exact⟨hs.tail,hs.hd⟩
 ·cases h
theorem JdK{r r':List Tok}{s:List UInt8}(hs:Sh r)(h:Qbp r=.ok s r'):Sh r'/\s.length<=1000000:=by
 unfold Qbp at h;split at h
 ·injection h with h0 h;subst h h0;exact⟨hs.tail,hs.hd⟩
 ·cases h
theorem Jey{r r':List Tok}{s:List UInt8}(hs:Sh r)(h:Qav r=.ok s r'):Sh r'/\s.length<=1000000:=by
 unfold Qav at h;obtain⟨_,r1,h1,h⟩:=Je h;obtain⟨_,r2,h2,h⟩:=Je h;obtain⟨_,r3,h3,h⟩:=Je h;injection h with h0 h;subst h h0;have s1:=J1 hs h1;obtain⟨s2,g2⟩:=JdK s1 h2;exact⟨J1 s2 h3,g2⟩
theorem JfY{r r':List Tok}{t:Int}(hs:Sh r)(h:QcB r=.ok t r'):Sh r':=by
 unfold QcB at h;split at h
 ·rename_i r1 h1;injection h with h0 h;subst h;exact Kv hs h1
 ·split at h
  ·rename_i r1 h1;injection h with h0 h;subst h;exact Kv hs h1
  ·cases h
theorem Jko{r r':List Tok}{t:Int}(hs:Sh r)(h:Qcj r=.ok t r'):Sh r':=by
 unfold Qcj at h
 repeat' split at h
 all_goals first
  |(rename_i r1 h1;injection h with h0 h;subst h;exact Kv hs h1)
  |cases h
theorem Vi{k n:Int}{s:List UInt8}{o:Int}{l:List Nd}:WfN (.mk k n s o l)↔(k=19->l.length=2)/\(k=15->l.length=2)/\(k=18->l.length=3)/\s.length<=1000000/\WfL l:=by unfold WfN;rfl
theorem J2{a:Nd}{l:List Nd}:WfL (a::l)↔WfN a/\WfL l:=by rw[WfL]
theorem Vj:WfL []:=by unfold WfL;trivial
theorem JfZ{l:List Nd}{a:Nd}(h:WfL l)(ha:WfN a):WfL (l++[a]):=by
 induction l with
 |nil=>exact J2.2 ⟨ha,Vj⟩
 |cons x r ih=>
  have:=J2.1 h;exact J2.2 ⟨this.1,ih this.2⟩
theorem Jkp{a:Nd}(h:WfN a)(o:Int):WfN (.mk a.kind a.num a.name o a.kids):=by cases a;rw[Vi]at *;exact h
theorem wf1{k:Int}{n:Int}{s:List UInt8}{o:Int}{a:Nd}(h19:k≠19)(h15:k≠15)(h18:k≠18)(hs:s.length<=1000000)(ha:WfN a):WfN (.mk k n s o [a]):=
 Vi.2 ⟨fun h=>absurd h h19,fun h=>absurd h h15,fun h=>absurd h h18,hs,J2.2 ⟨ha,Vj⟩⟩
theorem wf0{k:Int}{n:Int}{s:List UInt8}{o:Int}(h19:k≠19)(h15:k≠15)(h18:k≠18)(hs:s.length<=1000000):WfN (.mk k n s o []):=
 Vi.2 ⟨fun h=>absurd h h19,fun h=>absurd h h15,fun h=>absurd h h18,hs,Vj⟩
theorem wf2{k:Int}{n:Int}{s:List UInt8}{o:Int}{a b:Nd}(h18:k≠18)(hs:s.length<=1000000)(ha:WfN a)(hb:WfN b):WfN (.mk k n s o [a,b]):=
 Vi.2 ⟨fun _=>rfl,fun _=>rfl,fun h=>absurd h h18,hs,J2.2 ⟨ha,J2.2 ⟨hb,Vj⟩⟩⟩
theorem JlA{lv:Nat}{t:Tok}{k:Int}(h:opK lv t=some k):k≠18:=by
 unfold opK at h
 repeat' split at h
 all_goals first
  |(injection h with h;subst h;decide)
  |cases h
theorem Jkq{t:Tok}{k:Int}(h:QcS t=some k):k≠18:=by
 unfold QcS at h
 repeat' split at h
 all_goals first
  |(injection h with h;subst h;decide)
  |cases h
theorem Jkr{t:Tok}{k:Int}{a b:Nd}(h18:k≠18)(ha:WfN a)(hb:WfN b):WfN (Qdn t k a b):=by
 unfold Qdn;split
 ·exact wf2 h18 (by simp) hb ha
 ·split
  ·exact wf1 (by decide) (by decide) (by decide) (by simp) (wf2 h18 (by simp) ha hb)
  ·exact wf2 h18 (by simp) ha hb
def Qna:Md->Prop
 |.loop _ _ a=>WfN a
 |.args nm _ l=>nm.length<=1000000/\WfL l
 |_=>True
theorem Qmm{P:Prop}(h:P:=by
  obtain⟨_,r2,h2,h⟩:=Je h;injection h with h0 h;subst h h0;obtain⟨g2,s2⟩:=KR f _ _ _ _ (Kv hs h1) h2 trivial
  exact⟨wf1 (by decide) (by decide) (by decide) (by simp) g2,s2⟩):P:=h
theorem Qmf{P:Prop}(h:P:=by
  obtain⟨_,r2,h2,h⟩:=Je h;injection h with h0 h;subst h h0;obtain⟨s2,g2⟩:=Jey (Kv hs h1) h2
  exact⟨wf0 (by decide) (by decide) (by decide) g2,s2⟩):P:=h
theorem Qkf{P:Prop}(h:P:=by
  injection h with h0 h;subst h h0
  exact⟨wf0 (by decide) (by decide) (by decide) (by simp),Kv hs h1⟩):P:=h
theorem KR:∀ (f:Nat) (md:Md) (r r':List Tok) (a:Nd),Sh r->pM f md r=.ok a r'->Qna md->WfN a/\Sh r'
 |0,md,r,r',a,hs,h,he=>by unfold pM at h;cases h
 |f+1,.expr,r,r',a,hs,h,he=>by
  rw[pM]at h;split at h
  ·rename_i r1 h1;obtain⟨_,r2,h2,h⟩:=Je h;obtain⟨_,r3,h3,h⟩:=Je h;obtain⟨_,r4,h4,h⟩:=Je h;obtain⟨_,r5,h5,h⟩:=Je h;obtain⟨_,r6,h6,h⟩:=Je h;injection h with h0 h;subst h h0;have s1:=Kv hs h1;obtain⟨s2,g2⟩:=VZ s1 h2;have s3:=J1 s2 h3;obtain⟨g4,s4⟩:=KR f _ _ _ _ s3 h4 trivial;have s5:=J1 s4 h5;obtain⟨g6,s6⟩:=KR f _ _ _ _ s5 h6 trivial;exact⟨wf2 (by decide) g2 g4 g6,s6⟩
  ·split at h
   ·rename_i r1 h1;obtain⟨_,r2,h2,h⟩:=Je h;obtain⟨_,r3,h3,h⟩:=Je h;obtain⟨_,r4,h4,h⟩:=Je h;obtain⟨_,r5,h5,h⟩:=Je h;obtain⟨_,r6,h6,h⟩:=Je h;injection h with h0 h;subst h h0;have s1:=Kv hs h1;obtain⟨g2,s2⟩:=KR f _ _ _ _ s1 h2 trivial;have s3:=J1 s2 h3;obtain⟨g4,s4⟩:=KR f _ _ _ _ s3 h4 trivial;have s5:=J1 s4 h5;obtain⟨g6,s6⟩:=KR f _ _ _ _ s5 h6 trivial;exact⟨Vi.2 ⟨fun h=>absurd h (by decide),fun h=>absurd h (by decide),fun _=>rfl,by simp,J2.2 ⟨g2,J2.2 ⟨g4,J2.2 ⟨g6,Vj⟩⟩⟩⟩,s6⟩
   ·exact KR f _ _ _ _ hs h trivial
 |f+1,.level lv,r,r',a,hs,h,he=>by
  rw[pM]at h;split at h
  ·split at h
   ·rename_i r1 h1;exact Qmm
   ·exact KR f _ _ _ _ hs h trivial
  ·split at h
   ·split at h
    ·rename_i r1 h1;exact Qmm
    ·exact KR f _ _ _ _ hs h trivial
   ·obtain⟨_,r1,h1,h⟩:=Je h;obtain⟨g1,s1⟩:=KR f _ _ _ _ hs h1 trivial;exact KR f _ _ _ _ s1 h g1
 |f+1,.loop lv o b,r,r',a,hs,h,he=>by
  rw[pM]at h;split at h
  ·injection h with h0 h;subst h h0;exact⟨he,hs⟩
  ·rename_i k hk;obtain⟨_,r1,h1,h⟩:=Je h;obtain⟨g1,s1⟩:=KR f _ _ _ _ hs.tail h1 trivial;exact KR f _ _ _ _ s1 h (show WfN _ from wf2 (JlA hk) (by simp) he g1)
 |f+1,.cmp,r,r',a,hs,h,he=>by
  rw[pM]at h;obtain⟨x,r1,h1,h⟩:=Je h;obtain⟨g1,s1⟩:=KR f _ _ _ _ hs h1 trivial;split at h
  ·injection h with h0 h;subst h h0;exact⟨g1,s1⟩
  ·rename_i k hk;obtain⟨y,r2,h2,h⟩:=Je h;obtain⟨g2,s2⟩:=KR f _ _ _ _ s1.tail h2 trivial;injection h with h0 h;subst h h0;exact⟨Jkr (Jkq hk) g1 g2,s2⟩
 |f+1,.prim,r,r',a,hs,h,he=>by
  rw[pM]at h;split at h
  ·injection h with h0 h;subst h h0;exact⟨wf0 (by decide) (by decide) (by decide) (by simp),hs.tail⟩
  split at h
  ·rename_i r1 h1;obtain⟨x,r2,h2,h⟩:=Je h;obtain⟨_,r3,h3,h⟩:=Je h;injection h with h0 h;subst h h0;obtain⟨g2,s2⟩:=KR f _ _ _ _ (Kv hs h1) h2 trivial;exact⟨Jkp g2 _,J1 s2 h3⟩
  split at h
  ·rename_i r1 h1;exact Qkf
  split at h
  ·rename_i r1 h1;exact Qkf
  split at h
  ·rename_i r1 h1;exact Qmf
  split at h
  ·rename_i r1 h1;exact Qmf
  split at h
  ·injection h with h0 h;subst h h0;exact⟨wf0 (by decide) (by decide) (by decide) hs.hd,hs.tail⟩
  ·exact KR f _ _ _ _ hs h trivial
 |f+1,.named,r,r',a,hs,h,he=>by
  rw[pM]at h;obtain⟨nm,r1,h1,h⟩:=Je h;obtain⟨s1,g1⟩:=VZ hs h1;split at h
  ·injection h with h0 h;subst h h0;exact⟨wf0 (by decide) (by decide) (by decide) g1,s1⟩
  ·rename_i r2 h2;split at h
   ·rename_i r3 h3;injection h with h0 h;subst h h0;exact⟨wf0 (by decide) (by decide) (by decide) g1,Kv (Kv s1 h2) h3⟩
   ·exact KR f _ _ _ _ (Kv s1 h2) h (show _/\_ from⟨g1,Vj⟩)
 |f+1,.args nm o l,r,r',a,hs,h,he=>by
  obtain⟨he1,he2⟩:nm.length<=1000000/\WfL l:=he;rw[pM]at h;obtain⟨x,r1,h1,h⟩:=Je h;obtain⟨g1,s1⟩:=KR f _ _ _ _ hs h1 trivial;split at h
  ·rename_i r2 h2;exact KR f _ _ _ _ (Kv s1 h2) h (show _/\_ from⟨he1,JfZ he2 g1⟩)
  ·obtain⟨_,r2,h2,h⟩:=Je h;injection h with h0 h;subst h h0;exact⟨Vi.2 ⟨fun h=>absurd h (by decide),fun h=>absurd h (by decide),fun h=>absurd h (by decide),he1,JfZ he2 g1⟩,J1 s1 h2⟩
def Qjx(f:FnS):Prop:=WfN f.body/\f.name.1.length<=1000000
def QkG(c:ClS):Prop:=WfN c.cond
theorem Jab:∀ (f:Nat) (ps:List (List UInt8 × Int)) (ts:List Int) (r r':List Tok) a,Sh r->Qak f ps ts r=.ok a r'->Sh r'
 |0,_,_,_,_,_,_,h=>by cases h
 |f+1,ps,ts,r,r',a,hs,h=>by
  rw[Qak]at h;obtain⟨_,r1,h1,h⟩:=Je h;obtain⟨_,r2,h2,h⟩:=Je h;obtain⟨_,r3,h3,h⟩:=Je h;have s3:=JfY (J1 (VZ hs h1).1 h2) h3;split at h
  ·rename_i r4 h4;exact Jab f _ _ _ _ _ (Kv s3 h4) h
  ·obtain⟨_,r4,h4,h⟩:=Je h;injection h with h0 h;subst h h0;exact J1 s3 h4
theorem Jks{f:Nat}{r r':List Tok}{x:FnS}(hs:Sh r)(h:Qdb f r=.ok x r'):Qjx x/\Sh r':=by
 unfold Qdb at h;obtain⟨nm,r1,h1,h⟩:=Je h;obtain⟨_,r2,h2,h⟩:=Je h;obtain⟨pt,r3,h3,h⟩:=Je h;obtain⟨_,r4,h4,h⟩:=Je h;obtain⟨_,r5,h5,h⟩:=Je h;obtain⟨_,r6,h6,h⟩:=Je h;obtain⟨_,r7,h7,h⟩:=Je h;injection h with h0 h;subst h h0;obtain⟨s1,g1⟩:=VZ hs h1;have s2:=J1 s1 h2
 have s3:Sh r3:=by
  split at h3
  ·rename_i r9 h9;injection h3 with h0 h3;subst h3;exact Kv s2 h9
  ·exact Jab _ _ _ _ _ _ s2 h3
 have s6:=J1 (JfY (J1 s3 h4) h5) h6;obtain⟨g7,s7⟩:=KR _ _ _ _ _ s6 h7 trivial;exact⟨⟨g7,g1⟩,s7⟩
theorem JdL(g:Nat):∀ (f:Nat) (l:List FnS) (r r':List Tok) a,Sh r->(∀ x∈l,Qjx x)->Qbc g f l r=.ok a r'->(∀ x∈a,Qjx x)/\Sh r'
 |0,_,_,_,_,_,_,h=>by cases h
 |f+1,l,r,r',a,hs,hl,h=>by
  rw[Qbc]at h;split at h
  ·rename_i r1 h1;obtain⟨x,r2,h2,h⟩:=Je h;obtain⟨g1,g2⟩:=Jks (Kv hs h1) h2
   exact JdL g f _ _ _ _ g2 (by
    intro y hy
    rcases List.mem_append.1 hy with hy|hy
    ·exact hl y hy
    ·obtain rfl:y=x:=by simpa using hy
     exact g1) h
  ·injection h with h0 h;subst h h0;exact⟨hl,hs⟩
theorem Zi(g:Nat):∀ (f:Nat) (l:List ClS) (r r':List Tok) a,Sh r->(∀ x∈l,QkG x)->Qad g f l r=.ok a r'->(∀ x∈a,QkG x)/\Sh r'
 |0,_,_,_,_,_,_,h=>by cases h
 |f+1,l,r,r',a,hs,hl,h=>by
  rw[Qad]at h;split at h
  ·rename_i r1 h1;obtain⟨x,r2,h2,h⟩:=Je h;obtain⟨_,r3,h3,h⟩:=Je h;obtain⟨_,r4,h4,h⟩:=Je h;obtain⟨_,r5,h5,h⟩:=Je h;obtain⟨g1,s2⟩:=KR _ _ _ _ _ (Kv hs h1) h2 trivial;have s4:=Jko (J1 s2 h3) h4
   exact Zi g f _ _ _ _ (JdK s4 h5).1 (by
    intro y hy
    rcases List.mem_append.1 hy with hy|hy
    ·exact hl y hy
    ·obtain rfl:y=_:=by simpa using hy
     exact g1) h
  ·injection h with h0 h;subst h h0;exact⟨hl,hs⟩
theorem Jkt{f:Nat}{r r':List Tok}{s:Src}(hs:Sh r)(h:QcO f r=.ok s r'):(∀ x∈s.funcs,Qjx x)/\∀ x∈s.clauses,QkG x:=by
 unfold QcO at h;obtain⟨fs,r1,h1,h⟩:=Je h;obtain⟨cs,r2,h2,h⟩:=Je h;obtain⟨_,r3,h3,h⟩:=Je h;obtain⟨_,r4,h4,h⟩:=Je h;obtain⟨g1,s1⟩:=JdL _ _ _ _ _ _ hs (by simp) h1;obtain⟨g2,s2⟩:=Zi _ _ _ _ _ _ s1 (by simp) h2;split at h
 ·injection h with h0 h;subst h0;exact⟨g1,g2⟩
 ·cases h
theorem Jez{fs:List (List UInt8)}{s:List UInt8}{k:Nat}(h:Qai fs s=some k):k<fs.length:=by
 unfold Qai at h;rw[List.findIdx?_eq_some_iff_findIdx_eq]at h;exact h.1
theorem QlZ{P:Prop}(h:P:=by
  subst hk
  exact⟨Vi.2 ⟨fun h=>absurd h (by decide),fun h=>absurd h (by decide),fun h=>absurd h (by decide),by simp,q1⟩,by rw[JG,JG,q2]⟩):P:=h
mutual
theorem Zj(fs:List (List UInt8)):∀ (vars:List (List UInt8)) (a:Nd),WfN a->WfN (Qcl fs vars a).1/\siz (Qcl fs vars a).1=siz a
 |vars,.mk k n s o l,h=>by
  rw[Vi]at h;obtain⟨w19,w15,w18,ws,wl⟩:=h;rw[VE];obtain⟨q1,q2,q3⟩:=Jga fs vars l wl;split
  ·rename_i hk;exact QlZ
  split
  ·rename_i hk;exact QlZ
  split
  ·rename_i hk;subst hk
   match l,w19 rfl,wl with
   |[a,b],_,wl=>
    rw[J2,J2]at wl;obtain⟨x1,x2⟩:=Zj fs vars a wl.1;obtain⟨y1,y2⟩:=Zj fs (vars++[s]) b wl.2.1;exact⟨wf2 (by decide) (by simp) x1 y1,by simp only[JG,Ju,JE,x2,y2]⟩
  ·exact⟨Vi.2 ⟨fun h=>by rw[q3];exact w19 h,fun h=>by rw[q3];exact w15 h,fun h=>by rw[q3];exact w18 h,ws,q1⟩,by rw[JG,JG,q2]⟩
theorem Jga(fs:List (List UInt8)):∀ (vars:List (List UInt8)) (l:List Nd),WfL l->WfL (QbE fs vars l).1/\Qbq (QbE fs vars l).1=Qbq l/\(QbE fs vars l).1.length=l.length
 |vars,[],h=>by rw[QbE];exact⟨Vj,rfl,rfl⟩
 |vars,a::l,h=>by
  rw[J2]at h;rw[QbE];obtain⟨x1,x2⟩:=Zj fs vars a h.1;obtain⟨y1,y2,y3⟩:=Jga fs vars l h.2;exact⟨J2.2 ⟨x1,y1⟩,by simp only[Ju,x2,y2],by simp only[List.length_cons,y3]⟩
end
theorem JaG{nf nv:Nat}{k n:Int}{s:List UInt8}{o:Int}{l:List Nd}(h2:k=2->0<=n/\n<nv)(h20:k=20->0<=n/\n<nf)(h19:k≠19)(hl:QdV nf nv l):QdW nf nv (.mk k n s o l):=by
 unfold QdW;refine⟨h2,h20,?_⟩;rw[zzq h19];exact hl
mutual
theorem Zk(fs:List (List UInt8)):∀ (vars:List (List UInt8)) (a:Nd),WfN a->(Qcl fs vars a).2=[]->QdW fs.length vars.length (Qcl fs vars a).1
 |vars,.mk k n s o l,hw,h=>by
  rw[Vi]at hw;obtain⟨w19,w15,w18,ws,wl⟩:=hw;rw[VE]at h |-;split at h
  ·rename_i hk;subst hk;rw[if_pos rfl];simp only[append_eq_nil_iff]at h;have hx:=(Zd s _ vars rfl).2;have hlt:¬ QaQ vars s<0:=fun hc=>by rw[if_pos hc]at h;exact absurd h.1 (by simp)
   exact JaG (fun _=>⟨by omega,hx⟩) (fun h=>absurd h (by decide)) (by decide) (JaH fs vars l wl h.2)
  rename_i hk2;rw[if_neg hk2];split at h
  ·rename_i hk;subst hk;rw[if_pos rfl];simp only[append_eq_nil_iff]at h
   cases hf:Qai fs s with
   |none=>
    rw[hf]at h;simp at h
   |some q=>
    have hlt:=Jez hf;exact JaG (fun h=>absurd h (by decide)) (fun _=>⟨by simp[Option.getD],by simp only[Option.getD];omega⟩) (by decide) (JaH fs vars l wl h.2)
  rename_i hk20;rw[if_neg hk20];split at h
  ·rename_i hk;subst hk;rw[if_pos rfl]
   match l,w19 rfl,wl,h with
   |[a,b],_,wl,h=>
    rw[J2,J2]at wl;simp only[append_eq_nil_iff]at h;have x:=Zk fs vars a wl.1 h.1;have y:=Zk fs (vars++[s]) b wl.2.1 h.2;rw[List.length_append,List.length_singleton]at y;unfold QdW;exact⟨fun h=>absurd h (by decide),fun h=>absurd h (by decide),x,y⟩
  ·rename_i hk19;rw[if_neg hk19];exact JaG (fun h=>absurd h hk2) (fun h=>absurd h hk20) hk19 (JaH fs vars l wl h)
theorem JaH(fs:List (List UInt8)):∀ (vars:List (List UInt8)) (l:List Nd),WfL l->(QbE fs vars l).2=[]->QdV fs.length vars.length (QbE fs vars l).1
 |vars,[],hw,h=>by rw[QbE];unfold QdV;trivial
 |vars,a::l,hw,h=>by
  rw[J2]at hw;rw[QbE]at h |-;simp only[append_eq_nil_iff]at h;unfold QdV;exact⟨Zk fs vars a hw.1 h.1,JaH fs vars l hw.2 h.2⟩
end
theorem JeA{l:List Int}(h:QaG l=none):l=[]:=by
 cases l with
 |nil=>rfl
 |cons a l=>rw[QaG]at h;cases h
theorem JeB{s:Src}{m:Nat}(h1:∀ f∈s.funcs,Qjx f/\siz f.body<=m/\f.types.length<=m/\f.params.length=f.types.length)(h2:∀ c∈s.clauses,QkG c/\siz c.cond<=m)(he:QaG (Qac s).2=none) :
  (∀ f∈(Qac s).1.funcs,WfN f.body/\siz f.body<=m/\f.types.length<=m/\QdW (Qac s).1.funcs.length f.types.length f.body)/\(∀ c∈(Qac s).1.clauses,WfN c.cond/\siz c.cond<=m/\QdW (Qac s).1.funcs.length 0 c.cond)/\(Qac s).1.funcs.length=s.funcs.length/\(Qac s).1.clauses.length=s.clauses.length:=by
 have hn:=JeA he;unfold Qac at hn |-;simp only[append_eq_nil_iff,List.flatten_eq_nil_iff]at hn;obtain⟨⟨_,e1⟩,e2⟩:=hn;have hfl:(s.funcs.map (·.name.1)).length=s.funcs.length:=by simp
 refine⟨fun f hf=>?_,fun c hc=>?_,by simp,by simp⟩
 ·simp only[List.mem_map]at hf;obtain⟨_,⟨g,hg,rfl⟩,rfl⟩:=hf;obtain⟨q1,q2,q3,q4⟩:=h1 g hg;have e:=e1 (resF (s.funcs.map (·.name.1)) g).2 (List.mem_map.2 ⟨_,List.mem_map.2 ⟨g,hg,rfl⟩,rfl⟩);unfold resF at e;simp only[append_eq_nil_iff]at e;obtain⟨w1,w2⟩:=Zj (s.funcs.map (·.name.1)) (g.params.map (·.1)) g.body q1.1;have ty:=Zk (s.funcs.map (·.name.1)) (g.params.map (·.1)) g.body q1.1 e.2;rw[length_map,length_map,q4]at ty;refine⟨w1,by show siz (Qcl _ _ _).1<=m;rw[w2];exact q2,q3,?_⟩;simp only[length_map];exact ty
 ·simp only[List.mem_map]at hc;obtain⟨_,⟨g,hg,rfl⟩,rfl⟩:=hc;obtain⟨q1,q2⟩:=h2 g hg;have e:=e2 (resC (s.funcs.map (·.name.1)) g).2 (List.mem_map.2 ⟨_,List.mem_map.2 ⟨g,hg,rfl⟩,rfl⟩);unfold resC at e;obtain⟨w1,w2⟩:=Zj (s.funcs.map (·.name.1)) [] g.cond q1;have ty:=Zk (s.funcs.map (·.name.1)) [] g.cond q1 e;rw[length_map]at ty;refine⟨w1,by show siz (Qcl _ _ _).1<=m;rw[w2];exact q2,?_⟩;simp only[length_map];exact ty
theorem Jin{l:List Exp}(h:l.length=2):∃ a b,l=[a,b]:=by
 match l,h with
 |[a,b],_=>exact⟨a,b,rfl⟩
theorem JeC{pa:List Nat}{vars QaC:Nat}{k n:Int}{s:List UInt8}{l:List Exp}(h:Qbi pa vars QaC (.mk k n s l)=true) :
  1<=QaC/\Qal pa.length vars k n s=true/\l.length=QbG pa k n/\Qbl pa vars (QaC-1) k 0 l=true:=by
 exact Qkh
theorem Jgb{pa:List Nat}{vars QaC:Nat}{k:Int}{a b:Exp}(h:Qbl pa vars QaC k 0 [a,b]=true):Qbi pa vars QaC a=true/\Qbi pa (if k=19 then vars+1 else vars) QaC b=true:=by
 rw[Qbl,Qbl,Qbl]at h;simp at h;exact h
theorem Zl(a:Exp):(utN a).off=0:=by cases a;rw[utN];rfl
theorem QdO(fs:List Qbn)(vars:List Int)(t:Int)(a:Nd)(l:List Nd):Qbt fs vars t (a::l)=(ofN fs vars a).2++(if (ofN fs vars a).1≠t then [a.off] else [])++Qbt fs vars t l:=by rw[Qbt]
theorem Jbz(fs:List Qbn)(vars:List Int)(b:Bool)(ps:List Int)(a:Nd)(l:List Nd):Qdo fs vars b ps (a::l)=(ofN fs vars a).2++(if b=true/\(ofN fs vars a).1≠ps.headD 0 then [a.off] else [])++Qdo fs vars b ps.tail l:=by rw[Qdo]
theorem JbA(l:List Nd):(QaJ l).length=l.length:=by
 induction l with
 |nil=>rw[QaJ];rfl
 |cons a l ih=>rw[QaJ,List.length_cons,ih,List.length_cons]
theorem KF(a b:List Int):z0 (a++b)=z0 a++z0 b:=by simp[z0]
theorem JaI(c:Prop)[Decidable c](x:Int):z0 (if c then [x] else [])=if c then [0] else []:=by split<;>rfl
mutual
theorem Vw(fs:List Qbn):∀ (vars:List Int) (a:Nd),ofN fs vars (utN (Qab a))=((ofN fs vars a).1,z0 (ofN fs vars a).2)
 |vars,.mk k n s o l=>by
  have hN:=fun t=>JdM fs vars t l
  have hA:=fun b ps=>Jgc fs vars b ps l
  have hlen:(utL (QaJ l)).length=l.length:=by rw[Yj,JbA]
  rw[Qab,utN,Jlb,Jlb]
  by_cases h1:k=1\/k=5
  ·rw[if_pos h1,if_pos h1];rfl
  rw[if_neg h1,if_neg h1]
  by_cases h2:k=2
  ·rw[if_pos h2,if_pos h2];rfl
  rw[if_neg h2,if_neg h2]
  by_cases h3:k=3
  ·rw[if_pos h3,if_pos h3];rfl
  rw[if_neg h3,if_neg h3]
  by_cases h4:k=6\/(8<=k/\k<=12)
  ·rw[if_pos h4,if_pos h4,hN]
  rw[if_neg h4,if_neg h4]
  by_cases h5:k=13\/k=14
  ·rw[if_pos h5,if_pos h5,hN]
  rw[if_neg h5,if_neg h5]
  by_cases h6:k=15
  ·rw[if_pos h6,if_pos h6]
   match l with
   |[]=>rfl
   |[a]=>rfl
   |[a,b]=>
    have ea:=Vw fs vars a;have eb:=Vw fs vars b;simp only[QaJ,utL,ea,eb,KF,JaI,Zl]
   |a::b::c::r=>rfl
  rw[if_neg h6,if_neg h6]
  by_cases h7:k=7\/k=16\/k=17
  ·rw[if_pos h7,if_pos h7,hN]
  rw[if_neg h7,if_neg h7]
  by_cases h8:k=18
  ·rw[if_pos h8,if_pos h8]
   match l with
   |[]=>rfl
   |[a]=>rfl
   |[a,b]=>rfl
   |[c,a,b]=>
    have ec:=Vw fs vars c;have ea:=Vw fs vars a;have eb:=Vw fs vars b;simp only[QaJ,utL,ec,ea,eb,KF,JaI,Zl]
   |a::b::c::d::r=>rfl
  rw[if_neg h8,if_neg h8]
  by_cases h9:k=19
  ·rw[if_pos h9,if_pos h9]
   match l with
   |[]=>rfl
   |[a]=>rfl
   |[a,b]=>
    have ea:=Vw fs vars a;have eb:=fun v=>Vw fs v b
    simp only[QaJ,utL,ea,eb,KF]
   |a::b::c::r=>rfl
  rw[if_neg h9,if_neg h9]
  by_cases h10:k=20
  ·rw[if_pos h10,if_pos h10];simp only[hlen,hA,KF,JaI]
  rw[if_neg h10,if_neg h10];rfl
theorem JdM(fs:List Qbn):∀ (vars:List Int) (t:Int) (l:List Nd),Qbt fs vars t (utL (QaJ l))=z0 (Qbt fs vars t l)
 |vars,t,[]=>by rw[QaJ,utL,Qbt];rfl
 |vars,t,a::l=>by
  rw[QaJ,utL,QdO,QdO,Vw fs vars a,JdM fs vars t l,Zl];simp only[KF,JaI]
theorem Jgc(fs:List Qbn):∀ (vars:List Int) (b:Bool) (ps:List Int) (l:List Nd),Qdo fs vars b ps (utL (QaJ l))=z0 (Qdo fs vars b ps l)
 |vars,b,ps,[]=>by rw[QaJ,utL,Qdo];rfl
 |vars,b,ps,a::l=>by
  rw[QaJ,utL,Jbz,Jbz,Vw fs vars a,Jgc fs vars b ps.tail l,Zl];simp only[KF,JaI]
end
end Go.Proofs.YtdlkcjkjnehnkaaGreatDoor
