import Derived.Test.YtfafpklefknomaaGreatDoorR16
import Derived.Test.YtfafpklefknomaaGreatDoorR19
import Derived.Test.YtfafpklefknomaaGreatDoorR03
import Derived.Test.YtfafpklefknomaaGreatDoorR17
open Nat(le_refl le_trans)
namespace Go.Proofs.YtfafpklefknomaaGreatDoor
open Go.ChangeShapes Go.WideShapes Go.ChangeAt Go.RowKit Go.Lib
open _root_.Go.Proofs.Tryz
set_option linter.all false
set_option maxRecDepth 100000
set_option maxHeartbeats 32000000
def Qgd(f:FnA):List Value:=[Em,f.tv,Iv f.result,Iv 0,Iv 0,Em,Nl]
def QeL(f:FnA):QaN:=⟨f.types,f.result⟩
def JdV(f:FnA):(Qgd f).length=7:=rfl
def Qde:(prog.info? 41).map (λi=>(i.zero,i.size,i.bytes))=some (some (.agg #[Em,Nl,Iv 0,Iv 0,Iv 0,Em,Nl]),7,104):=zk
def Jht{W:World}{rb:Nat}{f:FnA}(h:f.Ok W)(hr:f.hi<=rb):Qbo W rb f.tv f.types:=by
 obtain⟨m,m1,m2,m3,m4,m5⟩:=h.bmd;have ht:=h.town
 rcases ht.2 with⟨e,e0⟩|⟨g,cap,cur,e,e2,e3,e4,_⟩
 ·exact .inl ⟨List.eq_nil_of_length_eq_zero e0,none,0,e⟩
 ·have hg:=m4 g (by rw[e];rfl);have hw:=h.hle;refine .inr ⟨g,0,cap,e,e4,by omega,by omega,λi n hi=>?_⟩
  ·have hc:=J0 ht (j:=i) (u:=Iv n) (by unfold Qad;rw[List.getElem?_map,hi];rfl);rw[e]at hc;rw[Nat.zero_add];exact hc
def JlZ{W:World}{base rb:Nat}{v:Value}{l:List FnA}(h:W.ownsRow base 41 7 v l.length (l.flatMap Qgd))(hv:∀f∈l,f.Ok W/\f.hi<=rb)(hrb:v.ownBlock≠some rb):Qdh W rb v (l.map QeL):=by
 obtain⟨ad,cc,e,yA⟩:=Vr h;refine⟨ad,cc,by rw[List.length_map];exact e,λhne=>?_⟩
 have xA:0<l.length:=by
  rcases l with _|⟨a,l⟩
  ·exact absurd rfl hne
  ·exact Nat.succ_pos _
 have ha:=yA xA;subst ha;refine⟨Value.blk v,0,rfl,λhb=>hrb (by rw[<- hb];exact Vz h xA),λi s hs=>?_⟩;rw[List.getElem?_map]at hs;obtain⟨f,hf,rfl⟩:=Option.map_eq_some_iff.1 hs;obtain⟨o1,o2⟩:=hv f (List.mem_of_getElem? hf);refine⟨⟨#[]⟩,f.tv,0,0,⟨#[]⟩,none,0,0,Jht o1 o2,λj u hj=>?_⟩;have:=J0 h (Kq JdV l i j f u hf hj);rw[Nat.zero_add];exact this
structure Ck(w W:World)(sb:Nat)(S:Qap)(rb:Nat)(x:Option Int)(M:Value):Prop where
 ok:QaH W sb S
 flt:QaW W rb 123 x M
 sigs:Qdh W rb M (S.funcs.map QeL)
 bel:Below w.heap.size w W
 num:w.heap.size<=rb
 his:∀iv∈S.ivs,iv.2<=w.heap.size
section
variable {w W W':World} {sb:Nat} {S:Qap} {rb:Nat} {x:Option Int} {M:Value}
def Ck.mk'(h:QaH w sb S)(hf:QaW W rb 123 x M)(hs:Qdh W rb M (S.funcs.map QeL))(hb:Below w.heap.size w W)(hn:w.heap.size<=rb):Ck w W sb S rb x M:=
 ⟨h.on (Chg.of_below hb []) zq,hf,hs,hb,hn,λiv hi=>(h.ivs iv hi).2.2⟩
def Ck.up(h:Ck w W sb S rb x M)(hb:Below W.heap.size W W'):Ck w W' sb S rb x M:=
 ⟨h.ok.on (Chg.of_below hb []) zq,(hb.block _ (Jb h.flt)).trans h.flt,h.sigs.chg (Chg.of_below hb [rb]),Kr h.bel hb.os hb.tape hb.output hb.size λk hk=>hb.block k (Nat.lt_of_lt_of_le hk h.bel.size),h.num,h.his⟩
def Ck.step(h0:QaH w sb S)(h:Ck w W sb S rb x M){errs:List Int}{v:Value}{e:Ending}(ht:TyP W rb M x errs v e W'):Ck w W' sb S rb (QaG x errs) M:=by
 obtain⟨_,hf,hc⟩:=ht;have hn:=h.num;exact Ck.mk' h0 hf (h.sigs.chg hc) (Kr h.bel hc.os hc.tape hc.output hc.size λk hk=>hc.block k (Nat.lt_of_lt_of_le hk h.bel.size) zr) hn
def Ck.preF{f:FnA}(h:Ck w W sb S rb x M)(hf:f∈S.funcs)(hk:QdK S.funcs.length f.types.length f.body.nd)(hw:WfN f.body.nd):Qas (S.funcs.map QeL) rb M W x f.types f.tv f.body:=by
 obtain⟨fo,f1,f2⟩:=h.ok.fok f hf;have hi:=h.his (f.lo,f.hi) (List.mem_append_left _ (List.mem_map.2 ⟨f,hf,rfl⟩));have hn:=h.num;have hfo:=JbB fo;dsimp only at hi;exact⟨fo.bat,λhm=>by have:=hfo _ hm;omega,h.flt,h.sigs,Jht fo zo,by rw[List.length_map];exact hk,hw⟩
def Ck.preC{c:ClA}(h:Ck w W sb S rb x M)(hc:c∈S.clauses)(hk:QdK S.funcs.length 0 c.cond.nd)(hw:WfN c.cond.nd):Qas (S.funcs.map QeL) rb M W x [] Nl c.cond:=by
 obtain⟨co,c1⟩:=h.ok.cok c hc;have hi:=h.his (c.lo,c.hi) (List.mem_append_right _ (List.mem_map.2 ⟨c,hc,rfl⟩));have hn:=h.num;dsimp only at hi;exact⟨co.at',λhm=>by have:=(co.made.2 _ hm).2;omega,h.flt,h.sigs,.inl ⟨rfl,none,0,rfl⟩,by rw[List.length_map];exact hk,hw⟩
end
def ckF(S:Qap)(i:Nat):List Int:=((S.funcs.take i).map λf=>QbF (S.funcs.map QeL) f.types f.result f.body.nd).flatten
def ckC(S:Qap)(i:Nat):List Int:=((S.clauses.take i).map λc=>QbF (S.funcs.map QeL) [] 1 c.cond.nd).flatten
def JjW{S:Qap}{i:Nat}{f:FnA}(h:S.funcs[i]?=some f):ckF S (i+1)=ckF S i++QbF (S.funcs.map QeL) f.types f.result f.body.nd:=by unfold ckF;rw[J1 h];simp
def JjX{S:Qap}{i:Nat}{c:ClA}(h:S.clauses[i]?=some c):ckC S (i+1)=ckC S i++QbF (S.funcs.map QeL) [] 1 c.cond.nd:=by unfold ckC;rw[J1 h];simp
def JnC(S:Qap):ckF S S.funcs.length++ckC S S.clauses.length=QbH S.src:=by
 unfold ckF ckC QbH;rw[List.take_length,List.take_length];unfold Qap.src;simp only[List.map_map];rfl
def Jhu(w:World)(sb:Nat)(S:Qap)(h:QaH w sb S)(h1:S.funcs.length<=100000000)(h2:S.clauses.length<=100000000)
  (h3:∀f∈S.funcs,WfN f.body.nd/\siz f.body.nd<=100000000/\f.types.length<=100000000/\QdK S.funcs.length f.types.length f.body.nd) (h4:∀c∈S.clauses,WfN c.cond.nd/\siz c.cond.nd<=100000000/\QdK S.funcs.length 0 c.cond.nd) :
  Calls prog 37 #[Pt sb] w (Qgn w 15 (QaZ (QbH S.src))):=by
 obtain⟨R,hR⟩:∃R,Qgn w 15 (QaZ (QbH S.src))=R:=⟨_,rfl⟩
 rw[hR];have HR:Hi (R=Qgn w 15 (QaZ (QbH S.src))):=hR.symm;obtain⟨fa,fc,pA,sA⟩:=Vr h.fown;obtain⟨ca,cc,zB,tA⟩:=Vr h.cown;have aB:=Zh pA;have HCV:=Zh zB;have nA:=Zh sA;have yB:=Zh tA;have H3:=Zh h3;have H4:=Zh h4;have HS:=Zh h;have b0:w.cell? ⟨sb,0,none⟩=some (.slice fa S.funcs.length fc):=by rw[Ja HS.o.box];rw[pA];rfl
 clear hR pA zB sA tA h h3 h4;go_enter func37,ntmps37;go_wp2_with fail;clear b0;go_loopg [2,15] S.funcs.length λg v2 v15 wr=>∃i:Nat,g+i=S.funcs.length/\v15=Iv i/\Hi (Below w.heap.size w wr)/\Hi (wr.ownsRow w.heap.size 41 7 v2 i ((S.funcs.take i).flatMap Qgd))
 case atStart=>exact⟨0,rfl,rfl,Zh zO,Zh ⟨rfl,.inl ⟨rfl,rfl⟩⟩⟩
 case round=>
 obtain⟨wl,rfl⟩:=zJ wr;obtain⟨i,hg,rfl,hb,ho⟩:=hrel
 by_cases hi:i<S.funcs.length
 ·have hil:(i:Int)<(S.funcs.length:Int):=zo;obtain⟨fn,xA⟩:∃fn,S.funcs[i]?=some fn:=⟨S.funcs[i],List.getElem?_eq_getElem hi⟩
  have bA:=nA.o zo;have jA:=HS.o.on (Chg.of_below hb.o []) zq;obtain⟨fo,_,_⟩:=jA.fok fn (List.mem_of_getElem? xA);have hcl:=Yv jA xA;have HTS:Hi ((S.funcs.take (i+1)).flatMap Qgd=(S.funcs.take i).flatMap Qgd++Qgd fn):=by rw[Hi,J1 xA];simp
  obtain⟨nm,of,ps,ts,res,b,pv,tv,gB,eB⟩:=fn;obtain⟨pa,pn,pc,dA⟩:=Jk fo.pown;obtain⟨ta,tn,tc,cA⟩:=Jk fo.town;obtain⟨va,vn,vc,rA⟩:=Jk ho.o;dsimp only at dA cA;subst dA cA rA;obtain⟨yA,yn,yc,hcg⟩:=Jg b;simp only[FnA.cells,hcg,List.cons_append,List.nil_append]at hcl;have c0:=hcl 0 _ rfl;have c1:=hcl 1 _ rfl;have c2:=hcl 2 _ rfl;have c3:=hcl 3 _ rfl;have c4:=hcl 4 _ rfl;have c5:=hcl 5 _ rfl;have c6:=hcl 6 _ rfl;have c7:=hcl 7 _ rfl;have c8:=hcl 8 _ rfl;have c9:=hcl 9 _ rfl;simp only[Nat.add_zero]at c0;have wk:=zI i;have HCP:=Zh (zQ wl (.cells ([Sv nm,Iv of,.slice pa pn pc,.slice ta tn tc,Iv res,Iv b.kind,Iv b.num,.string (bs b.name),Iv b.off,.slice yA yn yc]).toArray 147));have gA:Hi (Below w.heap.size w (wl.alloc (.cells ([Sv nm,Iv of,.slice pa pn pc,.slice ta tn tc,Iv res,Iv b.kind,Iv b.num,.string (bs b.name),Iv b.off,.slice yA yn yc]).toArray 147))):=hb.o.alloc hb.o.size _;have HOW:Hi ((wl.alloc (.cells ([Sv nm,Iv of,.slice pa pn pc,.slice ta tn tc,Iv res,Iv b.kind,Iv b.num,.string (bs b.name),Iv b.off,.slice yA yn yc]).toArray 147)).ownsRow w.heap.size 41 7 (.slice va vn vc) i ((S.funcs.take i).flatMap Qgd)):=ho.o.alloc _;have HG:=Zh hg;subst bA;clear hcl xA fo hg hcg jA hb ho;go_upto_region 4 with fail;clear c0 c1 c2 c3 c4 c5 c6 c7 c8 c9;generalize World.alloc wl _=w1 at *;generalize wl.heap.size=cb at *;have n2:=Ja HCP.o 2;have n3:=Ja HCP.o 3;have n4:=Ja HCP.o 4;simp only[zW]at n2 n3 n4;obtain⟨i0,xB,bB,dB,uB⟩:=info_parts Qde;have HI:=Zh xB;clear xB;go_wp2_with (at_builtin;refine wpList_append_own _ rfl _ _ 22 rfl w.heap.size 41 i0 (.agg #[Em,Nl,Iv 0,Iv 0,Iv 0,Em,Nl]) 7 104 underlying22 HI.o bB dB uB rfl zp _ _ _ rfl (HOW.o.alloc _) ⟨w1.heap.size,0,none⟩ 1 1 [Em,.slice ta tn tc,Iv res,Iv 0,Iv 0,Em,Nl] rfl rfl ?c1 ?c2 ?c3 ?c4 ?c5 ?_)
  case c2=>exact⟨rfl,rfl,rfl,rfl,rfl,rfl⟩
  case c3=>unfold maxLen;omega
  case c4=>omega
  case c5=>have:=gA.o.size;omega
  intro v' w' hown' hgrow _;have HO7:Hi (w'.ownsRow w.heap.size 41 7 v' (i+1) ((S.funcs.take (i+1)).flatMap Qgd)):=by rw[Hi,HTS.o];exact hown'
  have HB7:Hi (Below w.heap.size w w'):=by
   have hc:=JP hgrow;exact Kr gA.o hc.os hc.tape hc.output hc.size λk hk=>hc.block k (zu gA.o.size) λhm=>by have:=(HOW.o.lt k (by simpa using hm)).1;omega
  clear hown' hgrow gA HOW n2 n3 n4 HCP;go_wp2;go_roundg (S.funcs.length-(i+1))
  case measure=>have:=HG.o;omega
  case rel=>exact⟨i+1,by omega,by go_num,HB7,HO7⟩
 ·have hil:¬(i:Int)<(S.funcs.length:Int):=zo;obtain rfl:i=S.funcs.length:=zo;have eA:=ho.o;rw[List.take_length]at eA;obtain⟨va,vn,vc,rA⟩:=Jk eA;subst rA;have qA:Below w.heap.size w (wl.alloc (.cells #[.bool false,Iv 0,.slice va vn vc] 123)):=hb.o.alloc hb.o.size _
  have zA:Hi (Ck w (wl.alloc (.cells #[.bool false,Iv 0,.slice va vn vc] 123)) sb S wl.heap.size (QaG none (ckF S 0)) (.slice va vn vc)):=by
   have vB:=HS.o.on (Chg.of_below qA []) zq;refine Ck.mk' HS.o (zQ _ _) (JlZ (eA.alloc _) (λf hf=>⟨(vB.fok f hf).1,?_⟩) λe=>?_) qA hb.o.size
   ·have:=(HS.o.ivs (f.lo,f.hi) (List.mem_append_left _ (List.mem_map.2 ⟨f,hf,rfl⟩))).2.2;have:=hb.o.size;dsimp only at *;omega
   ·have:=(eA.lt _ e).2;omega
  have hbx:=zA.o.ok.box;rw[aB.o]at hbx;have b1:=Ja hbx 0;simp only[zW]at b1;clear hi hg ho eA hb qA hbx
  have HPS:Hi (∀s∈S.funcs.map QeL,s.params.length<=1000000000):=λs hs=>by
   obtain⟨f,hf,rfl⟩:=List.mem_map.1 hs;have:=(H3.o f hf).2.2.1
   show f.types.length<=_
   omega
  go_wp2_with fail;clear b1;generalize World.alloc wl _=w2 at *;generalize wl.heap.size=rb at *;generalize Value.slice va vn vc=M at *;go_loopg [36] S.funcs.length λg v36 wr=>∃i:Nat,g+i=S.funcs.length/\v36=Iv i/\Hi (Ck w wr sb S rb (QaG none (ckF S i)) M)
  case atStart=>exact⟨0,rfl,rfl,zA⟩
  case round=>
  clear zA hil;obtain⟨wm,rfl⟩:=zJ wr;obtain⟨i,hg,rfl,hk⟩:=hrel
  by_cases hi:i<S.funcs.length
  ·have hil:(i:Int)<(S.funcs.length:Int):=zo;obtain⟨fn,xA⟩:∃fn,S.funcs[i]?=some fn:=⟨S.funcs[i],List.getElem?_eq_getElem hi⟩
   have hmem:=List.mem_of_getElem? xA;have bA:=nA.o zo;obtain⟨fo,_,_⟩:=hk.o.ok.fok fn hmem;have hcl:=Yv hk.o.ok xA;obtain⟨hwf,hsz,cB,aA⟩:=H3.o fn hmem;have vA:=Zh (JjW xA);have hb1:Below wm.heap.size wm (wm.alloc (.cells fn.cells.toArray 147)):=zO.alloc zP _;have cn:=JH (S.funcs.map QeL) rb M fn.body fn.types fn.tv (QaG none (ckF S i)) fn.result _ ((hk.o.up hb1).preF hmem aA hwf) λW hp=>JcC _ rb M HPS.o (siz fn.body.nd) fn.body fn.types fn.tv _ W zP zo hp;have uA:=Zh (hk.o.up hb1);obtain⟨nm,of,ps,ts,res,b,pv,tv,gB,eB⟩:=fn;obtain⟨pa,pn,pc,dA⟩:=Jk fo.pown;obtain⟨ta,tn,tc,cA⟩:=Jk fo.town;dsimp only at dA cA cn vA;subst dA cA;obtain⟨yA,yn,yc,hcg⟩:=Jg b;obtain⟨E,hE⟩:∃E,QbF (S.funcs.map QeL) ts res b.nd=E:=⟨_,rfl⟩
   rw[hE]at cn vA;simp only[FnA.cells,hcg,List.cons_append,List.nil_append]at hcl cn uA;have c0:=hcl 0 _ rfl;have c1:=hcl 1 _ rfl;have c2:=hcl 2 _ rfl;have c3:=hcl 3 _ rfl;have c4:=hcl 4 _ rfl;have c5:=hcl 5 _ rfl;have c6:=hcl 6 _ rfl;have c7:=hcl 7 _ rfl;have c8:=hcl 8 _ rfl;have c9:=hcl 9 _ rfl;simp only[Nat.add_zero]at c0;have wk:=zI i;have HG:=Zh hg;subst bA;clear hcl xA fo hg hcg hk hb1 hE hwf hsz cB aA hmem;go_wp2_with fail;clear c0 c1 c2 c3 c4 c5 c6 c7 c8 c9;refine cn.mono ?_;intro e w8 hr
   have iA:Hi (Ck w w8 sb S rb (QaG none (ckF S (i+1))) M):=by
    rw[Hi,vA.o,Jw];exact uA.o.step HS.o hr
   obtain rfl:=hr.1;clear hr cn uA;go_wp2;go_roundg (S.funcs.length-(i+1))
   case measure=>have:=HG.o;omega
   case rel=>exact⟨i+1,by omega,by go_num,iA⟩
  ·have hil:¬(i:Int)<(S.funcs.length:Int):=zo;obtain rfl:i=S.funcs.length:=zo;obtain⟨X0,kA⟩:∃X0,QaG none (ckF S S.funcs.length)=X0:=⟨_,rfl⟩
   rw[kA]at hk;have HX0:=Zh kA;have zA:Hi (Ck w wm sb S rb (QaG X0 (ckC S 0)) M):=hk;have hbx:=zA.o.ok.box;rw[HCV.o]at hbx;have b1:=Ja hbx 1;simp only[zW]at b1;clear hi hg hk kA hbx H3 nA;go_wp2_with fail;clear b1;go_loopg [54] S.clauses.length λg v54 wr=>∃i:Nat,g+i=S.clauses.length/\v54=Iv i/\Hi (Ck w wr sb S rb (QaG X0 (ckC S i)) M)
   case atStart=>exact⟨0,rfl,rfl,zA⟩
   case round=>
   clear zA hil;obtain⟨wc,rfl⟩:=zJ wr;obtain⟨i,hg,rfl,hk⟩:=hrel
   by_cases hi:i<S.clauses.length
   ·have hil:(i:Int)<(S.clauses.length:Int):=zo;obtain⟨c,hA⟩:∃c,S.clauses[i]?=some c:=⟨S.clauses[i],List.getElem?_eq_getElem hi⟩
    have hmem:=List.mem_of_getElem? hA;have bA:=yB.o zo;have hcl:=JeU hk.o.ok hA;obtain⟨hwf,hsz,aA⟩:=H4.o c hmem;have vA:=Zh (JjX hA);have hb1:Below wc.heap.size wc (wc.alloc (.cells c.cells.toArray 151)):=zO.alloc zP _;have cn:=JH (S.funcs.map QeL) rb M c.cond [] Nl (QaG X0 (ckC S i)) 1 _ ((hk.o.up hb1).preC hmem aA hwf) λW hp=>JcC _ rb M HPS.o (siz c.cond.nd) c.cond [] Nl _ W zP zr hp;have uA:=Zh (hk.o.up hb1);obtain⟨b,ac,rs,iB,hB⟩:=c;obtain⟨yA,yn,yc,hcg⟩:=Jg b;obtain⟨E,hE⟩:∃E,QbF (S.funcs.map QeL) [] 1 b.nd=E:=⟨_,rfl⟩
    dsimp only at cn vA;rw[hE]at cn vA;simp only[ClA.cells,hcg,List.cons_append,List.nil_append]at hcl cn uA;have c0:=hcl 0 _ rfl;have c1:=hcl 1 _ rfl;have c2:=hcl 2 _ rfl;have c3:=hcl 3 _ rfl;have c4:=hcl 4 _ rfl;have c5:=hcl 5 _ rfl;have c6:=hcl 6 _ rfl;simp only[Nat.add_zero]at c0;have wk:=zI i;have HG:=Zh hg;subst bA;clear hcl hA hg hcg hk hb1 hE hwf hsz aA hmem;go_wp2_with fail;clear c0 c1 c2 c3 c4 c5 c6;refine cn.mono ?_;intro e w8 hr
    have iA:Hi (Ck w w8 sb S rb (QaG X0 (ckC S (i+1))) M):=by
     rw[Hi,vA.o,Jw];exact uA.o.step HS.o hr
    obtain rfl:=hr.1;clear hr cn uA;go_wp2;go_roundg (S.clauses.length-(i+1))
    case measure=>have:=HG.o;omega
    case rel=>exact⟨i+1,by omega,by go_num,iA⟩
   ·have hil:¬(i:Int)<(S.clauses.length:Int):=zo;obtain rfl:i=S.clauses.length:=zo;have mA:=hk.o;rw[<- HX0.o,<- Jw,JnC,JaJ]at mA;have HK:=Zh mA;have r0:=Ja HK.o.flt 0;have r1:=Ja HK.o.flt 1;simp only[zW]at r0 r1;clear hi hg hk mA HX0 yB H4 HPS
    cases hL:QaZ (QbH S.src) with
    |none=>
     rw[hL]at r0 r1;simp only[Option.isSome,Option.getD]at r0 r1;have HL:=Zh hL;clear hL;go_wp2;go_end0;rw[HR.o];unfold Qgn;rw[HL.o];exact⟨rfl,HK.o.bel⟩
    |some er=>
     rw[hL]at r0 r1;simp only[Option.isSome,Option.getD]at r0 r1;have HL:=Zh hL;clear hL;go_wp2;refine⟨rfl,?_⟩;rw[HR.o];unfold Qgn;rw[HL.o];exact⟨rfl,HK.o.bel⟩
mutual
def XAt(W:World)(P:Nat->Prop):Exp->Array Value->Prop
 |.mk k n s l,c=>∃ad cc xs,c=#[Iv k,Iv n,Sv s,.slice ad l.length cc]/\l.length<=cc/\QcR W P l xs/\
   (l=[]\/∃b o,ad=some ⟨b,o,none⟩/\P b/\∀j u,xs[j]?=some u->W.cell? ⟨b,o+j,none⟩=some u)
def QcR(W:World)(P:Nat->Prop):List Exp->List Value->Prop
 |[],xs=>xs=[]
 |e::l,xs=>∃c r,XAt W P e c/\xs=c.toList++r/\QcR W P l r
end
theorem Qhz{P:Prop}(h:P:=by
  rintro⟨b,o,h5,h6,h7⟩
  exact⟨b,o,h5,hq b h6,λj u hj=>(World.cell?_of_block (a:=⟨b,o+j,none⟩) (hk b h6)).trans (h7 j u hj)⟩):P:=h
mutual
def XAt.keep{W W':World}{P Q:Nat->Prop}(hk:∀b,P b->W'.heap[b]?=W.heap[b]?)(hq:∀b,P b->Q b):∀(e:Exp) (c:Array Value),XAt W P e c->XAt W' Q e c
 |.mk k n s l,c,h=>by
  unfold XAt at *;obtain⟨ad,cc,xs,h1,h2,h3,h4⟩:=h;refine⟨ad,cc,xs,h1,h2,QcR.keep hk hq l xs h3,h4.imp id ?_⟩;exact Qhz
def QcR.keep{W W':World}{P Q:Nat->Prop}(hk:∀b,P b->W'.heap[b]?=W.heap[b]?)(hq:∀b,P b->Q b):∀(l:List Exp) (xs:List Value),QcR W P l xs->QcR W' Q l xs
 |[],xs,h=>by unfold QcR at *;exact h
 |e::l,xs,h=>by
  unfold QcR at *;obtain⟨c,r,h1,h2,h3⟩:=h;exact⟨c,r,XAt.keep hk hq e c h1,h2,QcR.keep hk hq l r h3⟩
end
def XAt.form{W:World}{P:Nat->Prop}{e:Exp}{c:Array Value}(h:XAt W P e c):∃ad cc,c=#[Iv e.kind,Iv e.num,.string (bs e.name),.slice ad e.kids.length cc]/\e.kids.length<=cc:=by
 cases e
 unfold XAt at h;obtain⟨ad,cc,xs,h1,h2,_⟩:=h;exact⟨ad,cc,h1,h2⟩
def XAt.size{W:World}{P:Nat->Prop}{e:Exp}{c:Array Value}(h:XAt W P e c):c.size=4:=by
 obtain⟨ad,cc,rfl,_⟩:=h.form;rfl
def QcR.snoc{W:World}{P:Nat->Prop}{e:Exp}{c:Array Value}(he:XAt W P e c):∀{l:List Exp} {xs:List Value},QcR W P l xs->QcR W P (l++[e]) (xs++c.toList)
 |[],xs,h=>by
  unfold QcR at h;subst h
  show QcR W P [e] _
  unfold QcR;exact⟨c,[],he,by simp,by unfold QcR;rfl⟩
 |a::l,xs,h=>by
  unfold QcR at h;obtain⟨c',r,h1,rfl,h3⟩:=h
  show QcR W P (a::(l++[e])) _
  unfold QcR;exact⟨c',r++c.toList,h1,by simp,h3.snoc he⟩
def QcR.get{W:World}{P:Nat->Prop}:∀{l:List Exp} {xs:List Value} {i:Nat} {e:Exp},QcR W P l xs->l[i]?=some e->∃c,XAt W P e c/\∀j u,c[j]?=some u->xs[i*4+j]?=some u
 |[],xs,i,e,h,hi=>by cases hi
 |a::l,xs,0,e,h,hi=>by
  unfold QcR at h;obtain⟨c,r,h1,rfl,h3⟩:=h;obtain rfl:a=e:=by simpa using hi
  refine⟨c,h1,λj u hj=>?_⟩;have hl:j<c.toList.length:=by rw[Array.length_toList];exact(Array.getElem?_eq_some_iff.1 hj).1
  rw[Nat.zero_mul,Nat.zero_add,List.getElem?_append_left hl,Array.getElem?_toList];exact hj
 |a::l,xs,i+1,e,h,hi=>by
  unfold QcR at h;obtain⟨c,r,h1,rfl,h3⟩:=h;obtain⟨c',g1,g2⟩:=h3.get (i:=i) (by simpa using hi);refine⟨c',g1,λj u hj=>?_⟩;have hl:c.toList.length=4:=by rw[Array.length_toList,h1.size]
  rw[List.getElem?_append_right zo,hl,show (i+1)*4+j-4=i*4+j by omega];exact g2 j u hj
def XAt.kid{W:World}{P:Nat->Prop}{k n:Int}{s:By}{l:List Exp}{c:Array Value}(h:XAt W P (.mk k n s l) c):∃ad cc,c=#[Iv k,Iv n,Sv s,.slice ad l.length cc]/\l.length<=cc/\
  (l≠[]->∃b o,ad=some ⟨b,o,none⟩/\P b/\∀i e,l[i]?=some e->∃d,XAt W P e d/\∀j u,d[j]?=some u->W.cell? ⟨b,o+i*4+j,none⟩=some u):=by
 unfold XAt at h;obtain⟨ad,cc,xs,h1,h2,h3,h4⟩:=h;refine⟨ad,cc,h1,h2,λhne=>?_⟩
 rcases h4 with h4|⟨b,o,h5,h6,h7⟩
 ·exact absurd h4 hne
 ·refine⟨b,o,h5,h6,λi e hi=>?_⟩;obtain⟨d,g1,g2⟩:=h3.get hi;exact⟨d,g1,λj u hj=>by rw[Nat.add_assoc];exact h7 _ u (g2 j u hj)⟩
def QbR(W:World)(P:Nat->Prop)(l:List Int)(v:Value):Prop:=∃ad cc,v=.slice ad l.length cc/\l.length<=cc/\(l=[]\/∃b o,ad=some ⟨b,o,none⟩/\P b/\∀i n,l[i]?=some n->W.cell? ⟨b,o+i,none⟩=some (Iv n))
def QbR.keep{W W':World}{P Q:Nat->Prop}{l:List Int}{v:Value}(hk:∀b,P b->W'.heap[b]?=W.heap[b]?)(hq:∀b,P b->Q b)(h:QbR W P l v):QbR W' Q l v:=by
 obtain⟨ad,cc,h1,h2,h3⟩:=h;refine⟨ad,cc,h1,h2,h3.imp id ?_⟩;rintro⟨b,o,h4,h5,h6⟩;exact⟨b,o,h4,hq b h5,λi n hi=>(World.cell?_of_block (a:=⟨b,o+i,none⟩) (hk b h5)).trans (h6 i n hi)⟩
def FnX(W:World)(P:Nat->Prop)(f:FnM)(c:List Value):Prop:=∃v d,QbR W P f.params v/\XAt W P f.body d/\c=[.string (bs f.name),v,Iv f.result]++d.toList
def ClX(W:World)(P:Nat->Prop)(m:ClM)(c:List Value):Prop:=∃d,XAt W P m.cond d/\c=d.toList++[Iv m.action,.string (bs m.reason)]
def QbM{α:Type}(R:α->List Value->Prop):List α->List Value->Prop
 |[],xs=>xs=[]
 |e::l,xs=>∃c r,R e c/\xs=c++r/\QbM R l r
def QbM.imp{α:Type}{R R':α->List Value->Prop}(h:∀a c,R a c->R' a c):∀{l:List α} {xs:List Value},QbM R l xs->QbM R' l xs
 |[],xs,hh=>hh
 |e::l,xs,⟨c,r,h1,h2,h3⟩=>⟨c,r,h e c h1,h2,QbM.imp h h3⟩
def QbM.snoc{α:Type}{R:α->List Value->Prop}{e:α}{c:List Value}(he:R e c):∀{l:List α} {xs:List Value},QbM R l xs->QbM R (l++[e]) (xs++c)
 |[],xs,h=>by
  obtain rfl:xs=[]:=h;exact⟨c,[],he,by simp,rfl⟩
 |a::l,xs,⟨c',r,h1,h2,h3⟩=>⟨c',r++c,h1,by rw[h2,List.append_assoc],QbM.snoc he h3⟩
def QbM.get{α:Type}{R:α->List Value->Prop}{m:Nat}(hR:∀a c,R a c->c.length=m):∀{l:List α} {xs:List Value} {i:Nat} {e:α},QbM R l xs->l[i]?=some e->∃c,R e c/\∀j u,c[j]?=some u->xs[i*m+j]?=some u
 |[],xs,i,e,h,hi=>by cases hi
 |a::l,xs,0,e,⟨c,r,h1,h2,h3⟩,hi=>by
  obtain rfl:a=e:=by simpa using hi
  refine⟨c,h1,λj u hj=>?_⟩;rw[h2,Nat.zero_mul,Nat.zero_add,List.getElem?_append_left (List.getElem?_eq_some_iff.1 hj).1];exact hj
 |a::l,xs,i+1,e,⟨c,r,h1,h2,h3⟩,hi=>by
  obtain⟨c',g1,g2⟩:=QbM.get hR h3 (i:=i) (by simpa using hi);refine⟨c',g1,λj u hj=>?_⟩;have hl:=hR _ _ h1;rw[h2,List.getElem?_append_right (by rw[hl,Nat.add_mul];omega),hl,show (i+1)*m+j-m=i*m+j by rw[Nat.add_mul];omega];exact g2 j u hj
def FnX.len{W:World}{P:Nat->Prop}(f:FnM)(c:List Value)(h:FnX W P f c):c.length=7:=by
 obtain⟨v,d,_,h2,rfl⟩:=h;have:=h2.size;simp[this]
def ClX.len{W:World}{P:Nat->Prop}(f:ClM)(c:List Value)(h:ClX W P f c):c.length=6:=by
 obtain⟨d,h2,rfl⟩:=h;have:=h2.size;simp[this]
def FnX.keep{W W':World}{P Q:Nat->Prop}(hk:∀b,P b->W'.heap[b]?=W.heap[b]?)(hq:∀b,P b->Q b)(f:FnM)(c:List Value)(h:FnX W P f c):FnX W' Q f c:=by
 obtain⟨v,d,h1,h2,h3⟩:=h;exact⟨v,d,h1.keep hk hq,h2.keep hk hq,h3⟩
def ClX.keep{W W':World}{P Q:Nat->Prop}(hk:∀b,P b->W'.heap[b]?=W.heap[b]?)(hq:∀b,P b->Q b)(f:ClM)(c:List Value)(h:ClX W P f c):ClX W' Q f c:=by
 obtain⟨d,h2,h3⟩:=h;exact⟨d,h2.keep hk hq,h3⟩
def Qan{α:Type}(W:World)(P:Nat->Prop)(R:α->List Value->Prop)(l:List α)(v:Value):Prop:=
 ∃ad cc xs,v=.slice ad l.length cc/\l.length<=cc/\QbM R l xs/\(l=[]\/∃b o,ad=some ⟨b,o,none⟩/\P b/\∀j u,xs[j]?=some u->W.cell? ⟨b,o+j,none⟩=some u)
def Qan.keep{α:Type}{W W':World}{P Q:Nat->Prop}{R R':α->List Value->Prop}{l:List α}{v:Value}(hk:∀b,P b->W'.heap[b]?=W.heap[b]?)(hq:∀b,P b->Q b)(hR:∀a c,R a c->R' a c)(h:Qan W P R l v):Qan W' Q R' l v:=by
 obtain⟨ad,cc,xs,h1,h2,h3,h4⟩:=h;refine⟨ad,cc,xs,h1,h2,h3.imp hR,h4.imp id ?_⟩;exact Qhz
def Qan.get{α:Type}{W:World}{P:Nat->Prop}{R:α->List Value->Prop}{m:Nat}(hR:∀a c,R a c->c.length=m){l:List α}{v:Value}(h:Qan W P R l v):∃ad cc,v=.slice ad l.length cc/\l.length<=cc/\
  (l≠[]->∃b o,ad=some ⟨b,o,none⟩/\P b/\∀i e,l[i]?=some e->∃c,R e c/\∀j u,c[j]?=some u->W.cell? ⟨b,o+i*m+j,none⟩=some u):=by
 obtain⟨ad,cc,xs,h1,h2,h3,h4⟩:=h;refine⟨ad,cc,h1,h2,λhne=>?_⟩
 rcases h4 with h4|⟨b,o,h5,h6,h7⟩
 ·exact absurd h4 hne
 ·refine⟨b,o,h5,h6,λi e hi=>?_⟩;obtain⟨d,g1,g2⟩:=QbM.get hR h3 hi;exact⟨d,g1,λj u hj=>by rw[Nat.add_assoc];exact h7 _ u (g2 j u hj)⟩
def QaV(W:World)(P:Nat->Prop)(r:Qah)(c:Array Value):Prop:=∃fv cv,c=#[fv,cv,Iv r.action]/\Qan W P (FnX W P) r.funcs fv/\Qan W P (ClX W P) r.clauses cv
def QaV.keep{W W':World}{P Q:Nat->Prop}{r:Qah}{c:Array Value}(hk:∀b,P b->W'.heap[b]?=W.heap[b]?)(hq:∀b,P b->Q b)(h:QaV W P r c):QaV W' Q r c:=by
 obtain⟨fv,cv,h1,h2,h3⟩:=h;exact⟨fv,cv,h1,h2.keep hk hq (FnX.keep hk hq),h3.keep hk hq (ClX.keep hk hq)⟩
theorem QjP{P:Prop}(h:P:=by
  rcases h.2 with⟨rfl,h0⟩|⟨g,cap,cur,rfl,h1,h2,h3,h4,h5,h6⟩
  ·have:l=[]:=List.eq_nil_of_length_eq_zero h0;subst this;exact⟨none,0,xs,rfl,Nat.le_refl _,hr,.inl rfl⟩
  ·refine⟨_,cap,xs,rfl,h3,hr,.inr ⟨g,0,rfl,hP g rfl,λj u hj=>?_⟩⟩;have:=h.cells (g:=g) rfl j u hj;have hadd:(⟨g,0,none⟩:Addr).add j=⟨g,j,none⟩:=by unfold Addr.add;split<;>simp_all
   rw[hadd]at this;rw[Nat.zero_add]
   exact this):P:=h
def Qan.own{α:Type}{W:World}{P:Nat->Prop}{R:α->List Value->Prop}{l:List α}{v:Value}{base e size:Nat}{xs:List Value}(h:W.ownsRow base e size v l.length xs)(hr:QbM R l xs)(hP:∀g,v.ownBlock=some g->P g):Qan W P R l v:=by
 exact QjP
def XAt.own{W:World}{P:Nat->Prop}{k n:Int}{s:By}{l:List Exp}{v:Value}{base e size:Nat}{xs:List Value}(h:W.ownsRow base e size v l.length xs)(hr:QcR W P l xs)(hP:∀g,v.ownBlock=some g->P g):XAt W P (.mk k n s l) #[Iv k,Iv n,Sv s,v]:=by
 unfold XAt;exact QjP
theorem zj{P:Prop}(h:P:=by exact ⟨hb.os.trans h.bel.os,hb.tape.trans h.bel.tape,hb.output.trans h.bel.output,le_trans h.bel.size hb.size,λq hq=>(hb.block q (Nat.lt_of_lt_of_le hq h.bel.size)).trans (h.bel.block q hq)⟩):P:=h
def Qfw:(prog.info? 37).map (λi=>(i.zero,i.size,i.bytes))=some (some (.agg #[Iv 0,Iv 0,Em,Nl]),4,56):=zk
def QfX:(prog.info? 37).map (·.size)=some 4:=zk
def Qfj(w W:World)(b:Nat):Prop:=w.heap.size<=b/\b<W.heap.size
structure TrI(w:World)(rs bx lo:Nat)(k n:Int)(s:By)(W:World)(l:List Exp)(V:Value)(xs:List Value):Prop where
 own:W.ownsRow lo 37 4 V l.length xs
 row:QcR W (λb=>lo<=b/\b<W.heap.size/\V.ownBlock≠some b) l xs
 box:W.heap[bx]?=some (.cells #[Iv k,Iv n,Sv s,V] 37 (0,0))
 res:W.heap[rs]?=some (.cells #[Iv 0,Iv 0,Em,Nl] 37 (0,0))
 bel:Below w.heap.size w W
 low:w.heap.size<=rs/\rs<bx/\bx<lo/\lo<=W.heap.size
section
variable {w:World} {rs bx lo:Nat} {k n:Int} {s:By} {W W':World} {l:List Exp} {V:Value} {xs:List Value}
def TrI.up(h:TrI w rs bx lo k n s W l V xs)(hb:Below W.heap.size W W'):TrI w rs bx lo k n s W' l V xs:=by
 obtain⟨l1,l2,l3,l4⟩:=h.low;have hc:=Chg.of_below hb []
 exact⟨JA h.own hc zq,QcR.keep (λb hP=>hb.block b hP.2.1) (λb hP=>⟨hP.1,Nat.lt_of_lt_of_le hP.2.1 hb.size,hP.2.2⟩) _ _ h.row,(hb.block _ (Jb h.box)).trans h.box,(hb.block _ (Jb h.res)).trans h.res,
  zj,l1,l2,l3,le_trans l4 hb.size⟩
theorem QjC{P:Prop}(h:P:=by
  exact⟨hst.os.trans (hc7.os.trans h6.bel.os),hst.tape.trans (hc7.tape.trans h6.bel.tape),hst.output.trans (hc7.output.trans h6.bel.output),by omega,λq hq=>(hkeep q (by omega) (λe1=>by have h1:=(hrow _ e1).1;omega) (by omega)).trans (h6.bel.block q hq)⟩):P:=h
def TrI.step{w1 w6 w7:World}{e:Exp}{c:Array Value}{V':Value}{X:Obj}(h:TrI w rs bx lo k n s w1 l V xs)(hb:Below w1.heap.size w1 w6)(hx:XAt w6 (Qfj w1 w6) e c)
  (hown:w7.ownsRow lo 37 4 V' (l.length+1) (xs++c.toList)) (hgr:(w6.alloc X).grownBy w7 V.ownBlock) (hfr:V'.ownBlock=V.ownBlock\/V'.ownBlock=some (w6.alloc X).heap.size) :
  TrI w rs bx lo k n s (w7.setCell ⟨bx,3,none⟩ V') (l++[e]) V' (xs++c.toList)/\w7.heap[bx]?=some (.cells #[Iv k,Iv n,Sv s,V] 37 (0,0)):=by
 have h6:=h.up hb;obtain⟨l1,l2,l3,l4⟩:=h6.low;have hrow:∀g,V.ownBlock=some g->lo<=g/\g<w1.heap.size:=λg hg=>h.own.lt g hg
 have hc7:=JP hgr;have hbx7:w7.heap[bx]?=some (.cells #[Iv k,Iv n,Sv s,V] 37 (0,0)):=hc7.heap_some (λhm=>by have:=(hrow bx (by simpa using hm)).1;omega) h6.box;have hst:Chg [bx] w7 (w7.setCell ⟨bx,3,none⟩ V'):=(Chg.refl _ _).setCell (.inl (by simp:bx∈[bx])) (p:=⟨bx,3,none⟩) V';have hkeep:∀q,q<w6.heap.size->V.ownBlock≠some q->q≠bx->(w7.setCell ⟨bx,3,none⟩ V').heap[q]?=w6.heap[q]?:=λq hq hn hne=>(hst.block q (Nat.lt_of_lt_of_le hq hc7.size) (by simpa using hne)).trans (hc7.block q hq (by simpa using hn))
 have hsz:w6.heap.size<=(w7.setCell ⟨bx,3,none⟩ V').heap.size:=le_trans hc7.size hst.size
 have xA:∀b,b<w6.heap.size->V.ownBlock≠some b->V'.ownBlock≠some b:=by
  intro b hb1 hb2 e1
  rcases hfr with e2|e2
  ·exact hb2 (e2.symm.trans e1)
  ·rw[e2]at e1;simp at e1;omega
 have yA:=hb.size;refine⟨⟨?_,QcR.snoc ?_ ?_,?_,?_,?_,l1,l2,l3,le_trans l4 hsz⟩,hbx7⟩
 ·rw[List.length_append];exact JA hown hst zr
 ·refine XAt.keep (P:=Qfj w1 w6) (λb hP=>?_) (λb hP=>?_) _ _ hx
  ·exact hkeep b hP.2 (λe1=>by have h1:=(hrow b e1).2;have h2:=hP.1;omega) (by have h2:=hP.1;have:=h.low;omega)
  ·have h2:=hP.1;have h3:=hP.2;have:=h.low;exact⟨by omega,by omega,xA b h3 λe1=>by have h1:=(hrow b e1).2;omega⟩
 ·exact QcR.keep (λb hP=>hkeep b hP.2.1 hP.2.2 (zu hP.1)) (λb hP=>⟨hP.1,by have:=hP.2.1;omega,xA b hP.2.1 hP.2.2⟩) _ _ h6.row
 ·exact Jm hbx7 3 V'
 ·exact(hkeep _ (Jb h6.res) (λe1=>by have h1:=(hrow _ e1).1;omega) zo).trans h6.res
 ·have zA:w.heap.size<=w6.heap.size:=h6.bel.size;exact QjC
def TrI.fin(h:TrI w rs bx lo k n s W l V xs):let W':=(((W.setCell ⟨rs,0,none⟩ (Iv k)).setCell ⟨rs,1,none⟩ (Iv n)).setCell ⟨rs,2,none⟩ (Sv s)).setCell ⟨rs,3,none⟩ V
  XAt W' (Qfj w W') (.mk k n s l) #[Iv k,Iv n,Sv s,V]/\Below w.heap.size w W':=by
 intro W';obtain⟨l1,l2,l3,l4⟩:=h.low;have hst:Chg [rs] W W':=((((Chg.refl _ _).setCell (.inl zq) _).setCell (.inl zq) _).setCell (.inl zq) _).setCell (.inl zq) _;have hsz:=hst.size;refine⟨XAt.own (JA h.own hst zr) (QcR.keep (λb hP=>hst.block b hP.2.1 (by have:=hP.1;simp;omega)) (λb hP=>⟨by have:=hP.1;omega,by have:=hP.2.1;omega⟩) _ _ h.row) λg hg=>?_,QiU _ _ _ _ h.bel l1⟩;have:=h.own.lt g hg;exact⟨by omega,by omega⟩
end
def Jhv(l:List Nd)(a:Nd):QaJ (l++[a])=QaJ l++[Qab a]:=by
 induction l with
 |nil=>simp[QaJ]
 |cons x r ih=>simp[QaJ,ih]
def TrP(w:World)(x:Exp)(e:Ending)(w':World):Prop:=∃c,e=.returned (.agg c)/\XAt w' (Qfj w w') x c/\Below w.heap.size w w'
def Jhw(n:Nat)(IH:∀(a:An) (w:World),siz a.nd<=n->a.At w->Calls prog 99 #[.agg (Qaa a)] w (TrP w (Qab a.nd)))(k nn:Int)(s:By)(off:Int)(b c:Nat)(l:List An)(w:World)(hn:Qbd (ndL l)<=n)(hb:n<=100000000)(hat:(An.mk k nn s off b c l).At w) :
  Calls prog 99 #[.agg (Qaa (.mk k nn s off b c l))] w (TrP w (.mk k nn s (QaJ (ndL l)))):=by
 obtain⟨R,hR⟩:∃R,TrP w (.mk k nn s (QaJ (ndL l)))=R:=⟨_,rfl⟩
 rw[hR];have HR:Hi (R=TrP w (.mk k nn s (QaJ (ndL l)))):=hR.symm;obtain⟨ad,cc,hkv,gA⟩:=Jp b c l
 have iA:Qaa (.mk k nn s off b c l)=#[Iv k,Iv nn,Sv s,Iv off,.slice ad l.length cc]:=by
  show #[_,_,_,_,Qaz b c l]=_
  rw[hkv]
 have hA:Below w.heap.size w (((w.alloc (.cells #[Iv k,Iv nn,Sv s,Iv off,.slice ad l.length cc] 127)).alloc (.cells #[Iv 0,Iv 0,Em,Nl] 37)).alloc (.cells #[Iv k,Iv nn,Sv s,Nl] 37)):=((zO.alloc (Nat.le_refl _) _).alloc zq _).alloc zr _
 have dA:Hi (TrI w (w.heap.size+1) (w.heap.size+1+1) (w.heap.size+1+1+1) k nn s (((w.alloc (.cells #[Iv k,Iv nn,Sv s,Iv off,.slice ad l.length cc] 127)).alloc (.cells #[Iv 0,Iv 0,Em,Nl] 37)).alloc (.cells #[Iv k,Iv nn,Sv s,Nl] 37)) [] Nl []):=by
  have e1:=zQ (w.alloc (.cells #[Iv k,Iv nn,Sv s,Iv off,.slice ad l.length cc] 127)) (.cells #[Iv 0,Iv 0,Em,Nl] 37);have e2:=zQ ((w.alloc (.cells #[Iv k,Iv nn,Sv s,Iv off,.slice ad l.length cc] 127)).alloc (.cells #[Iv 0,Iv 0,Em,Nl] 37)) (.cells #[Iv k,Iv nn,Sv s,Nl] 37);simp only[World.size_alloc]at e1 e2;exact⟨⟨rfl,.inl ⟨rfl,rfl⟩⟩,by unfold QcR;rfl,e2,Jf e1,hA,by omega,by omega,by omega,by simp⟩
 have HNB:Hi ((((w.alloc (.cells #[Iv k,Iv nn,Sv s,Iv off,.slice ad l.length cc] 127)).alloc (.cells #[Iv 0,Iv 0,Em,Nl] 37)).alloc (.cells #[Iv k,Iv nn,Sv s,Nl] 37)).heap[w.heap.size]?=some (.cells #[Iv k,Iv nn,Sv s,Iv off,.slice ad l.length cc] 127 (0,0))):=Jf (Jf (zQ _ _));have nA:=Zh hat;have HAD:=Zh gA;have mA:=Zh IH;have tA:l.length<=100000000:=by have:=Jy l;omega
 have HSZ:=Zh hn;rw[iA];clear hR hA hkv gA iA IH hat hn;go_enter func99,ntmps99;go_wp2_with fail;generalize World.alloc (World.alloc (World.alloc w _) _) _=w1 at *;generalize w.heap.size+1+1+1=lo at *;generalize w.heap.size+1+1=bx at *;generalize w.heap.size+1=rs at *;have xB:Hi (w.heap.size<w1.heap.size):=Jb HNB.o;have n4:=Ja HNB.o 4;simp only[zW]at n4;go_wp2_with fail;clear n4;go_loopg [16] l.length λg v16 wr=>∃i:Nat,g+i=l.length/\v16=Iv i/\Hi (∃V xs,TrI w rs bx lo k nn s wr (QaJ (ndL (l.take i))) V xs)/\Hi (Below w.heap.size w wr)
 case atStart=>exact⟨0,rfl,rfl,⟨_,_,dA.o⟩,dA.o.bel⟩
 case round=>
 clear dA HNB;obtain⟨wl,rfl⟩:=zJ wr;obtain⟨i,hg,rfl,xA,hbw⟩:=hrel;obtain⟨V,xs,xA⟩:=xA.o;obtain⟨va,vn,vc,rfl⟩:=Jk xA.own
 by_cases hi:i<l.length
 ·have hil:(i:Int)<(l.length:Int):=zo;obtain⟨y,hy⟩:∃y,l[i]?=some y:=⟨l[i],List.getElem?_eq_getElem hi⟩
  have hmem:=List.mem_of_getElem? hy;have had':ad=some ⟨b,0,none⟩:=HAD.o (List.ne_nil_of_mem hmem);have hat:=nA.o;have uA:(An.mk k nn s off b c l).At wl:=JK _ hat λq hq=>hbw.o.block q (Jcs _ hat q hq)
  unfold An.At at uA;obtain⟨hcl,bA⟩:=JW uA.2 hy;rw[Nat.zero_add]at hcl;obtain⟨yA,yn,yc,hcf⟩:=Jg y;rw[hcf]at hcl;have c0:=hcl 0 _ rfl;have c1:=hcl 1 _ rfl;have c2:=hcl 2 _ rfl;have c3:=hcl 3 _ rfl;have c4:=hcl 4 _ rfl;simp only[Nat.add_zero]at c0;have wk:=zI i;have hb2:Below wl.heap.size wl (wl.alloc (.cells #[Iv y.kind,Iv y.num,.string (bs y.name),Iv y.off,.slice yA yn yc] 127)):=zO.alloc (Nat.le_refl _) _;have zA:=Zh (xA.up hb2);have vA:=Zh (JK y bA λq hq=>hb2.block q (Jcs y bA q hq));have HCP:=Zh (zQ wl (.cells #[Iv y.kind,Iv y.num,.string (bs y.name),Iv y.off,.slice yA yn yc] 127));have HTS:Hi (QaJ (ndL (l.take (i+1)))=QaJ (ndL (l.take i))++[Qab y.nd]):=by rw[Hi,List.take_add_one,hy];show QaJ (ndL (_++[y]))=_;rw[Vf,Jhv]
  have kA:Hi ((QaJ (ndL (l.take i))).length<=100000000):=by
   have e1:∀q:List Nd,(QaJ q).length=q.length:=λq=>by induction q with
    |nil=>rfl
    |cons x r ih=>simp[QaJ,ih]
   have e2:∀q:List An,(ndL q).length=q.length:=λq=>by rw[Kk,List.length_map]
   rw[Hi,e1,e2,List.length_take];omega
  have pA:Hi (siz y.nd<=n):=by have:=JM hmem;have:=HSZ.o;rw[Hi];omega
  have qA:=Zh hcf;have HG:=Zh hg;subst had';clear hat uA hcl hcf hb2 xA hy hmem HAD hg bA hbw;go_upto_region 5 with fail;clear c0 c1 c2 c3 c4;generalize World.alloc wl _=wk0 at *;generalize wl.heap.size=cb at *;have hD:Below wk0.heap.size wk0 wk0.drew:=(Below.refl wk0.heap.size wk0).drew;replace zA:=Zh (zA.o.up hD);replace vA:=Zh (JK y vA.o λq hq=>hD.block q (Jcs y vA.o q hq));replace HCP:=Zh ((hD.block _ (Jb HCP.o)).trans HCP.o);clear hD;have b3:=Ja zA.o.box 3;simp only[zW]at b3;refine LB (λW=>W.cell? ⟨bx,3,none⟩=some (.slice va vn vc)) 7 (b3) λhH=>?_
  generalize wk0.drew=wk1 at *;refine LK 0 rfl ?_;refine LK 1 rfl ?_;refine LO 2 rfl λK hK=>?_
  have hbx:=HCP.o;have p0:=Ja hbx 0;have p1:=Ja hbx 1;have p2:=Ja hbx 2;have p3:=Ja hbx 3;have p4:=Ja hbx 4;simp only[zW]at p0 p1 p2 p3 p4;go_simp;clear p0 p1 p2 p3 p4 hbx;refine zU hK (b3) λhH=>?_
  clear hK K;refine LO 3 rfl λK hK=>?_
  have ci:=mA.o y _ pA.o vA.o;rw[qA.o]at ci
  (go_simp;go_at_call 99;refine ci.mono ?_;intro e w6 h6)
  clear ci;obtain⟨cy,rfl,aA,hb6⟩:=h6;obtain⟨ca,cm,cA,jA⟩:=aA.form;have sA:=Zh aA;have HB6:=Zh hb6;have rA:=Zh cA;replace HCP:=Zh ((hb6.block _ (Jb HCP.o)).trans HCP.o);have eA:=Zh (zA.o.up hb6);have HOW:Hi ((w6.alloc (.cells cy 37)).ownsRow lo 37 4 (.slice va vn vc) (QaJ (ndL (l.take i))).length xs):=eA.o.own.alloc _;have HRW:Hi ((w6.alloc (.cells cy 37)).heap[w6.heap.size]?=some (.cells cy.toList.toArray 37 (0,0))):=zQ _ _;have hlo6:lo<=(w6.alloc (.cells cy 37)).heap.size:=by have:=eA.o.low;rw[World.size_alloc];omega
  replace b3:=Ja eA.o.box 3;simp only[zW]at b3;rw[cA]at HOW HRW hlo6 |-;clear aA hb6 cA jA;refine zU hK (b3) λhH=>?_
  clear hK K;refine LO 4 rfl λK hK=>?_
  go_simp;refine zU hK (by simp[*,World.cell?_alloc_some]) λhH=>?_
  clear hK K;refine LO 5 rfl λK hK=>?_
  (refine Jq (w6.alloc (.cells #[Iv (Qab y.nd).kind,Iv (Qab y.nd).num,.string (bs (Qab y.nd).name),.slice ca (Qab y.nd).kids.length cm] 37)) zt (.tmp 21) (.tmp 24) 35 37 _ 4 56 zt underlying35 Qfw rfl zp lo (.slice va vn vc) (QaJ (ndL (l.take i))).length xs [Iv (Qab y.nd).kind,Iv (Qab y.nd).num,.string (bs (Qab y.nd).name),.slice ca (Qab y.nd).kids.length cm] zt HOW.o w6.heap.size zt HRW.o rfl (by intro u hu;simp at hu;rcases hu with rfl|rfl|rfl|rfl<;>rfl) kA.o zp hlo6 ?_;intro v7 w7 hown7 hgr7 hfr7)
  obtain⟨a7,m7,c7,rfl⟩:=Jk hown7;have hst:=TrI.step (V':=.slice a7 m7 c7) zA.o HB6.o sA.o (by rw[rA.o];exact hown7) hgr7 hfr7;replace b3:=Ja hst.2 3;simp only[zW]at b3;have f3:=Jc hst.2 3;have hl7:=Jb hst.2;have HST:=Zh hst.1;clear hown7 hgr7 hfr7 hst HOW HRW hlo6;refine zU hK (b3) λhH=>?_
  clear hK K;refine LK 6 rfl ?_;refine LZ 7 rfl λK hK=>?_
  go_simp;clear b3 f3 hl7;refine hK.out _ _ ?_;clear hK K;have HB7:Hi (Below w.heap.size w (w7.setCell ⟨bx,3,none⟩ (.slice a7 m7 c7))):=HST.o.bel;go_wp2;go_roundg (l.length-(i+1))
  case measure=>have:=HG.o;omega
  case rel=>exact⟨i+1,by omega,by go_num,⟨_,_,by rw[HTS.o];exact HST.o⟩,HB7⟩
 ·have hil:¬(i:Int)<(l.length:Int):=zo;obtain rfl:i=l.length:=zo;rw[List.take_length]at xA;have zA:=Zh xA;have hbx:=xA.box;have hrs:=xA.res;have b0:=Ja hbx 0;have b1:=Ja hbx 1;have b2:=Ja hbx 2;have b3:=Ja hbx 3;have z0:=Ja hrs 0;have z1:=Ja hrs 1;have z2:=Ja hrs 2;have z3:=Ja hrs 3;simp only[zW]at b0 b1 b2 b3 z0 z1 z2 z3;have y0:=Jc hrs 0;have y1:=Jc hrs 1;have y2:=Jc hrs 2;have y3:=Jc hrs 3;clear hi hg xA hbx hrs;go_wp2;refine bodyPost_ret (v:=.agg #[Iv k,Iv nn,Sv s,.slice va vn vc]) (results_cell_row rfl _ _ rs 37 _ (0,0) _ rfl (Qjk _ _ _ _ zA.o.res) underlying37 rfl QfX) rfl ?_;rw[HR.o];obtain⟨e1,e2⟩:=zA.o.fin;exact⟨_,rfl,e1,e2⟩
def Yw:∀n,n<=100000000->∀(a:An) (w:World),siz a.nd<=n->a.At w->Calls prog 99 #[.agg (Qaa a)] w (TrP w (Qab a.nd))
 |0,_,a,w,h,_=>by have:=Vh a.nd;omega
 |n+1,hn,.mk k nn s off b c l,w,h,hat=>by
  rw[ZV]at h;have e:Qab (An.mk k nn s off b c l).nd=.mk k nn s (QaJ (ndL l)):=by unfold An.nd;rw[Qab]
  rw[e];exact Jhw n (λa w h1 h2=>Yw n zo a w h1 h2) k nn s off b c l w zo zo hat
end Go.Proofs.YtfafpklefknomaaGreatDoor
