import Derived.Test.YtncanmdgdflnpaaGreatDoorR04
import Derived.Test.YtncanmdgdflnpaaGreatDoorR05
open List(length_map mem_of_getElem? take_length)
open Nat(add_zero le_trans zero_add)
namespace Go.Proofs.YtncanmdgdflnpaaGreatDoor
open Go.ChangeShapes Go.WideShapes Go.ChangeAt Go.RowKit Go.Lib
open _root_.Go.Proofs.Tryz
set_option linter.all false
set_option maxRecDepth 100000
set_option maxHeartbeats 32000000
def Qjy(f:FnA):List Value:=[Em,f.tv,Iv f.result,Iv 0,Iv 0,Em,Nl]
def QgB(f:FnA):Qau:=⟨f.types,f.result⟩
def Jcg(f:FnA):(Qjy f).length=7:=rfl
def QdD:(prog.info? 79).map (λi=>(i.zero,i.size,i.bytes))=some (some (.agg #[Em,Nl,Iv 0,Iv 0,Iv 0,Em,Nl]),7,104):=zk
def Jfb{W:World}{rb:Nat}{f:FnA}(h:f.Ok W)(hr:f.hi<=rb):QaP W rb f.tv f.types:=by
 obtain⟨m,m1,m2,m3,m4,m5⟩:=h.bmd;have ht:=h.town
 rcases ht.2 with⟨e,e0⟩|⟨g,cap,cur,e,e2,e3,e4,_⟩
 ·exact .inl ⟨List.eq_nil_of_length_eq_zero e0,none,0,e⟩
 ·have hg:=m4 g (by rw[e];rfl);have hw:=h.hle;refine .inr ⟨g,0,cap,e,e4,by omega,by omega,λi n hi=>?_⟩
  ·have hc:=JT ht (j:=i) (u:=Iv n) (by unfold QbN;rw[List.getElem?_map,hi];rfl);rw[e]at hc;rw[zero_add];exact hc
def JiP{W:World}{base rb:Nat}{v:Value}{l:List FnA}(h:W.ownsRow base 79 7 v l.length (l.flatMap Qjy))(hv:∀f∈l,f.Ok W/\f.hi<=rb)(C9:v.ownBlock≠some rb):QdJ W rb v (l.map QgB):=by
 obtain⟨ad,cc,e,yA⟩:=KU h;refine⟨ad,cc,by rw[length_map];exact e,λhne=>?_⟩
 have xA:0<l.length:=by
  rcases l with _|⟨a,l⟩
  ·exact absurd rfl hne
  ·exact Nat.succ_pos _
 have ha:=yA xA;subst ha;refine⟨Value.blk v,0,rfl,λhb=>C9 (by rw[<-hb];exact K4 h xA),λi s hs=>?_⟩;rw[List.getElem?_map]at hs;obtain⟨f,hf,rfl⟩:=Option.map_eq_some_iff.1 hs;obtain⟨o1,o2⟩:=hv f (mem_of_getElem? hf);refine⟨⟨#[]⟩,f.tv,0,0,⟨#[]⟩,none,0,0,Jfb o1 o2,λj u hj=>?_⟩;have:=JT h (Kd Jcg l i j f u hf hj);rw[zero_add];exact this
structure Ck(w W:World)(sb:Nat)(S:Qak)(rb:Nat)(x:Option Int)(M:Value):Prop where
 ok:QaH W sb S
 flt:Qbf W rb 147 x M
 sigs:QdJ W rb M (S.funcs.map QgB)
 bel:Below w.heap.size w W
 num:w.heap.size<=rb
 his:∀iv∈S.ivs,iv.2<=w.heap.size
section
variable {w W W':World}{sb:Nat}{S:Qak}{rb:Nat}{x:Option Int}{M:Value}
def Ck.mk'(h:QaH w sb S)(hf:Qbf W rb 147 x M)(hs:QdJ W rb M (S.funcs.map QgB))(hb:Below w.heap.size w W)(hn:w.heap.size<=rb):Ck w W sb S rb x M:=
 ⟨h.on (Chg.of_below hb []) zp,hf,hs,hb,hn,λiv hi=>(h.ivs iv hi).2.2⟩
def Ck.up(h:Ck w W sb S rb x M)(hb:Below W.heap.size W W'):Ck w W' sb S rb x M:=
 ⟨h.ok.on (Chg.of_below hb []) zp,(hb.block _ (Jb h.flt)).trans h.flt,h.sigs.chg (Chg.of_below hb [rb]),Kk h.bel hb.os hb.tape hb.output hb.size λk hk=>hb.block k (Nat.lt_of_lt_of_le hk h.bel.size),h.num,h.his⟩
def Ck.step(h0:QaH w sb S)(h:Ck w W sb S rb x M){errs:List Int}{v:Value}{e:Ending}(ht:TyP W rb M x errs v e W'):Ck w W' sb S rb (QaG x errs) M:=by
 obtain⟨_,hf,hc⟩:=ht;have hn:=h.num;exact Ck.mk' h0 hf (h.sigs.chg hc) (Kk h.bel hc.os hc.tape hc.output hc.size λk hk=>hc.block k (Nat.lt_of_lt_of_le hk h.bel.size) zq) hn
def Ck.preF{f:FnA}(h:Ck w W sb S rb x M)(hf:f∈S.funcs)(hk:QeI S.funcs.length f.types.length f.body.nd)(hw:WfN f.body.nd):Qan (S.funcs.map QgB) rb M W x f.types f.tv f.body:=by
 obtain⟨fo,f1,f2⟩:=h.ok.fok f hf;have hi:=h.his (f.lo,f.hi) (List.mem_append_left _ (List.mem_map.2 ⟨f,hf,rfl⟩));have hn:=h.num;have hfo:=Jad fo;dsimp only at hi;exact⟨fo.bat,λhm=>by have:=hfo _ hm;omega,h.flt,h.sigs,Jfb fo zo,by rw[length_map];exact hk,hw⟩
def Ck.preC{c:ClA}(h:Ck w W sb S rb x M)(hc:c∈S.clauses)(hk:QeI S.funcs.length 0 c.cond.nd)(hw:WfN c.cond.nd):Qan (S.funcs.map QgB) rb M W x [] Nl c.cond:=by
 obtain⟨co,c1⟩:=h.ok.cok c hc;have hi:=h.his (c.lo,c.hi) (List.mem_append_right _ (List.mem_map.2 ⟨c,hc,rfl⟩));have hn:=h.num;dsimp only at hi;exact⟨co.at',λhm=>by have:=(co.made.2 _ hm).2;omega,h.flt,h.sigs,.inl ⟨rfl,none,0,rfl⟩,by rw[length_map];exact hk,hw⟩
end
def ckF(S:Qak)(i:Nat):List Int:=((S.funcs.take i).map λf=>QbS (S.funcs.map QgB) f.types f.result f.body.nd).flatten
def ckC(S:Qak)(i:Nat):List Int:=((S.clauses.take i).map λc=>QbS (S.funcs.map QgB) [] 1 c.cond.nd).flatten
def Jhk{S:Qak}{i:Nat}{f:FnA}(h:S.funcs[i]?=some f):ckF S (i+1)=ckF S i++QbS (S.funcs.map QgB) f.types f.result f.body.nd:=by unfold ckF;rw[JF h];simp
def Jhl{S:Qak}{i:Nat}{c:ClA}(h:S.clauses[i]?=some c):ckC S (i+1)=ckC S i++QbS (S.funcs.map QgB) [] 1 c.cond.nd:=by unfold ckC;rw[JF h];simp
def JjX(S:Qak):ckF S S.funcs.length++ckC S S.clauses.length=QbY S.src:=by
 unfold ckF ckC QbY;rw[take_length,take_length];unfold Qak.src;simp only[List.map_map];rfl
def Jfc(w:World)(sb:Nat)(S:Qak)(h:QaH w sb S)(h1:S.funcs.length<=100000000)(h2:S.clauses.length<=100000000)
  (h3:∀f∈S.funcs,WfN f.body.nd/\siz f.body.nd<=100000000/\f.types.length<=100000000/\QeI S.funcs.length f.types.length f.body.nd) (h4:∀c∈S.clauses,WfN c.cond.nd/\siz c.cond.nd<=100000000/\QeI S.funcs.length 0 c.cond.nd):
  Calls prog 37 #[Pt sb] w (QjL w 15 (Qbq (QbY S.src))):=by
 obtain⟨R,hR⟩:∃R,QjL w 15 (Qbq (QbY S.src))=R:=⟨_,rfl⟩
 rw[hR];have HR:Hi (R=QjL w 15 (Qbq (QbY S.src))):=hR.symm;obtain⟨fa,fc,kA,G3⟩:=KU h.fown;obtain⟨ca,cc,xB,nA⟩:=KU h.cown;have uB:=Zh kA;have r8:=Zh xB;have sA:=Zh G3;have bB:=Zh nA;have H3:=Zh h3;have H4:=Zh h4;have HS:=Zh h;have b0:w.cell? ⟨sb,0,none⟩=some (.slice fa S.funcs.length fc):=by rw[Ja HS.o.box];rw[kA];rfl
 clear hR kA xB G3 nA h h3 h4;go_enter func37,ntmps37;go_wp2_with fail;clear b0;go_loopg [2,15] S.funcs.length λg v2 v15 wr=>∃i:Nat,g+i=S.funcs.length/\v15=Iv i/\Hi (Below w.heap.size w wr)/\Hi (wr.ownsRow w.heap.size 79 7 v2 i ((S.funcs.take i).flatMap Qjy))
 case atStart=>exact⟨0,rfl,rfl,Zh zzb,Zh ⟨rfl,.inl ⟨rfl,rfl⟩⟩⟩
 case round=>
 obtain⟨wl,rfl⟩:=zG wr
 obtain⟨i,hg,rfl,hb,ho⟩:=hrel
 by_cases hi:i<S.funcs.length
 ·have hil:(i:Int)<(S.funcs.length:Int):=zo
  obtain⟨fn,xA⟩:∃fn,S.funcs[i]?=some fn:=⟨S.funcs[i],List.getElem?_eq_getElem hi⟩
  have aA:=sA.o zo;have gA:=HS.o.on (Chg.of_below hb.o []) zp;obtain⟨fo,_,_⟩:=gA.fok fn (mem_of_getElem? xA);have hcl:=VG gA xA;have O5:Hi ((S.funcs.take (i+1)).flatMap Qjy=(S.funcs.take i).flatMap Qjy++Qjy fn):=by rw[Hi,JF xA];simp
  obtain⟨nm,of,ps,ts,res,b,pv,tv,dB,cB⟩:=fn;obtain⟨pa,pn,pc,cA⟩:=Ji fo.pown;obtain⟨ta,tn,tc,bA⟩:=Ji fo.town;obtain⟨va,vn,vc,mA⟩:=Ji ho.o;dsimp only at cA bA;subst cA bA mA;obtain⟨yA,yn,yc,I4⟩:=Jg b;simp only[FnA.cells,I4,List.cons_append,List.nil_append]at hcl;have c0:=hcl 0 _ rfl;have c1:=hcl 1 _ rfl;have c2:=hcl 2 _ rfl;have c3:=hcl 3 _ rfl;have c4:=hcl 4 _ rfl;have c5:=hcl 5 _ rfl;have c6:=hcl 6 _ rfl;have c7:=hcl 7 _ rfl;have c8:=hcl 8 _ rfl;have c9:=hcl 9 _ rfl;simp only[add_zero]at c0;have wk:=zI i;have S0:=Zh (zzw wl (.cells ([Sv nm,Iv of,.slice pa pn pc,.slice ta tn tc,Iv res,Iv b.kind,Iv b.num,.string (bs b.name),Iv b.off,.slice yA yn yc]).toArray 121));have hA:Hi (Below w.heap.size w (wl.alloc (.cells ([Sv nm,Iv of,.slice pa pn pc,.slice ta tn tc,Iv res,Iv b.kind,Iv b.num,.string (bs b.name),Iv b.off,.slice yA yn yc]).toArray 121))):=hb.o.alloc hb.o.size _;have HOW:Hi ((wl.alloc (.cells ([Sv nm,Iv of,.slice pa pn pc,.slice ta tn tc,Iv res,Iv b.kind,Iv b.num,.string (bs b.name),Iv b.off,.slice yA yn yc]).toArray 121)).ownsRow w.heap.size 79 7 (.slice va vn vc) i ((S.funcs.take i).flatMap Qjy)):=ho.o.alloc _;have HG:=Zh hg;subst aA;clear hcl xA fo hg I4 gA hb ho;go_upto_region 4 with fail;clear c0 c1 c2 c3 c4 c5 c6 c7 c8 c9;generalize World.alloc wl _=w1 at*;generalize wl.heap.size=cb at*;have n2:=Ja S0.o 2;have n3:=Ja S0.o 3;have n4:=Ja S0.o 4;simp only[zW]at n2 n3 n4;obtain⟨i0,pA,vB,aB,yB⟩:=info_parts QdD;have HI:=Zh pA;clear pA;go_wp2_with (at_builtin;refine wpList_append_own _ rfl _ _ 27 rfl w.heap.size 79 i0 (.agg #[Em,Nl,Iv 0,Iv 0,Iv 0,Em,Nl]) 7 104 underlying27 HI.o vB aB yB rfl zd _ _ _ rfl (HOW.o.alloc _) ⟨w1.heap.size,0,none⟩ 1 1 [Em,.slice ta tn tc,Iv res,Iv 0,Iv 0,Em,Nl] rfl rfl ?c1 ?c2 ?c3 ?c4 ?c5 ?_)
  case c2=>exact⟨rfl,rfl,rfl,rfl,rfl,rfl⟩
  case c3=>unfold maxLen;omega
  case c4=>omega
  case c5=>have:=hA.o.size;omega
  intro v' w' L3 hgrow _;have LD:Hi (w'.ownsRow w.heap.size 79 7 v' (i+1) ((S.funcs.take (i+1)).flatMap Qjy)):=by rw[Hi,O5.o];exact L3
  have I3:Hi (Below w.heap.size w w'):=by
   have hc:=JK hgrow;exact Kk hA.o hc.os hc.tape hc.output hc.size λk hk=>hc.block k (zt hA.o.size) λhm=>by have:=(HOW.o.lt k (by simpa using hm)).1;omega
  go_wp2;go_roundg (S.funcs.length-(i+1))
  case measure=>have:=HG.o;omega
  case rel=>exact⟨i+1,by omega,by go_num,I3,LD⟩
 ·have hil:¬(i:Int)<(S.funcs.length:Int):=zo
  obtain rfl:i=S.funcs.length:=zo
  have dA:=ho.o;rw[take_length]at dA;obtain⟨va,vn,vc,mA⟩:=Ji dA;subst mA;have tA:Below w.heap.size w (wl.alloc (.cells #[.bool false,Iv 0,.slice va vn vc] 147)):=hb.o.alloc hb.o.size _
  have uA:Hi (Ck w (wl.alloc (.cells #[.bool false,Iv 0,.slice va vn vc] 147)) sb S wl.heap.size (QaG none (ckF S 0)) (.slice va vn vc)):=by
   have zB:=HS.o.on (Chg.of_below tA []) zp;refine Ck.mk' HS.o (zzw _ _) (JiP (dA.alloc _) (λf hf=>⟨(zB.fok f hf).1,?_⟩) λe=>?_) tA hb.o.size
   ·have:=(HS.o.ivs (f.lo,f.hi) (List.mem_append_left _ (List.mem_map.2 ⟨f,hf,rfl⟩))).2.2;have:=hb.o.size;dsimp only at*;omega
   ·have:=(dA.lt _ e).2;omega
  have U0:=uA.o.ok.box;rw[uB.o]at U0;have b1:=Ja U0 0;simp only[zW]at b1
  have G9:Hi (∀s∈S.funcs.map QgB,s.params.length<=1000000000):=λs hs=>by
   obtain⟨f,hf,rfl⟩:=List.mem_map.1 hs;have:=(H3.o f hf).2.2.1
   show f.types.length<=_
   omega
  go_wp2_with fail;generalize World.alloc wl _=w2 at*;generalize wl.heap.size=rb at*;generalize Value.slice va vn vc=M at*;go_loopg [36] S.funcs.length λg v36 wr=>∃i:Nat,g+i=S.funcs.length/\v36=Iv i/\Hi (Ck w wr sb S rb (QaG none (ckF S i)) M)
  case atStart=>exact⟨0,rfl,rfl,uA⟩
  case round=>
  obtain⟨wm,rfl⟩:=zG wr
  obtain⟨i,hg,rfl,hk⟩:=hrel
  by_cases hi:i<S.funcs.length
  ·have hil:(i:Int)<(S.funcs.length:Int):=zo
   obtain⟨fn,xA⟩:∃fn,S.funcs[i]?=some fn:=⟨S.funcs[i],List.getElem?_eq_getElem hi⟩
   have hmem:=mem_of_getElem? xA;have aA:=sA.o zo;obtain⟨fo,_,_⟩:=hk.o.ok.fok fn hmem;have hcl:=VG hk.o.ok xA;obtain⟨hwf,hsz,hB,iA⟩:=H3.o fn hmem;have zA:=Zh (Jhk xA);have A0:Below wm.heap.size wm (wm.alloc (.cells fn.cells.toArray 121)):=zzb.alloc zzl _;have cn:=JD (S.funcs.map QgB) rb M fn.body fn.types fn.tv (QaG none (ckF S i)) fn.result _ ((hk.o.up A0).preF hmem iA hwf) λW hp=>JaW _ rb M G9.o (siz fn.body.nd) fn.body fn.types fn.tv _ W zzl zo hp;have vA:=Zh (hk.o.up A0);obtain⟨nm,of,ps,ts,res,b,pv,tv,dB,cB⟩:=fn;obtain⟨pa,pn,pc,cA⟩:=Ji fo.pown;obtain⟨ta,tn,tc,bA⟩:=Ji fo.town;dsimp only at cA bA cn zA;subst cA bA;obtain⟨yA,yn,yc,I4⟩:=Jg b;obtain⟨E,hE⟩:∃E,QbS (S.funcs.map QgB) ts res b.nd=E:=⟨_,rfl⟩
   rw[hE]at cn zA;simp only[FnA.cells,I4,List.cons_append,List.nil_append]at hcl cn vA;have c0:=hcl 0 _ rfl;have c1:=hcl 1 _ rfl;have c2:=hcl 2 _ rfl;have c3:=hcl 3 _ rfl;have c4:=hcl 4 _ rfl;have c5:=hcl 5 _ rfl;have c6:=hcl 6 _ rfl;have c7:=hcl 7 _ rfl;have c8:=hcl 8 _ rfl;have c9:=hcl 9 _ rfl;simp only[add_zero]at c0;have wk:=zI i;have HG:=Zh hg;subst aA;go_wp2_with fail;refine cn.mono ?_;intro e w8 hr
   have eA:Hi (Ck w w8 sb S rb (QaG none (ckF S (i+1))) M):=by
    rw[Hi,zA.o,Jt];exact vA.o.step HS.o hr
   obtain rfl:=hr.1;go_wp2;go_roundg (S.funcs.length-(i+1))
   case measure=>have:=HG.o;omega
   case rel=>exact⟨i+1,by omega,by go_num,eA⟩
  ·have hil:¬(i:Int)<(S.funcs.length:Int):=zo
   obtain rfl:i=S.funcs.length:=zo
   obtain⟨X0,qA⟩:∃X0,QaG none (ckF S S.funcs.length)=X0:=⟨_,rfl⟩
   rw[qA]at hk;have O7:=Zh qA;have uA:Hi (Ck w wm sb S rb (QaG X0 (ckC S 0)) M):=hk;have U0:=uA.o.ok.box;rw[r8.o]at U0;have b1:=Ja U0 1;simp only[zW]at b1;go_wp2_with fail;go_loopg [54] S.clauses.length λg v54 wr=>∃i:Nat,g+i=S.clauses.length/\v54=Iv i/\Hi (Ck w wr sb S rb (QaG X0 (ckC S i)) M)
   case atStart=>exact⟨0,rfl,rfl,uA⟩
   case round=>
   obtain⟨wc,rfl⟩:=zG wr
   obtain⟨i,hg,rfl,hk⟩:=hrel
   by_cases hi:i<S.clauses.length
   ·have hil:(i:Int)<(S.clauses.length:Int):=zo
    obtain⟨c,jA⟩:∃c,S.clauses[i]?=some c:=⟨S.clauses[i],List.getElem?_eq_getElem hi⟩
    have hmem:=mem_of_getElem? jA;have aA:=bB.o zo;have hcl:=JcS hk.o.ok jA;obtain⟨hwf,hsz,iA⟩:=H4.o c hmem;have zA:=Zh (Jhl jA);have A0:Below wc.heap.size wc (wc.alloc (.cells c.cells.toArray 125)):=zzb.alloc zzl _;have cn:=JD (S.funcs.map QgB) rb M c.cond [] Nl (QaG X0 (ckC S i)) 1 _ ((hk.o.up A0).preC hmem iA hwf) λW hp=>JaW _ rb M G9.o (siz c.cond.nd) c.cond [] Nl _ W zzl zq hp;have vA:=Zh (hk.o.up A0);obtain⟨b,ac,rs,gB,eB⟩:=c;obtain⟨yA,yn,yc,I4⟩:=Jg b;obtain⟨E,hE⟩:∃E,QbS (S.funcs.map QgB) [] 1 b.nd=E:=⟨_,rfl⟩
    dsimp only at cn zA;rw[hE]at cn zA;simp only[ClA.cells,I4,List.cons_append,List.nil_append]at hcl cn vA;have c0:=hcl 0 _ rfl;have c1:=hcl 1 _ rfl;have c2:=hcl 2 _ rfl;have c3:=hcl 3 _ rfl;have c4:=hcl 4 _ rfl;have c5:=hcl 5 _ rfl;have c6:=hcl 6 _ rfl;simp only[add_zero]at c0;have wk:=zI i;have HG:=Zh hg;subst aA;go_wp2_with fail;refine cn.mono ?_;intro e w8 hr
    have eA:Hi (Ck w w8 sb S rb (QaG X0 (ckC S (i+1))) M):=by
     rw[Hi,zA.o,Jt];exact vA.o.step HS.o hr
    obtain rfl:=hr.1;go_wp2;go_roundg (S.clauses.length-(i+1))
    case measure=>have:=HG.o;omega
    case rel=>exact⟨i+1,by omega,by go_num,eA⟩
   ·have hil:¬(i:Int)<(S.clauses.length:Int):=zo
    obtain rfl:i=S.clauses.length:=zo
    have rA:=hk.o;rw[<-O7.o,<-Jt,JjX,Zl]at rA;have HK:=Zh rA;have r0:=Ja HK.o.flt 0;have r1:=Ja HK.o.flt 1;simp only[zW]at r0 r1
    cases hL:Qbq (QbY S.src) with
    |none=>
     rw[hL]at r0 r1;simp only[Option.isSome,Option.getD]at r0 r1;have HL:=Zh hL;go_wp2;go_end0;rw[HR.o];unfold QjL;rw[HL.o];exact⟨rfl,HK.o.bel⟩
    |some er=>
     rw[hL]at r0 r1;simp only[Option.isSome,Option.getD]at r0 r1;have HL:=Zh hL;go_wp2;refine⟨rfl,?_⟩;rw[HR.o];unfold QjL;rw[HL.o];exact⟨rfl,HK.o.bel⟩
mutual
def XAt(W:World)(P:Nat->Prop):Exp->Array Value->Prop
 |.mk k n s l,c=>∃ad cc xs,c=#[Iv k,Iv n,Sv s,.slice ad l.length cc]/\l.length<=cc/\Qdc W P l xs/\
   (l=[]\/∃b o,ad=some ⟨b,o,none⟩/\P b/\∀j u,xs[j]?=some u->W.cell? ⟨b,o+j,none⟩=some u)
def Qdc(W:World)(P:Nat->Prop):List Exp->List Value->Prop
 |[],xs=>xs=[]
 |e::l,xs=>∃c r,XAt W P e c/\xs=c.toList++r/\Qdc W P l r
end
def Qlo{P:Prop}(h:P:=by
  rintro⟨b,o,h5,h6,h7⟩
  exact⟨b,o,h5,hq b h6,λj u hj=>(World.cell?_of_block (a:=⟨b,o+j,none⟩) (hk b h6)).trans (h7 j u hj)⟩):P:=h
mutual
def XAt.keep{W W':World}{P Q:Nat->Prop}(hk:∀b,P b->W'.heap[b]?=W.heap[b]?)(hq:∀b,P b->Q b):∀(e:Exp)(c:Array Value),XAt W P e c->XAt W' Q e c
 |.mk k n s l,c,h=>by
  unfold XAt at*;obtain⟨ad,cc,xs,h1,h2,h3,h4⟩:=h;refine⟨ad,cc,xs,h1,h2,Qdc.keep hk hq l xs h3,h4.imp id ?_⟩;exact Qlo
def Qdc.keep{W W':World}{P Q:Nat->Prop}(hk:∀b,P b->W'.heap[b]?=W.heap[b]?)(hq:∀b,P b->Q b):∀(l:List Exp)(xs:List Value),Qdc W P l xs->Qdc W' Q l xs
 |[],xs,h=>by unfold Qdc at*;exact h
 |e::l,xs,h=>by
  unfold Qdc at*;obtain⟨c,r,h1,h2,h3⟩:=h;exact⟨c,r,XAt.keep hk hq e c h1,h2,Qdc.keep hk hq l r h3⟩
end
def XAt.form{W:World}{P:Nat->Prop}{e:Exp}{c:Array Value}(h:XAt W P e c):∃ad cc,c=#[Iv e.kind,Iv e.num,.string (bs e.name),.slice ad e.kids.length cc]/\e.kids.length<=cc:=by
 cases e
 unfold XAt at h;obtain⟨ad,cc,xs,h1,h2,_⟩:=h;exact⟨ad,cc,h1,h2⟩
def XAt.size{W:World}{P:Nat->Prop}{e:Exp}{c:Array Value}(h:XAt W P e c):c.size=4:=by
 obtain⟨ad,cc,rfl,_⟩:=h.form;rfl
def Qdc.snoc{W:World}{P:Nat->Prop}{e:Exp}{c:Array Value}(he:XAt W P e c):∀{l:List Exp}{xs:List Value},Qdc W P l xs->Qdc W P (l++[e]) (xs++c.toList)
 |[],xs,h=>by
  unfold Qdc at h;subst h
  show Qdc W P [e] _
  unfold Qdc;exact⟨c,[],he,by simp,by unfold Qdc;rfl⟩
 |a::l,xs,h=>by
  unfold Qdc at h;obtain⟨c',r,h1,rfl,h3⟩:=h
  show Qdc W P (a::(l++[e])) _
  unfold Qdc;exact⟨c',r++c.toList,h1,by simp,h3.snoc he⟩
def Qdc.get{W:World}{P:Nat->Prop}:∀{l:List Exp}{xs:List Value}{i:Nat}{e:Exp},Qdc W P l xs->l[i]?=some e->∃c,XAt W P e c/\∀j u,c[j]?=some u->xs[i*4+j]?=some u
 |[],xs,i,e,h,hi=>by cases hi
 |a::l,xs,0,e,h,hi=>by
  unfold Qdc at h;obtain⟨c,r,h1,rfl,h3⟩:=h;obtain rfl:a=e:=by simpa using hi
  refine⟨c,h1,λj u hj=>?_⟩;have hl:j<c.toList.length:=by rw[Array.length_toList];exact(Array.getElem?_eq_some_iff.1 hj).1
  rw[Nat.zero_mul,zero_add,List.getElem?_append_left hl,Array.getElem?_toList];exact hj
 |a::l,xs,i+1,e,h,hi=>by
  unfold Qdc at h;obtain⟨c,r,h1,rfl,h3⟩:=h;obtain⟨c',g1,g2⟩:=h3.get (i:=i) (by simpa using hi);refine⟨c',g1,λj u hj=>?_⟩;have hl:c.toList.length=4:=by rw[Array.length_toList,h1.size]
  rw[List.getElem?_append_right zo,hl,show (i+1)*4+j-4=i*4+j by omega];exact g2 j u hj
def XAt.kid{W:World}{P:Nat->Prop}{k n:Int}{s:By}{l:List Exp}{c:Array Value}(h:XAt W P (.mk k n s l) c):∃ad cc,c=#[Iv k,Iv n,Sv s,.slice ad l.length cc]/\l.length<=cc/\
  (l≠[]->∃b o,ad=some ⟨b,o,none⟩/\P b/\∀i e,l[i]?=some e->∃d,XAt W P e d/\∀j u,d[j]?=some u->W.cell? ⟨b,o+i*4+j,none⟩=some u):=by
 unfold XAt at h;obtain⟨ad,cc,xs,h1,h2,h3,h4⟩:=h;refine⟨ad,cc,h1,h2,λhne=>?_⟩
 rcases h4 with h4|⟨b,o,h5,h6,h7⟩
 ·exact absurd h4 hne
 ·refine⟨b,o,h5,h6,λi e hi=>?_⟩;obtain⟨d,g1,g2⟩:=h3.get hi;exact⟨d,g1,λj u hj=>by rw[Nat.add_assoc];exact h7 _ u (g2 j u hj)⟩
def Qbc(W:World)(P:Nat->Prop)(l:List Int)(v:Value):Prop:=∃ad cc,v=.slice ad l.length cc/\l.length<=cc/\(l=[]\/∃b o,ad=some ⟨b,o,none⟩/\P b/\∀i n,l[i]?=some n->W.cell? ⟨b,o+i,none⟩=some (Iv n))
def Qbc.keep{W W':World}{P Q:Nat->Prop}{l:List Int}{v:Value}(hk:∀b,P b->W'.heap[b]?=W.heap[b]?)(hq:∀b,P b->Q b)(h:Qbc W P l v):Qbc W' Q l v:=by
 obtain⟨ad,cc,h1,h2,h3⟩:=h;refine⟨ad,cc,h1,h2,h3.imp id ?_⟩;rintro⟨b,o,h4,h5,h6⟩;exact⟨b,o,h4,hq b h5,λi n hi=>(World.cell?_of_block (a:=⟨b,o+i,none⟩) (hk b h5)).trans (h6 i n hi)⟩
def FnX(W:World)(P:Nat->Prop)(f:FnM)(c:List Value):Prop:=∃v d,Qbc W P f.params v/\XAt W P f.body d/\c=[.string (bs f.name),v,Iv f.result]++d.toList
def ClX(W:World)(P:Nat->Prop)(m:ClM)(c:List Value):Prop:=∃d,XAt W P m.cond d/\c=d.toList++[Iv m.action,.string (bs m.reason)]
def Qck{α:Type}(R:α->List Value->Prop):List α->List Value->Prop
 |[],xs=>xs=[]
 |e::l,xs=>∃c r,R e c/\xs=c++r/\Qck R l r
def Qck.imp{α:Type}{R R':α->List Value->Prop}(h:∀a c,R a c->R' a c):∀{l:List α}{xs:List Value},Qck R l xs->Qck R' l xs
 |[],xs,hh=>hh
 |e::l,xs,⟨c,r,h1,h2,h3⟩=>⟨c,r,h e c h1,h2,Qck.imp h h3⟩
def Qck.snoc{α:Type}{R:α->List Value->Prop}{e:α}{c:List Value}(he:R e c):∀{l:List α}{xs:List Value},Qck R l xs->Qck R (l++[e]) (xs++c)
 |[],xs,h=>by
  obtain rfl:xs=[]:=h;exact⟨c,[],he,by simp,rfl⟩
 |a::l,xs,⟨c',r,h1,h2,h3⟩=>⟨c',r++c,h1,by rw[h2,List.append_assoc],Qck.snoc he h3⟩
def Qck.get{α:Type}{R:α->List Value->Prop}{m:Nat}(hR:∀a c,R a c->c.length=m):∀{l:List α}{xs:List Value}{i:Nat}{e:α},Qck R l xs->l[i]?=some e->∃c,R e c/\∀j u,c[j]?=some u->xs[i*m+j]?=some u
 |[],xs,i,e,h,hi=>by cases hi
 |a::l,xs,0,e,⟨c,r,h1,h2,h3⟩,hi=>by
  obtain rfl:a=e:=by simpa using hi
  refine⟨c,h1,λj u hj=>?_⟩;rw[h2,Nat.zero_mul,zero_add,List.getElem?_append_left (List.getElem?_eq_some_iff.1 hj).1];exact hj
 |a::l,xs,i+1,e,⟨c,r,h1,h2,h3⟩,hi=>by
  obtain⟨c',g1,g2⟩:=Qck.get hR h3 (i:=i) (by simpa using hi);refine⟨c',g1,λj u hj=>?_⟩;have hl:=hR _ _ h1;rw[h2,List.getElem?_append_right (by rw[hl,Nat.add_mul];omega),hl,show (i+1)*m+j-m=i*m+j by rw[Nat.add_mul];omega];exact g2 j u hj
def FnX.len{W:World}{P:Nat->Prop}(f:FnM)(c:List Value)(h:FnX W P f c):c.length=7:=by
 obtain⟨v,d,_,h2,rfl⟩:=h;have:=h2.size;simp[this]
def ClX.len{W:World}{P:Nat->Prop}(f:ClM)(c:List Value)(h:ClX W P f c):c.length=6:=by
 obtain⟨d,h2,rfl⟩:=h;have:=h2.size;simp[this]
def FnX.keep{W W':World}{P Q:Nat->Prop}(hk:∀b,P b->W'.heap[b]?=W.heap[b]?)(hq:∀b,P b->Q b)(f:FnM)(c:List Value)(h:FnX W P f c):FnX W' Q f c:=by
 obtain⟨v,d,h1,h2,h3⟩:=h;exact⟨v,d,h1.keep hk hq,h2.keep hk hq,h3⟩
def ClX.keep{W W':World}{P Q:Nat->Prop}(hk:∀b,P b->W'.heap[b]?=W.heap[b]?)(hq:∀b,P b->Q b)(f:ClM)(c:List Value)(h:ClX W P f c):ClX W' Q f c:=by
 obtain⟨d,h2,h3⟩:=h;exact⟨d,h2.keep hk hq,h3⟩
def Qao{α:Type}(W:World)(P:Nat->Prop)(R:α->List Value->Prop)(l:List α)(v:Value):Prop:=
 ∃ad cc xs,v=.slice ad l.length cc/\l.length<=cc/\Qck R l xs/\(l=[]\/∃b o,ad=some ⟨b,o,none⟩/\P b/\∀j u,xs[j]?=some u->W.cell? ⟨b,o+j,none⟩=some u)
def Qao.keep{α:Type}{W W':World}{P Q:Nat->Prop}{R R':α->List Value->Prop}{l:List α}{v:Value}(hk:∀b,P b->W'.heap[b]?=W.heap[b]?)(hq:∀b,P b->Q b)(hR:∀a c,R a c->R' a c)(h:Qao W P R l v):Qao W' Q R' l v:=by
 obtain⟨ad,cc,xs,h1,h2,h3,h4⟩:=h;refine⟨ad,cc,xs,h1,h2,h3.imp hR,h4.imp id ?_⟩;exact Qlo
def Qao.get{α:Type}{W:World}{P:Nat->Prop}{R:α->List Value->Prop}{m:Nat}(hR:∀a c,R a c->c.length=m){l:List α}{v:Value}(h:Qao W P R l v):∃ad cc,v=.slice ad l.length cc/\l.length<=cc/\
  (l≠[]->∃b o,ad=some ⟨b,o,none⟩/\P b/\∀i e,l[i]?=some e->∃c,R e c/\∀j u,c[j]?=some u->W.cell? ⟨b,o+i*m+j,none⟩=some u):=by
 obtain⟨ad,cc,xs,h1,h2,h3,h4⟩:=h;refine⟨ad,cc,h1,h2,λhne=>?_⟩
 rcases h4 with h4|⟨b,o,h5,h6,h7⟩
 ·exact absurd h4 hne
 ·refine⟨b,o,h5,h6,λi e hi=>?_⟩;obtain⟨d,g1,g2⟩:=Qck.get hR h3 hi;exact⟨d,g1,λj u hj=>by rw[Nat.add_assoc];exact h7 _ u (g2 j u hj)⟩
def QaV(W:World)(P:Nat->Prop)(r:Qah)(c:Array Value):Prop:=∃fv cv,c=#[fv,cv,Iv r.action]/\Qao W P (FnX W P) r.funcs fv/\Qao W P (ClX W P) r.clauses cv
def QaV.keep{W W':World}{P Q:Nat->Prop}{r:Qah}{c:Array Value}(hk:∀b,P b->W'.heap[b]?=W.heap[b]?)(hq:∀b,P b->Q b)(h:QaV W P r c):QaV W' Q r c:=by
 obtain⟨fv,cv,h1,h2,h3⟩:=h;exact⟨fv,cv,h1,h2.keep hk hq (FnX.keep hk hq),h3.keep hk hq (ClX.keep hk hq)⟩
def QnI{P:Prop}(h:P:=by
  rcases h.2 with⟨rfl,h0⟩|⟨g,cap,cur,rfl,h1,h2,h3,h4,h5,h6⟩
  ·have:l=[]:=List.eq_nil_of_length_eq_zero h0;subst this;exact⟨none,0,xs,rfl,Nat.le_refl _,hr,.inl rfl⟩
  ·refine⟨_,cap,xs,rfl,h3,hr,.inr ⟨g,0,rfl,hP g rfl,λj u hj=>?_⟩⟩;have:=h.cells (g:=g) rfl j u hj;have hadd:(⟨g,0,none⟩:Addr).add j=⟨g,j,none⟩:=by unfold Addr.add;split<;>simp_all
   rw[hadd]at this;rw[Nat.zero_add]
   exact this):P:=h
def Qao.own{α:Type}{W:World}{P:Nat->Prop}{R:α->List Value->Prop}{l:List α}{v:Value}{base e size:Nat}{xs:List Value}(h:W.ownsRow base e size v l.length xs)(hr:Qck R l xs)(hP:∀g,v.ownBlock=some g->P g):Qao W P R l v:=by
 exact QnI
def XAt.own{W:World}{P:Nat->Prop}{k n:Int}{s:By}{l:List Exp}{v:Value}{base e size:Nat}{xs:List Value}(h:W.ownsRow base e size v l.length xs)(hr:Qdc W P l xs)(hP:∀g,v.ownBlock=some g->P g):XAt W P (.mk k n s l) #[Iv k,Iv n,Sv s,v]:=by
 unfold XAt;exact QnI
def Qiz:(prog.info? 50).map (λi=>(i.zero,i.size,i.bytes))=some (some (.agg #[Iv 0,Iv 0,Em,Nl]),4,56):=zk
def Qjn:(prog.info? 50).map (·.size)=some 4:=zk
def QhM(w W:World)(b:Nat):Prop:=w.heap.size<=b/\b<W.heap.size
structure TrI(w:World)(rs bx lo:Nat)(k n:Int)(s:By)(W:World)(l:List Exp)(V:Value)(xs:List Value):Prop where
 own:W.ownsRow lo 50 4 V l.length xs
 row:Qdc W (λb=>lo<=b/\b<W.heap.size/\V.ownBlock≠some b) l xs
 box:W.heap[bx]?=some (.cells #[Iv k,Iv n,Sv s,V] 50 (0,0))
 res:W.heap[rs]?=some (.cells #[Iv 0,Iv 0,Em,Nl] 50 (0,0))
 bel:Below w.heap.size w W
 low:w.heap.size<=rs/\rs<bx/\bx<lo/\lo<=W.heap.size
section
variable {w:World}{rs bx lo:Nat}{k n:Int}{s:By}{W W':World}{l:List Exp}{V:Value}{xs:List Value}
def TrI.up(h:TrI w rs bx lo k n s W l V xs)(hb:Below W.heap.size W W'):TrI w rs bx lo k n s W' l V xs:=by
 obtain⟨l1,l2,l3,l4⟩:=h.low;have hc:=Chg.of_below hb []
 exact⟨Jx h.own hc zp,Qdc.keep (λb hP=>hb.block b hP.2.1) (λb hP=>⟨hP.1,Nat.lt_of_lt_of_le hP.2.1 hb.size,hP.2.2⟩) _ _ h.row,(hb.block _ (Jb h.box)).trans h.box,(hb.block _ (Jb h.res)).trans h.res,
  ⟨hb.os.trans h.bel.os,hb.tape.trans h.bel.tape,hb.output.trans h.bel.output,le_trans h.bel.size hb.size,λq hq=>(hb.block q (Nat.lt_of_lt_of_le hq h.bel.size)).trans (h.bel.block q hq)⟩,l1,l2,l3,le_trans l4 hb.size⟩
def Qnz{P:Prop}(h:P:=by
  exact⟨hst.os.trans (O3.os.trans h6.bel.os),hst.tape.trans (O3.tape.trans h6.bel.tape),hst.output.trans (O3.output.trans h6.bel.output),by omega,λq hq=>(M4 q (by omega) (λe1=>by have h1:=(hrow _ e1).1;omega) (by omega)).trans (h6.bel.block q hq)⟩):P:=h
def TrI.step{w1 w6 w7:World}{e:Exp}{c:Array Value}{V':Value}{X:Obj}(h:TrI w rs bx lo k n s w1 l V xs)(hb:Below w1.heap.size w1 w6)(hx:XAt w6 (QhM w1 w6) e c)
  (hown:w7.ownsRow lo 50 4 V' (l.length+1) (xs++c.toList)) (hgr:(w6.alloc X).grownBy w7 V.ownBlock) (T2:V'.ownBlock=V.ownBlock\/V'.ownBlock=some (w6.alloc X).heap.size):
  TrI w rs bx lo k n s (w7.setCell ⟨bx,3,none⟩ V') (l++[e]) V' (xs++c.toList)/\w7.heap[bx]?=some (.cells #[Iv k,Iv n,Sv s,V] 50 (0,0)):=by
 have h6:=h.up hb;obtain⟨l1,l2,l3,l4⟩:=h6.low;have hrow:∀g,V.ownBlock=some g->lo<=g/\g<w1.heap.size:=λg hg=>h.own.lt g hg
 have O3:=JK hgr;have j3:w7.heap[bx]?=some (.cells #[Iv k,Iv n,Sv s,V] 50 (0,0)):=O3.heap_some (λhm=>by have:=(hrow bx (by simpa using hm)).1;omega) h6.box;have hst:Chg [bx] w7 (w7.setCell ⟨bx,3,none⟩ V'):=(Chg.refl _ _).setCell (.inl (by simp:bx∈[bx])) (p:=⟨bx,3,none⟩) V';have M4:∀q,q<w6.heap.size->V.ownBlock≠some q->q≠bx->(w7.setCell ⟨bx,3,none⟩ V').heap[q]?=w6.heap[q]?:=λq hq hn hne=>(hst.block q (Nat.lt_of_lt_of_le hq O3.size) (by simpa using hne)).trans (O3.block q hq (by simpa using hn))
 have hsz:w6.heap.size<=(w7.setCell ⟨bx,3,none⟩ V').heap.size:=le_trans O3.size hst.size
 have xA:∀b,b<w6.heap.size->V.ownBlock≠some b->V'.ownBlock≠some b:=by
  intro b A0 I0 e1
  rcases T2 with e2|e2
  ·exact I0 (e2.symm.trans e1)
  ·rw[e2]at e1;simp at e1;omega
 have yA:=hb.size;refine⟨⟨?_,Qdc.snoc ?_ ?_,?_,?_,?_,l1,l2,l3,le_trans l4 hsz⟩,j3⟩
 ·rw[List.length_append];exact Jx hown hst zq
 ·refine XAt.keep (P:=QhM w1 w6) (λb hP=>?_) (λb hP=>?_) _ _ hx
  ·exact M4 b hP.2 (λe1=>by have h1:=(hrow b e1).2;have h2:=hP.1;omega) (by have h2:=hP.1;have:=h.low;omega)
  ·have h2:=hP.1;have h3:=hP.2;have:=h.low;exact⟨by omega,by omega,xA b h3 λe1=>by have h1:=(hrow b e1).2;omega⟩
 ·exact Qdc.keep (λb hP=>M4 b hP.2.1 hP.2.2 (zt hP.1)) (λb hP=>⟨hP.1,by have:=hP.2.1;omega,xA b hP.2.1 hP.2.2⟩) _ _ h6.row
 ·exact JC j3 3 V'
 ·exact(M4 _ (Jb h6.res) (λe1=>by have h1:=(hrow _ e1).1;omega) zo).trans h6.res
 ·have zA:w.heap.size<=w6.heap.size:=h6.bel.size;exact Qnz
def TrI.fin(h:TrI w rs bx lo k n s W l V xs):let W':=(((W.setCell ⟨rs,0,none⟩ (Iv k)).setCell ⟨rs,1,none⟩ (Iv n)).setCell ⟨rs,2,none⟩ (Sv s)).setCell ⟨rs,3,none⟩ V
  XAt W' (QhM w W') (.mk k n s l) #[Iv k,Iv n,Sv s,V]/\Below w.heap.size w W':=by
 intro W';obtain⟨l1,l2,l3,l4⟩:=h.low;have hst:Chg [rs] W W':=((((Chg.refl _ _).setCell (.inl zp) _).setCell (.inl zp) _).setCell (.inl zp) _).setCell (.inl zp) _;have hsz:=hst.size;refine⟨XAt.own (Jx h.own hst zq) (Qdc.keep (λb hP=>hst.block b hP.2.1 (by have:=hP.1;simp;omega)) (λb hP=>⟨by have:=hP.1;omega,by have:=hP.2.1;omega⟩) _ _ h.row) λg hg=>?_,QmN _ _ _ _ h.bel l1⟩;have:=h.own.lt g hg;exact⟨by omega,by omega⟩
end
def Jfd(l:List Nd)(a:Nd):QaK (l++[a])=QaK l++[Qac a]:=by
 induction l with
 |nil=>simp[QaK]
 |cons x r ih=>simp[QaK,ih]
def TrP(w:World)(x:Exp)(e:Ending)(w':World):Prop:=∃c,e=.returned (.agg c)/\XAt w' (QhM w w') x c/\Below w.heap.size w w'
def Jfe(n:Nat)(IH:∀(a:An)(w:World),siz a.nd<=n->a.At w->Calls prog 77 #[.agg (Qaa a)] w (TrP w (Qac a.nd)))(k nn:Int)(s:By)(off:Int)(b c:Nat)(l:List An)(w:World)(hn:Qaz (ndL l)<=n)(hb:n<=100000000)(hat:(An.mk k nn s off b c l).At w):
  Calls prog 77 #[.agg (Qaa (.mk k nn s off b c l))] w (TrP w (.mk k nn s (QaK (ndL l)))):=by
 obtain⟨R,hR⟩:∃R,TrP w (.mk k nn s (QaK (ndL l)))=R:=⟨_,rfl⟩
 rw[hR];have HR:Hi (R=TrP w (.mk k nn s (QaK (ndL l)))):=hR.symm;obtain⟨ad,cc,M3,gA⟩:=Jn b c l
 have iA:Qaa (.mk k nn s off b c l)=#[Iv k,Iv nn,Sv s,Iv off,.slice ad l.length cc]:=by
  show #[_,_,_,_,Qaw b c l]=_
  rw[M3]
 have hA:Below w.heap.size w (((w.alloc (.cells #[Iv k,Iv nn,Sv s,Iv off,.slice ad l.length cc] 119)).alloc (.cells #[Iv 0,Iv 0,Em,Nl] 50)).alloc (.cells #[Iv k,Iv nn,Sv s,Nl] 50)):=((zzb.alloc zzl _).alloc zp _).alloc zq _
 have dA:Hi (TrI w (w.heap.size+1) (w.heap.size+1+1) (w.heap.size+1+1+1) k nn s (((w.alloc (.cells #[Iv k,Iv nn,Sv s,Iv off,.slice ad l.length cc] 119)).alloc (.cells #[Iv 0,Iv 0,Em,Nl] 50)).alloc (.cells #[Iv k,Iv nn,Sv s,Nl] 50)) [] Nl []):=by
  have e1:=zzw (w.alloc (.cells #[Iv k,Iv nn,Sv s,Iv off,.slice ad l.length cc] 119)) (.cells #[Iv 0,Iv 0,Em,Nl] 50);have e2:=zzw ((w.alloc (.cells #[Iv k,Iv nn,Sv s,Iv off,.slice ad l.length cc] 119)).alloc (.cells #[Iv 0,Iv 0,Em,Nl] 50)) (.cells #[Iv k,Iv nn,Sv s,Nl] 50);simp only[World.size_alloc]at e1 e2;exact⟨⟨rfl,.inl ⟨rfl,rfl⟩⟩,by unfold Qdc;rfl,e2,Jf e1,hA,by omega,by omega,by omega,by simp⟩
 have A2:Hi ((((w.alloc (.cells #[Iv k,Iv nn,Sv s,Iv off,.slice ad l.length cc] 119)).alloc (.cells #[Iv 0,Iv 0,Em,Nl] 50)).alloc (.cells #[Iv k,Iv nn,Sv s,Nl] 50)).heap[w.heap.size]?=some (.cells #[Iv k,Iv nn,Sv s,Iv off,.slice ad l.length cc] 119 (0,0))):=Jf (Jf (zzw _ _));have pA:=Zh hat;have HAD:=Zh gA;have mA:=Zh IH;have xB:l.length<=100000000:=by have:=Jw l;omega
 have j4:=Zh hn;rw[iA];clear hR hA M3 gA iA IH hat hn;go_enter func77,ntmps77;go_wp2_with fail;generalize World.alloc (World.alloc (World.alloc w _) _) _=w1 at*;generalize w.heap.size+1+1+1=lo at*;generalize w.heap.size+1+1=bx at*;generalize w.heap.size+1=rs at*;have yB:Hi (w.heap.size<w1.heap.size):=Jb A2.o;have n4:=Ja A2.o 4;simp only[zW]at n4;go_wp2_with fail;clear n4;go_loopg [16] l.length λg v16 wr=>∃i:Nat,g+i=l.length/\v16=Iv i/\Hi (∃V xs,TrI w rs bx lo k nn s wr (QaK (ndL (l.take i))) V xs)/\Hi (Below w.heap.size w wr)
 case atStart=>exact⟨0,rfl,rfl,⟨_,_,dA.o⟩,dA.o.bel⟩
 case round=>
 clear dA A2;obtain⟨wl,rfl⟩:=zG wr
 obtain⟨i,hg,rfl,xA,G1⟩:=hrel;obtain⟨V,xs,xA⟩:=xA.o;obtain⟨va,vn,vc,rfl⟩:=Ji xA.own
 by_cases hi:i<l.length
 ·have hil:(i:Int)<(l.length:Int):=zo
  obtain⟨y,hy⟩:∃y,l[i]?=some y:=⟨l[i],List.getElem?_eq_getElem hi⟩
  have hmem:=mem_of_getElem? hy;have O1:ad=some ⟨b,0,none⟩:=HAD.o (List.ne_nil_of_mem hmem);have hat:=pA.o;have uA:(An.mk k nn s off b c l).At wl:=JE _ hat λq hq=>G1.o.block q (JaL _ hat q hq)
  unfold An.At at uA;obtain⟨hcl,bA⟩:=JO uA.2 hy;rw[zero_add]at hcl;obtain⟨yA,yn,yc,T1⟩:=Jg y;rw[T1]at hcl;have c0:=hcl 0 _ rfl;have c1:=hcl 1 _ rfl;have c2:=hcl 2 _ rfl;have c3:=hcl 3 _ rfl;have c4:=hcl 4 _ rfl;simp only[add_zero]at c0;have wk:=zI i;have I0:Below wl.heap.size wl (wl.alloc (.cells #[Iv y.kind,Iv y.num,.string (bs y.name),Iv y.off,.slice yA yn yc] 119)):=zzb.alloc zzl _;have zA:=Zh (xA.up I0);have vA:=Zh (JE y bA λq hq=>I0.block q (JaL y bA q hq));have S0:=Zh (zzw wl (.cells #[Iv y.kind,Iv y.num,.string (bs y.name),Iv y.off,.slice yA yn yc] 119));have O5:Hi (QaK (ndL (l.take (i+1)))=QaK (ndL (l.take i))++[Qac y.nd]):=by rw[Hi,List.take_add_one,hy];show QaK (ndL (_++[y]))=_;rw[KL,Jfd]
  have kA:Hi ((QaK (ndL (l.take i))).length<=100000000):=by
   have e1:∀q:List Nd,(QaK q).length=q.length:=λq=>by induction q with
    |nil=>rfl
    |cons x r ih=>simp[QaK,ih]
   have e2:∀q:List An,(ndL q).length=q.length:=λq=>by rw[J7,length_map]
   rw[Hi,e1,e2,List.length_take];omega
  have qA:Hi (siz y.nd<=n):=by have:=JH hmem;have:=j4.o;rw[Hi];omega
  have rA:=Zh T1;have HG:=Zh hg;subst O1;clear hat uA hcl T1 I0 xA hy hmem HAD hg bA G1;go_upto_region 5 with fail;clear c0 c1 c2 c3 c4;generalize World.alloc wl _=wk0 at*;generalize wl.heap.size=cb at*;have hD:Below wk0.heap.size wk0 wk0.drew:=(Below.refl wk0.heap.size wk0).drew;replace zA:=Zh (zA.o.up hD);replace vA:=Zh (JE y vA.o λq hq=>hD.block q (JaL y vA.o q hq));replace S0:=Zh ((hD.block _ (Jb S0.o)).trans S0.o);clear hD;have b3:=Ja zA.o.box 3;simp only[zW]at b3;refine LB (λW=>W.cell? ⟨bx,3,none⟩=some (.slice va vn vc)) 7 (b3) λhH=>?_
  generalize wk0.drew=wk1 at*;refine LK 0 rfl ?_;refine LK 1 rfl ?_;refine LO 2 rfl λK hK=>?_
  have U0:=S0.o;have p0:=Ja U0 0;have p1:=Ja U0 1;have p2:=Ja U0 2;have p3:=Ja U0 3;have p4:=Ja U0 4;simp only[zW]at p0 p1 p2 p3 p4;go_simp;clear p0 p1 p2 p3 p4 U0;refine zU hK (b3) λhH=>?_
  clear hK K;refine LO 3 rfl λK hK=>?_
  have ci:=mA.o y _ qA.o vA.o;rw[rA.o]at ci
  (go_simp;go_at_call 77;refine ci.mono ?_;intro e w6 h6)
  clear ci;obtain⟨cy,rfl,aA,L2⟩:=h6;obtain⟨ca,cm,cA,jA⟩:=aA.form;have tA:=Zh aA;have nA:=Zh L2;have sA:=Zh cA;replace S0:=Zh ((L2.block _ (Jb S0.o)).trans S0.o);have eA:=Zh (zA.o.up L2);have HOW:Hi ((w6.alloc (.cells cy 50)).ownsRow lo 50 4 (.slice va vn vc) (QaK (ndL (l.take i))).length xs):=eA.o.own.alloc _;have P3:Hi ((w6.alloc (.cells cy 50)).heap[w6.heap.size]?=some (.cells cy.toList.toArray 50 (0,0))):=zzw _ _;have A1:lo<=(w6.alloc (.cells cy 50)).heap.size:=by have:=eA.o.low;rw[World.size_alloc];omega
  replace b3:=Ja eA.o.box 3;simp only[zW]at b3;rw[cA]at HOW P3 A1 |-;clear aA L2 cA jA;refine zU hK (b3) λhH=>?_
  clear hK K;refine LO 4 rfl λK hK=>?_
  go_simp;refine zU hK (by simp[*,World.cell?_alloc_some]) λhH=>?_
  clear hK K;refine LO 5 rfl λK hK=>?_
  (refine Js (w6.alloc (.cells #[Iv (Qac y.nd).kind,Iv (Qac y.nd).num,.string (bs (Qac y.nd).name),.slice ca (Qac y.nd).kids.length cm] 50)) zr (.tmp 21) (.tmp 24) 48 50 _ 4 56 zr underlying48 Qiz rfl zd lo (.slice va vn vc) (QaK (ndL (l.take i))).length xs [Iv (Qac y.nd).kind,Iv (Qac y.nd).num,.string (bs (Qac y.nd).name),.slice ca (Qac y.nd).kids.length cm] zr HOW.o w6.heap.size zr P3.o rfl (by intro u hu;simp at hu;rcases hu with rfl|rfl|rfl|rfl<;>rfl) kA.o zd A1 ?_;intro v7 w7 H0 N1 Q1)
  obtain⟨a7,m7,c7,rfl⟩:=Ji H0;have hst:=TrI.step (V':=.slice a7 m7 c7) zA.o nA.o tA.o (by rw[sA.o];exact H0) N1 Q1;replace b3:=Ja hst.2 3;simp only[zW]at b3;have f3:=Jc hst.2 3;have R8:=Jb hst.2;have D2:=Zh hst.1;clear H0 N1 Q1 hst HOW P3 A1;refine zU hK (b3) λhH=>?_
  clear hK K;refine LK 6 rfl ?_;refine LZ 7 rfl λK hK=>?_
  go_simp;clear b3 f3 R8;refine hK.out _ _ ?_;clear hK K;have I3:Hi (Below w.heap.size w (w7.setCell ⟨bx,3,none⟩ (.slice a7 m7 c7))):=D2.o.bel;go_wp2;go_roundg (l.length-(i+1))
  case measure=>have:=HG.o;omega
  case rel=>exact⟨i+1,by omega,by go_num,⟨_,_,by rw[O5.o];exact D2.o⟩,I3⟩
 ·have hil:¬(i:Int)<(l.length:Int):=zo
  obtain rfl:i=l.length:=zo
  rw[take_length]at xA;have zA:=Zh xA;have U0:=xA.box;have Q0:=xA.res;have b0:=Ja U0 0;have b1:=Ja U0 1;have b2:=Ja U0 2;have b3:=Ja U0 3;have z0:=Ja Q0 0;have z1:=Ja Q0 1;have z2:=Ja Q0 2;have z3:=Ja Q0 3;simp only[zW]at b0 b1 b2 b3 z0 z1 z2 z3;have y0:=Jc Q0 0;have y1:=Jc Q0 1;have y2:=Jc Q0 2;have y3:=Jc Q0 3;clear hi hg xA U0 Q0;go_wp2;refine bodyPost_ret (v:=.agg #[Iv k,Iv nn,Sv s,.slice va vn vc]) (results_cell_row rfl _ _ rs 50 _ (0,0) _ rfl (QmZ _ _ _ _ zA.o.res) underlying50 rfl Qjn) rfl ?_;rw[HR.o];obtain⟨e1,e2⟩:=zA.o.fin;exact⟨_,rfl,e1,e2⟩
def VH:∀n,n<=100000000->∀(a:An)(w:World),siz a.nd<=n->a.At w->Calls prog 77 #[.agg (Qaa a)] w (TrP w (Qac a.nd))
 |0,_,a,w,h,_=>by have:=KN a.nd;omega
 |n+1,hn,.mk k nn s off b c l,w,h,hat=>by
  rw[YK]at h;have e:Qac (An.mk k nn s off b c l).nd=.mk k nn s (QaK (ndL l)):=by unfold An.nd;rw[Qac]
  rw[e];exact Jfe n (λa w h1 h2=>VH n zo a w h1 h2) k nn s off b c l w zo zo hat
abbrev U5(w6:World)(nm:By)(ta:Option Addr)(tn tc:Nat)(res:Int)(b:An)(ka:Option Addr)(km:Nat):World:=w6.alloc (.cells #[Sv nm,.slice ta tn tc,Iv res,Iv (Qac b.nd).kind,Iv (Qac b.nd).num,.string (bs (Qac b.nd).name),.slice ka (Qac b.nd).kids.length km] 79)
abbrev U6(w6:World)(b:An)(ka:Option Addr)(km:Nat)(ac:Int)(rz:By):World:=w6.alloc (.cells #[Iv (Qac b.nd).kind,Iv (Qac b.nd).num,.string (bs (Qac b.nd).name),.slice ka (Qac b.nd).kids.length km,Iv ac,Sv rz] 62)
def Qdt:(prog.info? 62).map (λi=>(i.zero,i.size,i.bytes))=some (some (.agg #[Iv 0,Iv 0,Em,Nl,Iv 0,Em]),6,80):=zk
def QgS:(prog.info? 30).map (·.size)=some 3:=zk
def QkG{w:World}{T t:Nat}{a0 a1 a2:Value}(v0 v1 v2:Value)(h:w.heap[T]?=some (.cells #[a0,a1,a2] t (0,0))):
  (((w.setCell ⟨T,0,none⟩ v0).setCell ⟨T,1,none⟩ v1).setCell ⟨T,2,none⟩ v2).heap[T]?=some (.cells #[v0,v1,v2] t (0,0)):=
 heap_setCell_same _ _ 2 _ _ v2 (heap_setCell_same _ _ 1 _ _ v1 (heap_setCell_same _ _ 0 _ _ v0 h))
def OkB(w:World)(sb lo:Nat)(W:World)(V:Value)(b:Nat):Prop:=sb<b/\b<W.heap.size/\V.ownBlock≠some b/\(b<w.heap.size\/lo<=b)
def OkB.up{w:World}{sb lo:Nat}{W W':World}{V:Value}{b:Nat}(h:OkB w sb lo W V b)(hs:W.heap.size<=W'.heap.size):OkB w sb lo W' V b:=⟨h.1,Nat.lt_of_lt_of_le h.2.1 hs,h.2.2⟩
def Jff{w:World}{sb lo rs bx:Nat}{w6 w7:World}{V V':Value}{X:Obj}{j:Nat}(hl:w.heap.size<=rs/\rs<bx/\bx<lo)(hV:∀g,V.ownBlock=some g->lo<=g/\g<w6.heap.size)
  (hgr:(w6.alloc X).grownBy w7 V.ownBlock) (T2:V'.ownBlock=V.ownBlock\/V'.ownBlock=some (w6.alloc X).heap.size):
  (∀b,b<w6.heap.size->V.ownBlock≠some b->b≠bx->(w7.setCell ⟨bx,j,none⟩ V').heap[b]?=w6.heap[b]?)/\(∀b,OkB w sb lo w6 V b->OkB w sb lo (w7.setCell ⟨bx,j,none⟩ V') V' b/\b≠bx)/\Chg [bx] w7 (w7.setCell ⟨bx,j,none⟩ V')/\w6.heap.size<=(w7.setCell ⟨bx,j,none⟩ V').heap.size/\
   (∀o,w6.heap[bx]?=some o->w7.heap[bx]?=some o):=by
 have O3:=JK hgr;have hst:Chg [bx] w7 (w7.setCell ⟨bx,j,none⟩ V'):=(Chg.refl _ _).setCell (.inl (by simp:bx∈[bx])) (p:=⟨bx,j,none⟩) V';have hsz:w6.heap.size<=(w7.setCell ⟨bx,j,none⟩ V').heap.size:=le_trans O3.size hst.size;refine⟨λq hq hn hne=>(hst.block q (Nat.lt_of_lt_of_le hq O3.size) (by simpa using hne)).trans (O3.block q hq (by simpa using hn)),λb hb=>?_,hst,hsz,λo ho=>O3.heap_some (λhm=>by have:=(hV bx (by simpa using hm)).1;omega) ho⟩;obtain⟨h1,h2,h3,h4⟩:=hb;refine⟨⟨h1,by omega,λe1=>?_,h4⟩,by omega⟩
 rcases T2 with e2|e2
 ·exact h3 (e2.symm.trans e1)
 ·rw[e2]at e1;simp at e1;omega
structure R1(w:World)(sb rs bx lo:Nat)(act:Int)(W:World)(fl:List FnM)(V:Value)(xs:List Value):Prop where
 own:W.ownsRow lo 79 7 V fl.length xs
 row:Qck (FnX W (OkB w sb lo W V)) fl xs
 box:W.heap[bx]?=some (.cells #[V,Nl,Iv act] 30 (0,0))
 res:W.heap[rs]?=some (.cells #[Nl,Nl,Iv 0] 30 (0,0))
 bel:Below w.heap.size w W
 low:w.heap.size<=rs/\rs<bx/\bx<lo/\lo<=W.heap.size
structure R2(w:World)(sb rs bx lo:Nat)(act:Int)(W:World)(fl:List FnM)(V:Value)(cl:List ClM)(U:Value)(ys:List Value):Prop where
 fsl:Qao W (OkB w sb lo W U) (FnX W (OkB w sb lo W U)) fl V
 own:W.ownsRow lo 62 6 U cl.length ys
 row:Qck (ClX W (OkB w sb lo W U)) cl ys
 box:W.heap[bx]?=some (.cells #[V,U,Iv act] 30 (0,0))
 res:W.heap[rs]?=some (.cells #[Nl,Nl,Iv 0] 30 (0,0))
 bel:Below w.heap.size w W
 low:w.heap.size<=rs/\rs<bx/\bx<lo/\lo<=W.heap.size
def Je{w W W':World}(h:Below w.heap.size w W)(hb:Below W.heap.size W W'):Below w.heap.size w W':=
 ⟨hb.os.trans h.os,hb.tape.trans h.tape,hb.output.trans h.output,le_trans h.size hb.size,λq hq=>(hb.block q (Nat.lt_of_lt_of_le hq h.size)).trans (h.block q hq)⟩
section
variable {w:World}{sb rs bx lo:Nat}{act:Int}{W W':World}{fl:List FnM}{V:Value}{xs:List Value}{cl:List ClM}{U:Value}{ys:List Value}
def R1.up(h:R1 w sb rs bx lo act W fl V xs)(hb:Below W.heap.size W W'):R1 w sb rs bx lo act W' fl V xs:=by
 obtain⟨l1,l2,l3,l4⟩:=h.low;exact⟨Jx h.own (Chg.of_below hb []) zp,h.row.imp (FnX.keep (λb hP=>hb.block b hP.2.1) λb hP=>hP.up hb.size),(hb.block _ (Jb h.box)).trans h.box,(hb.block _ (Jb h.res)).trans h.res,Je h.bel hb,l1,l2,l3,le_trans l4 hb.size⟩
def R2.up(h:R2 w sb rs bx lo act W fl V cl U ys)(hb:Below W.heap.size W W'):R2 w sb rs bx lo act W' fl V cl U ys:=by
 obtain⟨l1,l2,l3,l4⟩:=h.low;exact⟨h.fsl.keep (λb hP=>hb.block b hP.2.1) (λb hP=>hP.up hb.size) (FnX.keep (λb hP=>hb.block b hP.2.1) λb hP=>hP.up hb.size),Jx h.own (Chg.of_below hb []) zp,h.row.imp (ClX.keep (λb hP=>hb.block b hP.2.1) λb hP=>hP.up hb.size),(hb.block _ (Jb h.box)).trans h.box,(hb.block _ (Jb h.res)).trans h.res,Je h.bel hb,l1,l2,l3,le_trans l4 hb.size⟩
def JcT{w6 w7:World}{V':Value}{X:Obj}{j:Nat}(h:Below w.heap.size w w6)(hl:w.heap.size<=rs/\rs<bx/\bx<lo)(hV:∀g,V.ownBlock=some g->lo<=g/\g<w6.heap.size)
  (hgr:(w6.alloc X).grownBy w7 V.ownBlock):Below w.heap.size w (w7.setCell ⟨bx,j,none⟩ V'):=by
 have O3:=JK hgr;have hst:Chg [bx] w7 (w7.setCell ⟨bx,j,none⟩ V'):=(Chg.refl _ _).setCell (.inl (by simp:bx∈[bx])) (p:=⟨bx,j,none⟩) V';have h1:=h.size;have h2:=O3.size;exact⟨hst.os.trans (O3.os.trans h.os),hst.tape.trans (O3.tape.trans h.tape),hst.output.trans (O3.output.trans h.output),by have:=hst.size;omega,λq hq=>(hst.block q zo zq).trans ((O3.block q zo λhm=>by have:=(hV q (by simpa using hm)).1;omega).trans (h.block q hq))⟩
def Qlq{P:Prop}(h:P:=by
  obtain⟨l1,l2,l3,l4⟩:=h.low;have h1:=hP.1;have h2:=hP.2
  exact⟨by omega,h2,λe1=>by have:=(h.own.lt b e1).2;omega,.inr (by omega)⟩):P:=h
def JcU{w1 w6:World}(h:R1 w sb rs bx lo act w1 fl V xs)(PD:sb<w.heap.size):∀b,QhM w1 w6 b->OkB w sb lo w6 V b:=λb hP=>by
 exact Qlq
def JaX{w1 w6:World}(h:R2 w sb rs bx lo act w1 fl V cl U ys)(PD:sb<w.heap.size):∀b,QhM w1 w6 b->OkB w sb lo w6 U b:=λb hP=>by
 exact Qlq
def R1.step{w1 w6 w7:World}{f:FnM}{c:List Value}{V':Value}{X:Obj}(h:R1 w sb rs bx lo act w1 fl V xs)(hb:Below w1.heap.size w1 w6)(hx:FnX w6 (OkB w sb lo w6 V) f c)
  (hown:w7.ownsRow lo 79 7 V' (fl.length+1) (xs++c)) (hgr:(w6.alloc X).grownBy w7 V.ownBlock) (T2:V'.ownBlock=V.ownBlock\/V'.ownBlock=some (w6.alloc X).heap.size):
  R1 w sb rs bx lo act (w7.setCell ⟨bx,0,none⟩ V') (fl++[f]) V' (xs++c)/\w7.heap[bx]?=some (.cells #[V,Nl,Iv act] 30 (0,0)):=by
 have h6:=h.up hb;obtain⟨l1,l2,l3,l4⟩:=h6.low;have hV:∀g,V.ownBlock=some g->lo<=g/\g<w6.heap.size:=λg hg=>h6.own.lt g hg
 obtain⟨g1,g2,hst,hsz,g5⟩:=Jff (w:=w) (sb:=sb) (j:=0) ⟨l1,l2,l3⟩ hV hgr T2;have hk:∀b,OkB w sb lo w6 V b->(w7.setCell ⟨bx,0,none⟩ V').heap[b]?=w6.heap[b]?:=λb hb=>g1 b hb.2.1 hb.2.2.1 (g2 b hb).2
 have hq:∀b,OkB w sb lo w6 V b->OkB w sb lo (w7.setCell ⟨bx,0,none⟩ V') V' b:=λb hb=>(g2 b hb).1
 have j3:=g5 _ h6.box;refine⟨⟨?_,Qck.snoc (FnX.keep hk hq f c hx) (h6.row.imp (FnX.keep hk hq)),JC j3 0 V',?_,JcT h6.bel ⟨l1,l2,l3⟩ hV hgr,l1,l2,l3,le_trans l4 hsz⟩,j3⟩
 ·rw[List.length_append];exact Jx hown hst zq
 ·exact(g1 rs (Jb h6.res) (λe1=>by have:=(hV _ e1).1;omega) zo).trans h6.res
def R2.step{w1 w6 w7:World}{f:ClM}{c:List Value}{U':Value}{X:Obj}(h:R2 w sb rs bx lo act w1 fl V cl U ys)(hb:Below w1.heap.size w1 w6)(hx:ClX w6 (OkB w sb lo w6 U) f c)
  (hown:w7.ownsRow lo 62 6 U' (cl.length+1) (ys++c)) (hgr:(w6.alloc X).grownBy w7 U.ownBlock) (T2:U'.ownBlock=U.ownBlock\/U'.ownBlock=some (w6.alloc X).heap.size):
  R2 w sb rs bx lo act (w7.setCell ⟨bx,1,none⟩ U') fl V (cl++[f]) U' (ys++c)/\w7.heap[bx]?=some (.cells #[V,U,Iv act] 30 (0,0)):=by
 have h6:=h.up hb;obtain⟨l1,l2,l3,l4⟩:=h6.low;have hV:∀g,U.ownBlock=some g->lo<=g/\g<w6.heap.size:=λg hg=>h6.own.lt g hg
 obtain⟨g1,g2,hst,hsz,g5⟩:=Jff (w:=w) (sb:=sb) (j:=1) ⟨l1,l2,l3⟩ hV hgr T2;have hk:∀b,OkB w sb lo w6 U b->(w7.setCell ⟨bx,1,none⟩ U').heap[b]?=w6.heap[b]?:=λb hb=>g1 b hb.2.1 hb.2.2.1 (g2 b hb).2
 have hq:∀b,OkB w sb lo w6 U b->OkB w sb lo (w7.setCell ⟨bx,1,none⟩ U') U' b:=λb hb=>(g2 b hb).1
 have j3:=g5 _ h6.box;refine⟨⟨h6.fsl.keep hk hq (FnX.keep hk hq),?_,Qck.snoc (ClX.keep hk hq f c hx) (h6.row.imp (ClX.keep hk hq)),JC j3 1 U',?_,JcT h6.bel ⟨l1,l2,l3⟩ hV hgr,l1,l2,l3,le_trans l4 hsz⟩,j3⟩
 ·rw[List.length_append];exact Jx hown hst zq
 ·exact(g1 rs (Jb h6.res) (λe1=>by have:=(hV _ e1).1;omega) zo).trans h6.res
def R1.next(h:R1 w sb rs bx lo act W fl V xs)(PD:sb<w.heap.size):R2 w sb rs bx lo act W fl V [] Nl []:=by
 obtain⟨l1,l2,l3,l4⟩:=h.low;have hq:∀b,OkB w sb lo W V b->OkB w sb lo W Nl b:=λb hb=>⟨hb.1,hb.2.1,by simp[Value.ownBlock],hb.2.2.2⟩
 exact⟨Qao.own h.own (h.row.imp (FnX.keep (λ_ _=>rfl) hq)) λg hg=>by have:=h.own.lt g hg;exact⟨by omega,this.2,by simp[Value.ownBlock],.inr this.1⟩,⟨rfl,.inl ⟨rfl,rfl⟩⟩,rfl,h.box,h.res,h.bel,l1,l2,l3,l4⟩
def R2.fin(h:R2 w sb rs bx lo act W fl V cl U ys)(PD:sb<w.heap.size):let W':=((W.setCell ⟨rs,0,none⟩ V).setCell ⟨rs,1,none⟩ U).setCell ⟨rs,2,none⟩ (Iv act)
  QaV W' (λb=>sb<b/\b<W'.heap.size) ⟨fl,cl,act⟩ #[V,U,Iv act]/\Below w.heap.size w W':=by
 intro W';obtain⟨l1,l2,l3,l4⟩:=h.low;have hst:Chg [rs] W W':=(((Chg.refl _ _).setCell (.inl zp) _).setCell (.inl zp) _).setCell (.inl zp) _;have hsz:=hst.size;have hk:∀b,OkB w sb lo W U b->W'.heap[b]?=W.heap[b]?:=λb hb=>hst.block b hb.2.1 (by obtain⟨_,_,_,h4⟩:=hb;simp;omega)
 have hq:∀b,OkB w sb lo W U b->sb<b/\b<W'.heap.size:=λb hb=>⟨hb.1,by have:=hb.2.1;omega⟩
 refine⟨⟨_,_,rfl,h.fsl.keep hk hq (FnX.keep hk hq),Qao.own (Jx h.own hst zq) (h.row.imp (ClX.keep hk hq)) λg hg=>?_⟩,((h.bel.setCell l1 _).setCell l1 _).setCell l1 _⟩;have:=h.own.lt g hg;exact⟨by omega,by omega⟩
end
def JiQ{W:World}{sb:Nat}{f:FnA}(P:Nat->Prop)(h:f.Ok W)(hP:∀g,f.lo<=g->g<f.hi->P g):Qbc W P f.types f.tv:=by
 obtain⟨m,m1,m2,m3,m4,m5⟩:=h.bmd;have ht:=h.town
 rcases ht.2 with⟨e,e0⟩|⟨g,cap,cur,e,e2,e3,e4,_⟩
 ·exact⟨none,0,by rw[e,e0],by omega,.inl (List.eq_nil_of_length_eq_zero e0)⟩
 ·have hg:=m4 g (by rw[e];rfl);refine⟨_,cap,e,e4,.inr ⟨g,0,rfl,hP g e2 zo,λi n hi=>?_⟩⟩;have hc:=JT ht (j:=i) (u:=Iv n) (by unfold QbN;rw[List.getElem?_map,hi];rfl);rw[e]at hc;rw[Nat.zero_add];exact hc
def fnM(f:FnA):FnM:=⟨f.name,f.types,f.result,Qac f.body.nd⟩
def clM(c:ClA):ClM:=⟨Qac c.cond.nd,c.action,c.reason⟩
def Jhm(S:Qak):Qbo S.src=⟨S.funcs.map fnM,S.clauses.map clM,S.action⟩:=by
 unfold Qbo Qak.src;simp only[List.map_map];rfl
def RlP(w:World)(sb:Nat)(r:Qah)(e:Ending)(w':World):Prop:=∃c,e=.returned (.agg c)/\QaV w' (λb=>sb<b/\b<w'.heap.size) r c/\Below w.heap.size w w'
def QmG{P:Prop}(h:P:=by
  try simp only[Act.put,ZA,ZB,ZC]
  refine ZS 13 rfl (λK hK=>?_);have U0:=P2.o;have b0:=Ja U0 1;have f0:=Jc U0 1;have R8:=Jb U0;simp only[ZD,ZE,ZF]at b0;go_simp;clear b0 U0 f0 R8 P2;replace S0:=Zh (((Chg.refl [bx] w7).setCell (.inl (by simp)) (p:=⟨bx,1,none⟩) (.slice a7 m7 c7)).heap_some (by have:=R5.o.1;simp;omega) S0.o);refine hK.out _ _ S0.o (λhH=>?_);clear hK K
  try simp only[Act.put,ZA,ZB,ZC]
  refine wpAnyH_done (by kernel_rfl) ?_ _;go_wp2;go_roundg (S.clauses.length-(i+1))
  case measure=>have:=HG.o;omega
  case rel=>exact⟨i+1,by omega,by go_num,⟨_,_,by rw[O5.o,NB.o];exact D2.o⟩⟩):P:=h
def QmF{P:Prop}(h:P:=by
  try simp only[Act.put,ZA,ZB,ZC]
  refine ZS 16 rfl (λK hK=>?_);have U0:=P2.o;have b0:=Ja U0 0;have f0:=Jc U0 0;have R8:=Jb U0;simp only[ZD,ZE,ZF]at b0;go_simp;clear b0 U0 f0 R8 P2;replace S0:=Zh (((Chg.refl [bx] w7).setCell (.inl (by simp)) (p:=⟨bx,0,none⟩) (.slice a7 m7 c7)).heap_some (by have:=R5.o.1;simp;omega) S0.o);refine hK.out _ _ S0.o (λhH=>?_);clear hK K
  try simp only[Act.put,ZA,ZB,ZC]
  refine wpAnyH_done (by kernel_rfl) ?_ _;go_wp2;go_roundg (S.funcs.length-(i+1))
  case measure=>have:=HG.o;omega
  case rel=>exact⟨i+1,by omega,by go_num,⟨_,_,by rw[O5.o,NB.o];exact D2.o⟩⟩):P:=h
def Jfg(w:World)(sb:Nat)(S:Qak)(h:QaH w sb S)(h1:S.funcs.length<=100000000)(h2:S.clauses.length<=100000000)
  (h3:∀f∈S.funcs,siz f.body.nd<=100000000) (h4:∀c∈S.clauses,siz c.cond.nd<=100000000):
  Calls prog 38 #[Pt sb] w (RlP w sb (Qbo S.src)):=by
 obtain⟨R,hR⟩:∃R,RlP w sb (Qbo S.src)=R:=⟨_,rfl⟩
 rw[hR];have HR:Hi (R=RlP w sb (Qbo S.src)):=hR.symm;obtain⟨fa,fc,tA,G3⟩:=KU h.fown;obtain⟨ca,cc,vB,yB⟩:=KU h.cown;have hB:=Zh tA;have r8:=Zh vB;have bB:=Zh G3;have gB:=Zh yB;have H3:=Zh h3;have H4:=Zh h4;have HS:=Zh h;have nA:Hi (sb<w.heap.size):=Jb h.box;have rA:Below w.heap.size w ((w.alloc (.cells #[Nl,Nl,Iv 0] 30)).alloc (.cells #[Nl,Nl,Iv S.action] 30)):=(zzb.alloc zzl _).alloc zp _
 have eB:Hi (R1 w sb w.heap.size (w.heap.size+1) (w.heap.size+1+1) S.action ((w.alloc (.cells #[Nl,Nl,Iv 0] 30)).alloc (.cells #[Nl,Nl,Iv S.action] 30)) [] Nl []):=by
  have e2:=zzw (w.alloc (.cells #[Nl,Nl,Iv 0] 30)) (.cells #[Nl,Nl,Iv S.action] 30);simp only[World.size_alloc]at e2;exact⟨⟨rfl,.inl ⟨rfl,rfl⟩⟩,rfl,e2,Jf (zzw _ _),rA,by omega,by omega,by omega,by simp⟩
 have uB:=h.on (Chg.of_below ((Below.refl w.heap.size w).alloc zzl (.cells #[Nl,Nl,Iv 0] 30)) []) zp;have aB:=h.on (Chg.of_below rA []) zp;have a2:(w.alloc (.cells #[Nl,Nl,Iv 0] 30)).cell? ⟨sb,2,none⟩=some (Iv S.action):=by rw[Ja uB.box];rfl
 have b0:((w.alloc (.cells #[Nl,Nl,Iv 0] 30)).alloc (.cells #[Nl,Nl,Iv S.action] 30)).cell? ⟨sb,0,none⟩=some (.slice fa S.funcs.length fc):=by rw[Ja aB.box];rw[tA];rfl
 clear hR tA vB G3 yB h h3 h4 rA uB aB;go_enter func38,ntmps38;go_wp2_with fail;clear a2 b0;generalize World.alloc (World.alloc w _) _=w1 at*;generalize w.heap.size+1+1=lo at*;generalize w.heap.size+1=bx at*;go_loopg [18] S.funcs.length λg v18 wr=>∃i:Nat,g+i=S.funcs.length/\v18=Iv i/\Hi (∃V xs,R1 w sb w.heap.size bx lo S.action wr ((S.funcs.take i).map fnM) V xs)
 case atStart=>exact⟨0,rfl,rfl,⟨_,_,eB.o⟩⟩
 case round=>
 clear eB;obtain⟨wl,rfl⟩:=zG wr
 obtain⟨i,hg,rfl,xA⟩:=hrel;obtain⟨V,xs,xA⟩:=xA.o;obtain⟨va,vn,vc,rfl⟩:=Ji xA.own
 by_cases hi:i<S.funcs.length
 ·have hil:(i:Int)<(S.funcs.length:Int):=zo
  obtain⟨fn,hA⟩:∃fn,S.funcs[i]?=some fn:=⟨S.funcs[i],List.getElem?_eq_getElem hi⟩
  have qA:=bB.o zo;have hmem:=List.mem_of_getElem? hA;have eA:=HS.o.on (Chg.of_below xA.bel []) zp;obtain⟨fo,hlo,_⟩:=eA.fok fn hmem;have hcl:=VG eA hA;have O5:Hi ((S.funcs.take (i+1)).map fnM=(S.funcs.take i).map fnM++[fnM fn]):=by rw[Hi,JF hA];simp
  have mA:Hi (((S.funcs.take i).map fnM).length<=100000000):=by rw[Hi,List.length_map,List.length_take];omega
  have L7:Hi (fn.Ok wl/\sb<fn.lo/\fn.hi<=w.heap.size):=⟨fo,hlo,(HS.o.fok fn hmem).1.hle⟩
  have j4:=Zh (H3.o fn hmem);have iB:Hi (∃fn',fn'=fn):=⟨_,rfl⟩
  have I0:Below wl.heap.size wl (wl.alloc (.cells fn.cells.toArray 121)):=zzb.alloc zzl _;have S0:=Zh (zzw wl (.cells fn.cells.toArray 121));have uA:=Zh (xA.up I0);have zA:Hi (fn.body.At (wl.alloc (.cells fn.cells.toArray 121))):=JaM fo.bat I0
  have cA:Hi (Qbc (wl.alloc (.cells fn.cells.toArray 121)) (OkB w sb lo wl (.slice va vn vc)) fn.types fn.tv):=by
   refine(JiQ (sb:=sb) _ fo λg g1 g2=>?_).keep (λb hP=>I0.block b hP.2.1) λb hP=>hP;have:=(HS.o.fok fn hmem).1.hle;have:=xA.low;exact⟨by omega,by omega,λe1=>by have:=(xA.own.lt g e1).1;omega,.inl zo⟩
  have NB:Hi (fnM fn=⟨fn.name,fn.types,fn.result,Qac fn.body.nd⟩):=rfl;obtain⟨nm,of,ps,ts,res,b,pv,tv,nB,mB⟩:=fn;obtain⟨pa,pn,pc,dB⟩:=Ji fo.pown;obtain⟨ta,tn,tc,cB⟩:=Ji fo.town;dsimp only at dB cB zA cA NB j4;subst dB cB;obtain⟨yA,yn,yc,I4⟩:=Jg b;simp only[FnA.cells,I4,List.cons_append,List.nil_append]at hcl S0 uA zA cA;have pA:=Zh I4;have c0:=hcl 0 _ rfl;have c1:=hcl 1 _ rfl;have c2:=hcl 2 _ rfl;have c3:=hcl 3 _ rfl;have c4:=hcl 4 _ rfl;have c5:=hcl 5 _ rfl;have c6:=hcl 6 _ rfl;have c7:=hcl 7 _ rfl;have c8:=hcl 8 _ rfl;have c9:=hcl 9 _ rfl;simp only[Nat.add_zero]at c0;have wk:=zI i;have HG:=Zh hg;have R5:Hi (bx<wl.heap.size/\∀g,(Value.slice va vn vc).ownBlock=some g->g<wl.heap.size):=⟨by have:=xA.low;omega,λg hg=>(xA.own.lt g hg).2⟩
  subst qA;clear hcl hA fo hg I4 eA xA I0 hmem hlo L7 iB;go_upto_region 5 with fail;clear c0 c1 c2 c3 c4 c5 c6 c7 c8 c9;have j7:Hi (wl.heap.size<=(World.alloc wl (.cells #[Sv nm,Iv of,.slice pa pn pc,.slice ta tn tc,Iv res,Iv b.kind,Iv b.num,.string (bs b.name),Iv b.off,.slice yA yn yc] 121)).heap.size):=by rw[Hi,World.size_alloc];omega
  replace cA:Hi (Qbc (World.alloc wl (.cells #[Sv nm,Iv of,.slice pa pn pc,.slice ta tn tc,Iv res,Iv b.kind,Iv b.num,.string (bs b.name),Iv b.off,.slice yA yn yc] 121)) (OkB w sb lo (World.alloc wl (.cells #[Sv nm,Iv of,.slice pa pn pc,.slice ta tn tc,Iv res,Iv b.kind,Iv b.num,.string (bs b.name),Iv b.off,.slice yA yn yc] 121)) (.slice va vn vc)) ts (.slice ta tn tc)):=cA.o.keep (λ_ _=>rfl) λb hP=>hP.up j7.o;generalize World.alloc wl _=wk0 at*;generalize wl.heap.size=cb at*;refine wp_region_held_drew (S:=λW=>W.heap[cb]?=some (.cells #[Sv nm,Iv of,.slice pa pn pc,.slice ta tn tc,Iv res,Iv b.kind,Iv b.num,.string (bs b.name),Iv b.off,.slice yA yn yc] 121 (0,0))) zk ((((Below.refl wk0.heap.size wk0).drew).block _ (Jb S0.o)).trans S0.o) λhH=>?_;have hD:Below wk0.heap.size wk0 wk0.drew:=(Below.refl wk0.heap.size wk0).drew;replace uA:=Zh (uA.o.up hD);replace zA:Hi (b.At wk0.drew):=JaM zA.o hD;replace cA:Hi (Qbc wk0.drew (OkB w sb lo wk0.drew (.slice va vn vc)) ts (.slice ta tn tc)):=cA.o.keep (λb hP=>hD.block b hP.2.1) λb hP=>hP.up hD.size;replace S0:=Zh ((hD.block _ (Jb S0.o)).trans S0.o);have jA:=Zh uA.o.box;clear hD;generalize wk0.drew=wk1 at*;refine ZT (i:=0) (v:=?vT1_0) rfl (Or.inl ⟨by rfl,?yT1_0⟩) ?_
  case yT1_0=>exact ZyQ
  try simp only[zX]
  refine ZT (i:=2) (v:=?vT1_2) rfl (Or.inl ⟨by rfl,?yT1_2⟩) ?_
  case yT1_2=>exact ZyQ
  try simp only[zX]
  refine ZT (i:=3) (v:=?vT1_3) rfl (Or.inl ⟨by rfl,?yT1_3⟩) ?_
  case yT1_3=>exact ZyQ
  try simp only[zX]
  refine ZT (i:=4) (v:=?vT1_4) rfl (Or.inl ⟨by rfl,?yT1_4⟩) ?_
  case yT1_4=>(intro wX hSw;(try dsimp only at hSw);have p0:=Ja hSw 0;simp only[zW]at p0;go_simp<;>with_reducible rfl)
  try simp only[zX]
  refine ZT (i:=5) (v:=?vT1_5) rfl (Or.inl ⟨by rfl,?yT1_5⟩) ?_
  case yT1_5=>exact ZyQ
  try simp only[zX]
  refine ZT (i:=6) (v:=?vT1_6) rfl (Or.inl ⟨by rfl,?yT1_6⟩) ?_
  case yT1_6=>(intro wX hSw;(try dsimp only at hSw);have p3:=Ja hSw 3;simp only[zW]at p3;go_simp<;>with_reducible rfl)
  try simp only[zX]
  refine ZT (i:=7) (v:=?vT1_7) rfl (Or.inl ⟨by rfl,?yT1_7⟩) ?_
  case yT1_7=>exact ZyQ
  try simp only[zX]
  refine ZT (i:=8) (v:=?vT1_8) rfl (Or.inl ⟨by rfl,?yT1_8⟩) ?_
  case yT1_8=>(intro wX hSw;(try dsimp only at hSw);have p4:=Ja hSw 4;simp only[zW]at p4;go_simp<;>with_reducible rfl)
  try simp only[zX]
  refine ZT (i:=9) (v:=?vT1_9) rfl (Or.inl ⟨by rfl,?yT1_9⟩) ?_
  case yT1_9=>exact ZyQ
  try simp only[zX]
  refine ZT (i:=10) (v:=?vT1_10) rfl (Or.inl ⟨by rfl,?yT1_10⟩) ?_
  case yT1_10=>(intro wX hSw;(try dsimp only at hSw);have p5:=Ja hSw 5;have p6:=Ja hSw 6;have p7:=Ja hSw 7;have p8:=Ja hSw 8;have p9:=Ja hSw 9;simp only[zW]at p5 p6 p7 p8 p9;go_simp<;>with_reducible rfl)
  try simp only[zX]
  refine ZR (rs:=[1,11]) (AllReadyH.cons rfl (λK hK=>?_) (AllReadyH.cons rfl (λK hK=>?_) AllReadyH.nil))
  ·have U0:=jA.o;have b0:=Ja U0 0;simp only[zW]at b0;go_simp;clear b0 U0;refine zU hK S0.o λhH=>?_;clear hK K
   try simp only[zX]
   refine ZS 11 rfl λK hK=>?_;have ci:=VH (siz b.nd) j4.o b _ zzl zA.o;rw[pA.o]at ci
   (go_simp;go_at_call 77;refine ci.mono ?_;intro e w6 h6)
   clear ci;obtain⟨cy,rfl,aA,L2⟩:=h6;obtain⟨ka,km,vA,kA⟩:=aA.form;have sA:=Zh aA;have gA:=Zh L2;have xB:=Zh vA;replace S0:=Zh ((L2.block _ (Jb S0.o)).trans S0.o);have bA:=S0;have dA:=Zh (uA.o.up L2);have iA:Hi (FnX w6 (OkB w sb lo w6 (.slice va vn vc)) ⟨nm,ts,res,Qac b.nd⟩ [Sv nm,.slice ta tn tc,Iv res,Iv (Qac b.nd).kind,Iv (Qac b.nd).num,.string (bs (Qac b.nd).name),.slice ka (Qac b.nd).kids.length km]):=⟨_,_,cA.o.keep (λb hP=>L2.block b hP.2.1) λb hP=>hP.up L2.size,aA.keep (λ_ _=>rfl) (JcU uA.o nA.o),by rw[vA];rfl⟩
   have HOW:Hi ((U5 w6 nm ta tn tc res b ka km).ownsRow lo 79 7 (.slice va vn vc) ((S.funcs.take i).map fnM).length xs):=dA.o.own.alloc _;have P3:Hi ((U5 w6 nm ta tn tc res b ka km).heap[w6.heap.size]?=some (.cells ([Sv nm,.slice ta tn tc,Iv res,Iv (Qac b.nd).kind,Iv (Qac b.nd).num,.string (bs (Qac b.nd).name),.slice ka (Qac b.nd).kids.length km]).toArray 79 (0,0))):=zzw _ _;have A1:lo<=(U5 w6 nm ta tn tc res b ka km).heap.size:=by have:=dA.o.low;rw[World.size_alloc];omega
   have P2:=Zh dA.o.box;rw[vA];clear aA L2 vA kA jA;refine zU hK S0.o λhH=>?_;clear hK K
   try simp only[zX]
   refine ZT (i:=12) (v:=?vT3_12) rfl (Or.inl ⟨by rfl,?yT3_12⟩) ?_
   case yT3_12=>exact ZyQ
   try simp only[zX]
   refine ZS 13 rfl λK hK=>?_;go_simp;replace S0:=Zh (Jf (X:=.cells #[Sv nm,.slice ta tn tc,Iv res,Iv (Qac b.nd).kind,Iv (Qac b.nd).num,.string (bs (Qac b.nd).name),.slice ka (Qac b.nd).kids.length km] 79) S0.o);refine zU hK S0.o λhH=>?_;replace P2:Hi ((U5 w6 nm ta tn tc res b ka km).heap[bx]?=some (.cells #[.slice va vn vc,Nl,Iv S.action] 30 (0,0))):=Jf P2.o;clear hK K
   try simp only[zX]
   refine ZS 14 rfl λK hK=>?_
   (refine Js (U5 w6 nm ta tn tc res b ka km) zr (.tmp 23) (.tmp 35) 27 79 _ 7 104 zr underlying27 QdD rfl zd lo (.slice va vn vc) ((S.funcs.take i).map fnM).length xs [Sv nm,.slice ta tn tc,Iv res,Iv (Qac b.nd).kind,Iv (Qac b.nd).num,.string (bs (Qac b.nd).name),.slice ka (Qac b.nd).kids.length km] zr HOW.o w6.heap.size zr P3.o rfl (by intro u hu;simp at hu;rcases hu with rfl|rfl|rfl|rfl|rfl|rfl|rfl<;>rfl) mA.o zd A1 ?_;intro v7 w7 H0 N1 Q1)
   obtain⟨a7,m7,c7,rfl⟩:=Ji H0;have hst:=R1.step (V':=.slice a7 m7 c7) uA.o gA.o iA.o H0 N1 Q1;replace S0:=Zh ((JK (v:=.slice va vn vc) N1).heap_some (λhm=>by have:=R5.o.2 cb (by simpa using hm);omega) bA.o);replace P2:=Zh hst.2;have D2:=Zh hst.1;clear H0 N1 Q1 hst HOW P3 A1;refine zU hK S0.o λhH=>?_;clear hK K
   try simp only[zX]
   refine ZT (i:=15) (v:=?vT5_15) rfl (Or.inl ⟨by rfl,?yT5_15⟩) ?_
   case yT5_15=>exact ZyQ
   exact QmF
  ·have ci:=VH (siz b.nd) j4.o b _ zzl zA.o;rw[pA.o]at ci
   (go_simp;go_at_call 77;refine ci.mono ?_;intro e w6 h6)
   clear ci;obtain⟨cy,rfl,aA,L2⟩:=h6;obtain⟨ka,km,vA,kA⟩:=aA.form;have sA:=Zh aA;have gA:=Zh L2;have xB:=Zh vA;replace S0:=Zh ((L2.block _ (Jb S0.o)).trans S0.o);have bA:=S0;have dA:=Zh (uA.o.up L2);have iA:Hi (FnX w6 (OkB w sb lo w6 (.slice va vn vc)) ⟨nm,ts,res,Qac b.nd⟩ [Sv nm,.slice ta tn tc,Iv res,Iv (Qac b.nd).kind,Iv (Qac b.nd).num,.string (bs (Qac b.nd).name),.slice ka (Qac b.nd).kids.length km]):=⟨_,_,cA.o.keep (λb hP=>L2.block b hP.2.1) λb hP=>hP.up L2.size,aA.keep (λ_ _=>rfl) (JcU uA.o nA.o),by rw[vA];rfl⟩
   have HOW:Hi ((U5 w6 nm ta tn tc res b ka km).ownsRow lo 79 7 (.slice va vn vc) ((S.funcs.take i).map fnM).length xs):=dA.o.own.alloc _;have P3:Hi ((U5 w6 nm ta tn tc res b ka km).heap[w6.heap.size]?=some (.cells ([Sv nm,.slice ta tn tc,Iv res,Iv (Qac b.nd).kind,Iv (Qac b.nd).num,.string (bs (Qac b.nd).name),.slice ka (Qac b.nd).kids.length km]).toArray 79 (0,0))):=zzw _ _;have A1:lo<=(U5 w6 nm ta tn tc res b ka km).heap.size:=by have:=dA.o.low;rw[World.size_alloc];omega
   have P2:=Zh dA.o.box;rw[vA];clear aA L2 vA kA jA;refine zU hK S0.o λhH=>?_;clear hK K
   try simp only[zX]
   refine ZT (i:=12) (v:=?vT7_12) rfl (Or.inl ⟨by rfl,?yT7_12⟩) ?_
   case yT7_12=>exact ZyQ
   try simp only[zX]
   refine ZR (rs:=[1,13]) (AllReadyH.cons rfl (λK hK=>?_) (AllReadyH.cons rfl (λK hK=>?_) AllReadyH.nil))
   ·have U0:=P2.o;have b0:=Ja U0 0;simp only[zW]at b0;go_simp;clear b0 U0;refine zU hK S0.o λhH=>?_;clear hK K
    try simp only[zX]
    refine ZS 13 rfl λK hK=>?_;go_simp;replace S0:=Zh (Jf (X:=.cells #[Sv nm,.slice ta tn tc,Iv res,Iv (Qac b.nd).kind,Iv (Qac b.nd).num,.string (bs (Qac b.nd).name),.slice ka (Qac b.nd).kids.length km] 79) S0.o);refine zU hK S0.o λhH=>?_;replace P2:Hi ((U5 w6 nm ta tn tc res b ka km).heap[bx]?=some (.cells #[.slice va vn vc,Nl,Iv S.action] 30 (0,0))):=Jf P2.o;clear hK K
    try simp only[zX]
    refine ZS 14 rfl λK hK=>?_
    (refine Js (U5 w6 nm ta tn tc res b ka km) zr (.tmp 23) (.tmp 35) 27 79 _ 7 104 zr underlying27 QdD rfl zd lo (.slice va vn vc) ((S.funcs.take i).map fnM).length xs [Sv nm,.slice ta tn tc,Iv res,Iv (Qac b.nd).kind,Iv (Qac b.nd).num,.string (bs (Qac b.nd).name),.slice ka (Qac b.nd).kids.length km] zr HOW.o w6.heap.size zr P3.o rfl (by intro u hu;simp at hu;rcases hu with rfl|rfl|rfl|rfl|rfl|rfl|rfl<;>rfl) mA.o zd A1 ?_;intro v7 w7 H0 N1 Q1)
    obtain⟨a7,m7,c7,rfl⟩:=Ji H0;have hst:=R1.step (V':=.slice a7 m7 c7) uA.o gA.o iA.o H0 N1 Q1;replace S0:=Zh ((JK (v:=.slice va vn vc) N1).heap_some (λhm=>by have:=R5.o.2 cb (by simpa using hm);omega) bA.o);replace P2:=Zh hst.2;have D2:=Zh hst.1;clear H0 N1 Q1 hst HOW P3 A1;refine zU hK S0.o λhH=>?_;clear hK K
    try simp only[zX]
    refine ZT (i:=15) (v:=?vT10_15) rfl (Or.inl ⟨by rfl,?yT10_15⟩) ?_
    case yT10_15=>exact ZyQ
    exact QmF
   ·go_simp;replace S0:=Zh (Jf (X:=.cells #[Sv nm,.slice ta tn tc,Iv res,Iv (Qac b.nd).kind,Iv (Qac b.nd).num,.string (bs (Qac b.nd).name),.slice ka (Qac b.nd).kids.length km] 79) S0.o);refine zU hK S0.o λhH=>?_;replace P2:Hi ((U5 w6 nm ta tn tc res b ka km).heap[bx]?=some (.cells #[.slice va vn vc,Nl,Iv S.action] 30 (0,0))):=Jf P2.o;clear hK K
    try simp only[zX]
    refine ZS 1 rfl λK hK=>?_;have U0:=P2.o;have b0:=Ja U0 0;simp only[zW]at b0;go_simp;clear b0 U0;refine zU hK S0.o λhH=>?_;clear hK K
    try simp only[zX]
    refine ZS 14 rfl λK hK=>?_
    (refine Js (U5 w6 nm ta tn tc res b ka km) zr (.tmp 23) (.tmp 35) 27 79 _ 7 104 zr underlying27 QdD rfl zd lo (.slice va vn vc) ((S.funcs.take i).map fnM).length xs [Sv nm,.slice ta tn tc,Iv res,Iv (Qac b.nd).kind,Iv (Qac b.nd).num,.string (bs (Qac b.nd).name),.slice ka (Qac b.nd).kids.length km] zr HOW.o w6.heap.size zr P3.o rfl (by intro u hu;simp at hu;rcases hu with rfl|rfl|rfl|rfl|rfl|rfl|rfl<;>rfl) mA.o zd A1 ?_;intro v7 w7 H0 N1 Q1)
    obtain⟨a7,m7,c7,rfl⟩:=Ji H0;have hst:=R1.step (V':=.slice a7 m7 c7) uA.o gA.o iA.o H0 N1 Q1;replace S0:=Zh ((JK (v:=.slice va vn vc) N1).heap_some (λhm=>by have:=R5.o.2 cb (by simpa using hm);omega) bA.o);replace P2:=Zh hst.2;have D2:=Zh hst.1;clear H0 N1 Q1 hst HOW P3 A1;refine zU hK S0.o λhH=>?_;clear hK K
    try simp only[zX]
    refine ZT (i:=15) (v:=?vT14_15) rfl (Or.inl ⟨by rfl,?yT14_15⟩) ?_
    case yT14_15=>exact ZyQ
    exact QmF
 ·have hil:¬(i:Int)<(S.funcs.length:Int):=zo
  obtain rfl:i=S.funcs.length:=zo
  rw[List.take_length]at xA;have eA:=HS.o.on (Chg.of_below xA.bel []) zp;have b1:wl.cell? ⟨sb,1,none⟩=some (.slice ca S.clauses.length cc):=by rw[Ja eA.box];rw[r8.o];rfl
  have zB:=Zh (xA.next nA.o);clear hi hg xA eA H3 bB hB;go_wp2_with fail;clear b1;go_loopg [44] S.clauses.length λg v44 wr=>∃i:Nat,g+i=S.clauses.length/\v44=Iv i/\Hi (∃U ys,R2 w sb w.heap.size bx lo S.action wr (S.funcs.map fnM) (.slice va vn vc) ((S.clauses.take i).map clM) U ys)
  case atStart=>exact⟨0,rfl,rfl,⟨_,_,zB.o⟩⟩
  case round=>
  clear zB hil;obtain⟨wm,rfl⟩:=zG wr
  obtain⟨i,hg,rfl,xA⟩:=hrel;obtain⟨U,ys,xA⟩:=xA.o;obtain⟨ua,un,uc,rfl⟩:=Ji xA.own
  by_cases hi:i<S.clauses.length
  ·have hil:(i:Int)<(S.clauses.length:Int):=zo
   obtain⟨cn,hA⟩:∃cn,S.clauses[i]?=some cn:=⟨S.clauses[i],List.getElem?_eq_getElem hi⟩
   have qA:=gB.o zo;have hmem:=List.mem_of_getElem? hA;have eA:=HS.o.on (Chg.of_below xA.bel []) zp;obtain⟨fo,hlo⟩:=eA.cok cn hmem;have hcl:=JcS eA hA;have O5:Hi ((S.clauses.take (i+1)).map clM=(S.clauses.take i).map clM++[clM cn]):=by rw[Hi,JF hA];simp
   have mA:Hi (((S.clauses.take i).map clM).length<=100000000):=by rw[Hi,List.length_map,List.length_take];omega
   have j4:=Zh (H4.o cn hmem);have I0:Below wm.heap.size wm (wm.alloc (.cells cn.cells.toArray 125)):=zzb.alloc zzl _;have S0:=Zh (zzw wm (.cells cn.cells.toArray 125));have uA:=Zh (xA.up I0);have zA:Hi (cn.cond.At (wm.alloc (.cells cn.cells.toArray 125))):=JaM fo.at' I0;have NB:Hi (clM cn=⟨Qac cn.cond.nd,cn.action,cn.reason⟩):=rfl;obtain⟨b,ac,rz,kB,jB⟩:=cn;dsimp only at zA NB j4;obtain⟨yA,yn,yc,I4⟩:=Jg b;simp only[ClA.cells,I4,List.cons_append,List.nil_append]at hcl S0 uA zA;have pA:=Zh I4;have c0:=hcl 0 _ rfl;have c1:=hcl 1 _ rfl;have c2:=hcl 2 _ rfl;have c3:=hcl 3 _ rfl;have c4:=hcl 4 _ rfl;have c5:=hcl 5 _ rfl;have c6:=hcl 6 _ rfl;simp only[Nat.add_zero]at c0;have wk:=zI i;have HG:=Zh hg;have R5:Hi (bx<wm.heap.size/\∀g,(Value.slice ua un uc).ownBlock=some g->g<wm.heap.size):=⟨by have:=xA.low;omega,λg hg=>(xA.own.lt g hg).2⟩
   subst qA;clear hcl hA fo hg I4 eA xA I0 hmem hlo;go_upto_region 10 with fail;clear c0 c1 c2 c3 c4 c5 c6;generalize World.alloc wm _=wk0 at*;generalize wm.heap.size=cb at*;refine wp_region_held_drew (S:=λW=>W.heap[cb]?=some (.cells #[Iv b.kind,Iv b.num,.string (bs b.name),Iv b.off,.slice yA yn yc,Iv ac,Sv rz] 125 (0,0))) zk ((((Below.refl wk0.heap.size wk0).drew).block _ (Jb S0.o)).trans S0.o) λhH=>?_;have hD:Below wk0.heap.size wk0 wk0.drew:=(Below.refl wk0.heap.size wk0).drew;replace uA:=Zh (uA.o.up hD);replace zA:Hi (b.At wk0.drew):=JaM zA.o hD;replace S0:=Zh ((hD.block _ (Jb S0.o)).trans S0.o);have jA:=Zh uA.o.box;clear hD;generalize wk0.drew=wk1 at*;refine ZT (i:=0) (v:=?vT16_0) rfl (Or.inl ⟨by rfl,?yT16_0⟩) ?_
   case yT16_0=>exact ZyQ
   try simp only[zX]
   refine ZT (i:=2) (v:=?vT16_2) rfl (Or.inl ⟨by rfl,?yT16_2⟩) ?_
   case yT16_2=>exact ZyQ
   try simp only[zX]
   refine ZT (i:=3) (v:=?vT16_3) rfl (Or.inl ⟨by rfl,?yT16_3⟩) ?_
   case yT16_3=>(intro wX hSw;(try dsimp only at hSw);have p0:=Ja hSw 0;have p1:=Ja hSw 1;have p2:=Ja hSw 2;have p3:=Ja hSw 3;have p4:=Ja hSw 4;simp only[zW]at p0 p1 p2 p3 p4;go_simp<;>with_reducible rfl)
   try simp only[zX]
   refine ZT (i:=5) (v:=?vT16_5) rfl (Or.inl ⟨by rfl,?yT16_5⟩) ?_
   case yT16_5=>exact ZyQ
   try simp only[zX]
   refine ZT (i:=6) (v:=?vT16_6) rfl (Or.inl ⟨by rfl,?yT16_6⟩) ?_
   case yT16_6=>(intro wX hSw;(try dsimp only at hSw);have p5:=Ja hSw 5;simp only[zW]at p5;go_simp<;>with_reducible rfl)
   try simp only[zX]
   refine ZT (i:=7) (v:=?vT16_7) rfl (Or.inl ⟨by rfl,?yT16_7⟩) ?_
   case yT16_7=>exact ZyQ
   try simp only[zX]
   refine ZT (i:=8) (v:=?vT16_8) rfl (Or.inl ⟨by rfl,?yT16_8⟩) ?_
   case yT16_8=>(intro wX hSw;(try dsimp only at hSw);have p6:=Ja hSw 6;simp only[zW]at p6;go_simp<;>with_reducible rfl)
   try simp only[zX]
   refine ZR (rs:=[1,4]) (AllReadyH.cons rfl (λK hK=>?_) (AllReadyH.cons rfl (λK hK=>?_) AllReadyH.nil))
   ·have U0:=jA.o;have b0:=Ja U0 1;simp only[zW]at b0;go_simp;clear b0 U0;refine zU hK S0.o λhH=>?_;clear hK K
    try simp only[zX]
    refine ZS 4 rfl λK hK=>?_;have ci:=VH (siz b.nd) j4.o b _ zzl zA.o;rw[pA.o]at ci
    (go_simp;go_at_call 77;refine ci.mono ?_;intro e w6 h6)
    clear ci;obtain⟨cy,rfl,aA,L2⟩:=h6;obtain⟨ka,km,vA,kA⟩:=aA.form;have sA:=Zh aA;have gA:=Zh L2;have xB:=Zh vA;replace S0:=Zh ((L2.block _ (Jb S0.o)).trans S0.o);have bA:=S0;have dA:=Zh (uA.o.up L2);have iA:Hi (ClX w6 (OkB w sb lo w6 (.slice ua un uc)) ⟨Qac b.nd,ac,rz⟩ [Iv (Qac b.nd).kind,Iv (Qac b.nd).num,.string (bs (Qac b.nd).name),.slice ka (Qac b.nd).kids.length km,Iv ac,Sv rz]):=⟨_,aA.keep (λ_ _=>rfl) (JaX uA.o nA.o),by rw[vA];rfl⟩
    have HOW:Hi ((U6 w6 b ka km ac rz).ownsRow lo 62 6 (.slice ua un uc) ((S.clauses.take i).map clM).length ys):=dA.o.own.alloc _;have P3:Hi ((U6 w6 b ka km ac rz).heap[w6.heap.size]?=some (.cells ([Iv (Qac b.nd).kind,Iv (Qac b.nd).num,.string (bs (Qac b.nd).name),.slice ka (Qac b.nd).kids.length km,Iv ac,Sv rz]).toArray 62 (0,0))):=zzw _ _;have A1:lo<=(U6 w6 b ka km ac rz).heap.size:=by have:=dA.o.low;rw[World.size_alloc];omega
    have P2:=Zh dA.o.box;rw[vA];clear aA L2 vA kA jA;refine zU hK S0.o λhH=>?_;clear hK K
    try simp only[zX]
    refine ZT (i:=9) (v:=?vT18_9) rfl (Or.inl ⟨by rfl,?yT18_9⟩) ?_
    case yT18_9=>exact ZyQ
    try simp only[zX]
    refine ZS 10 rfl λK hK=>?_;go_simp;replace S0:=Zh (Jf (X:=.cells #[Iv (Qac b.nd).kind,Iv (Qac b.nd).num,.string (bs (Qac b.nd).name),.slice ka (Qac b.nd).kids.length km,Iv ac,Sv rz] 62) S0.o);refine zU hK S0.o λhH=>?_;replace P2:Hi ((U6 w6 b ka km ac rz).heap[bx]?=some (.cells #[.slice va vn vc,.slice ua un uc,Iv S.action] 30 (0,0))):=Jf P2.o;clear hK K
    try simp only[zX]
    refine ZS 11 rfl λK hK=>?_
    (refine Js (U6 w6 b ka km ac rz) zr (.tmp 49) (.tmp 58) 28 62 _ 6 80 zr underlying28 Qdt rfl zd lo (.slice ua un uc) ((S.clauses.take i).map clM).length ys [Iv (Qac b.nd).kind,Iv (Qac b.nd).num,.string (bs (Qac b.nd).name),.slice ka (Qac b.nd).kids.length km,Iv ac,Sv rz] zr HOW.o w6.heap.size zr P3.o rfl (by intro u hu;simp at hu;rcases hu with rfl|rfl|rfl|rfl|rfl|rfl<;>rfl) mA.o zd A1 ?_;intro v7 w7 H0 N1 Q1)
    obtain⟨a7,m7,c7,rfl⟩:=Ji H0;have hst:=R2.step (U':=.slice a7 m7 c7) uA.o gA.o iA.o H0 N1 Q1;replace S0:=Zh ((JK (v:=.slice ua un uc) N1).heap_some (λhm=>by have:=R5.o.2 cb (by simpa using hm);omega) bA.o);replace P2:=Zh hst.2;have D2:=Zh hst.1;clear H0 N1 Q1 hst HOW P3 A1;refine zU hK S0.o λhH=>?_;clear hK K
    try simp only[zX]
    refine ZT (i:=12) (v:=?vT20_12) rfl (Or.inl ⟨by rfl,?yT20_12⟩) ?_
    case yT20_12=>exact ZyQ
    exact QmG
   ·have ci:=VH (siz b.nd) j4.o b _ zzl zA.o;rw[pA.o]at ci
    (go_simp;go_at_call 77;refine ci.mono ?_;intro e w6 h6)
    clear ci;obtain⟨cy,rfl,aA,L2⟩:=h6;obtain⟨ka,km,vA,kA⟩:=aA.form;have sA:=Zh aA;have gA:=Zh L2;have xB:=Zh vA;replace S0:=Zh ((L2.block _ (Jb S0.o)).trans S0.o);have bA:=S0;have dA:=Zh (uA.o.up L2);have iA:Hi (ClX w6 (OkB w sb lo w6 (.slice ua un uc)) ⟨Qac b.nd,ac,rz⟩ [Iv (Qac b.nd).kind,Iv (Qac b.nd).num,.string (bs (Qac b.nd).name),.slice ka (Qac b.nd).kids.length km,Iv ac,Sv rz]):=⟨_,aA.keep (λ_ _=>rfl) (JaX uA.o nA.o),by rw[vA];rfl⟩
    have HOW:Hi ((U6 w6 b ka km ac rz).ownsRow lo 62 6 (.slice ua un uc) ((S.clauses.take i).map clM).length ys):=dA.o.own.alloc _;have P3:Hi ((U6 w6 b ka km ac rz).heap[w6.heap.size]?=some (.cells ([Iv (Qac b.nd).kind,Iv (Qac b.nd).num,.string (bs (Qac b.nd).name),.slice ka (Qac b.nd).kids.length km,Iv ac,Sv rz]).toArray 62 (0,0))):=zzw _ _;have A1:lo<=(U6 w6 b ka km ac rz).heap.size:=by have:=dA.o.low;rw[World.size_alloc];omega
    have P2:=Zh dA.o.box;rw[vA];clear aA L2 vA kA jA;refine zU hK S0.o λhH=>?_;clear hK K
    try simp only[zX]
    refine ZT (i:=9) (v:=?vT22_9) rfl (Or.inl ⟨by rfl,?yT22_9⟩) ?_
    case yT22_9=>exact ZyQ
    try simp only[zX]
    refine ZR (rs:=[1,10]) (AllReadyH.cons rfl (λK hK=>?_) (AllReadyH.cons rfl (λK hK=>?_) AllReadyH.nil))
    ·have U0:=P2.o;have b0:=Ja U0 1;simp only[zW]at b0;go_simp;clear b0 U0;refine zU hK S0.o λhH=>?_;clear hK K
     try simp only[zX]
     refine ZS 10 rfl λK hK=>?_;go_simp;replace S0:=Zh (Jf (X:=.cells #[Iv (Qac b.nd).kind,Iv (Qac b.nd).num,.string (bs (Qac b.nd).name),.slice ka (Qac b.nd).kids.length km,Iv ac,Sv rz] 62) S0.o);refine zU hK S0.o λhH=>?_;replace P2:Hi ((U6 w6 b ka km ac rz).heap[bx]?=some (.cells #[.slice va vn vc,.slice ua un uc,Iv S.action] 30 (0,0))):=Jf P2.o;clear hK K
     try simp only[zX]
     refine ZS 11 rfl λK hK=>?_
     (refine Js (U6 w6 b ka km ac rz) zr (.tmp 49) (.tmp 58) 28 62 _ 6 80 zr underlying28 Qdt rfl zd lo (.slice ua un uc) ((S.clauses.take i).map clM).length ys [Iv (Qac b.nd).kind,Iv (Qac b.nd).num,.string (bs (Qac b.nd).name),.slice ka (Qac b.nd).kids.length km,Iv ac,Sv rz] zr HOW.o w6.heap.size zr P3.o rfl (by intro u hu;simp at hu;rcases hu with rfl|rfl|rfl|rfl|rfl|rfl<;>rfl) mA.o zd A1 ?_;intro v7 w7 H0 N1 Q1)
     obtain⟨a7,m7,c7,rfl⟩:=Ji H0;have hst:=R2.step (U':=.slice a7 m7 c7) uA.o gA.o iA.o H0 N1 Q1;replace S0:=Zh ((JK (v:=.slice ua un uc) N1).heap_some (λhm=>by have:=R5.o.2 cb (by simpa using hm);omega) bA.o);replace P2:=Zh hst.2;have D2:=Zh hst.1;clear H0 N1 Q1 hst HOW P3 A1;refine zU hK S0.o λhH=>?_;clear hK K
     try simp only[zX]
     refine ZT (i:=12) (v:=?vT25_12) rfl (Or.inl ⟨by rfl,?yT25_12⟩) ?_
     case yT25_12=>exact ZyQ
     exact QmG
    ·go_simp;replace S0:=Zh (Jf (X:=.cells #[Iv (Qac b.nd).kind,Iv (Qac b.nd).num,.string (bs (Qac b.nd).name),.slice ka (Qac b.nd).kids.length km,Iv ac,Sv rz] 62) S0.o);refine zU hK S0.o λhH=>?_;replace P2:Hi ((U6 w6 b ka km ac rz).heap[bx]?=some (.cells #[.slice va vn vc,.slice ua un uc,Iv S.action] 30 (0,0))):=Jf P2.o;clear hK K
     try simp only[zX]
     refine ZS 1 rfl λK hK=>?_;have U0:=P2.o;have b0:=Ja U0 1;simp only[zW]at b0;go_simp;clear b0 U0;refine zU hK S0.o λhH=>?_;clear hK K
     try simp only[zX]
     refine ZS 11 rfl λK hK=>?_
     (refine Js (U6 w6 b ka km ac rz) zr (.tmp 49) (.tmp 58) 28 62 _ 6 80 zr underlying28 Qdt rfl zd lo (.slice ua un uc) ((S.clauses.take i).map clM).length ys [Iv (Qac b.nd).kind,Iv (Qac b.nd).num,.string (bs (Qac b.nd).name),.slice ka (Qac b.nd).kids.length km,Iv ac,Sv rz] zr HOW.o w6.heap.size zr P3.o rfl (by intro u hu;simp at hu;rcases hu with rfl|rfl|rfl|rfl|rfl|rfl<;>rfl) mA.o zd A1 ?_;intro v7 w7 H0 N1 Q1)
     obtain⟨a7,m7,c7,rfl⟩:=Ji H0;have hst:=R2.step (U':=.slice a7 m7 c7) uA.o gA.o iA.o H0 N1 Q1;replace S0:=Zh ((JK (v:=.slice ua un uc) N1).heap_some (λhm=>by have:=R5.o.2 cb (by simpa using hm);omega) bA.o);replace P2:=Zh hst.2;have D2:=Zh hst.1;clear H0 N1 Q1 hst HOW P3 A1;refine zU hK S0.o λhH=>?_;clear hK K
     try simp only[zX]
     refine ZT (i:=12) (v:=?vT29_12) rfl (Or.inl ⟨by rfl,?yT29_12⟩) ?_
     case yT29_12=>exact ZyQ
     exact QmG
  ·have hil:¬(i:Int)<(S.clauses.length:Int):=zo
   obtain rfl:i=S.clauses.length:=zo
   rw[List.take_length]at xA;have uA:=Zh xA;have U0:=xA.box;have Q0:=xA.res;have b0:=Ja U0 0;have b1:=Ja U0 1;have b2:=Ja U0 2;have z0:=Ja Q0 0;have z1:=Ja Q0 1;have z2:=Ja Q0 2;simp only[zW]at b0 b1 b2 z0 z1 z2;have y0:=Jc Q0 0;have y1:=Jc Q0 1;have y2:=Jc Q0 2;clear hi hg xA U0 Q0;go_wp2;refine bodyPost_ret (v:=.agg #[.slice va vn vc,.slice ua un uc,Iv S.action]) (results_cell_row rfl _ _ w.heap.size 30 _ (0,0) _ rfl (QkG _ _ _ uA.o.res) underlying30 rfl QgS) rfl ?_;rw[HR.o,Jhm];obtain⟨e1,e2⟩:=uA.o.fin nA.o;exact⟨_,rfl,e1,e2⟩
end Go.Proofs.YtncanmdgdflnpaaGreatDoor


