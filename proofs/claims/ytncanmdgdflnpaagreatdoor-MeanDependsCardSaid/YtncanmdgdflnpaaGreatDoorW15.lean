
import Derived.Test.YtncanmdgdflnpaaGreatDoorW14
namespace Go.Proofs.YtncanmdgdflnpaaGreatDoor
open Go.ChangeShapes Go.WideShapes Go.ChangeAt Go.RowKit Go.Lib
open _root_.Go.Proofs.Tryz
set_option linter.all false
set_option maxRecDepth 100000
set_option maxHeartbeats 32000000
theorem Jaa (fs vars:List (List UInt8)) (k n:Int) (s:List UInt8) (o:Int) (b c:Nat) (l:List An):resA fs vars (.mk k n s o b c l) =
  if k=2 then .mk k (lastIx vars s) [] o b c (resAL fs vars l)
  else if k=20 then .mk k ((firstIx fs s).getD 0:Nat) [] o b c (resAL fs vars l)
  else if k=19 then
   match l with
   | [x,y]=>.mk k vars.length [] o b c [resA fs vars x,resA fs (vars++[s]) y]
   | l=>.mk k n s o b c l
  else .mk k n s o b c (resAL fs vars l):=by
 conv=>lhs; unfold resA
 rfl
structure HdI (fs:List (List UInt8)) (rb:Nat) (t:TypeId) (mb mn:Nat) (w W:World) (q o:Nat) (x1:Option Int) (vv:Value) (vars:List (List UInt8)) (g b c:Nat) (l:List An) (k off n':Int) (s':List UInt8):Prop where
 node:NodeAt W q o (.mk k n' s' off b c l)
 flt:FltAt W rb t x1 (.map (some mb))
 map:SMapAt W mb mn (fun s=>firstIx fs s)
 vars:VarsAt W vv vars g
 chg:ChgC (ResC q o rb (if l=[] then [] else b::footL l)) w W
section
variable {fs:List (List UInt8)} {rb:Nat} {t:TypeId} {mb mn:Nat} {w W W':World} {q o:Nat} {x1:Option Int} {vv:Value} {vars:List (List UInt8)} {g b c:Nat} {l:List An} {k off n':Int} {s':List UInt8}
theorem NodeAt.lt {a:An} (h:NodeAt W q o a):q<W.heap.size:=by
 obtain ⟨xA,xn,xc,hcf⟩:=Jg a;exact World.block_lt_of_cell? (a:=⟨q,o+0,none⟩) W (h.cells 0 (.int .i64 a.kind) (by rw[hcf]; rfl))
theorem HdI.over (h:HdI fs rb t mb mn w W q o x1 vv vars g b c l k off n' s') (hA:Apart q rb g mb b vars l) {P:Nat→Nat→Prop} (hc:ChgC P W W') (hp:∀ d j,P d j→d=q∧o≤j∧j<o+5) {n2:Int} {s2:List UInt8} (hcell:∀ j u,(cellsN (.mk k n2 s2 off b c l)).toList[j]?=some u→W'.cell? ⟨q,o+j,none⟩=some u):HdI fs rb t mb mn w W' q o x1 vv vars g b c l k off n2 s2:=by
 refine ⟨h.node.head ?_ n2 s2 hcell (hc.mono fun d j _ hj=>(hp d j hj).1),h.flt.chgC hc (fun j hj=>hA.ra.2.2 (hp _ _ hj).1),h.map.same (hc.block mb h.map.lt fun j hj=>hA.ma.2.2.1 (hp _ _ hj).1),h.vars.chgC hc (fun hv j hj=>(hA.ga hv).2.2.1 (hp _ _ hj).1),h.chg.step hc fun d j hj=>.inl (.inl (hp d j hj))⟩
 by_cases e:l=[]
 ·rw[if_pos e]; simp
 ·rw[if_neg e];simp only[List.mem_cons,not_or];exact ⟨hA.qa.2 e,hA.qa.1⟩
theorem HdI.setN (h:HdI fs rb t mb mn w W q o x1 vv vars g b c l k off n' s') (hA:Apart q rb g mb b vars l) (u:Int):HdI fs rb t mb mn w (W.setCell ⟨q,o+1,none⟩ (.int .i64 u)) q o x1 vv vars g b c l k off u s':=by
 obtain ⟨cs,ty,fr,hb⟩:=VB (h.node.cells 0 (.int .i64 k) rfl) trivial;refine h.over hA (P:=fun d j=>d=q∧j=o+1) (ChgC.set hb ⟨rfl,rfl⟩ _) (fun d j hj=>⟨hj.1,by omega⟩) fun j v hj=>?_
 by_cases e:j=1
 ·subst e;rw[World.cell?_setCell_same W _ _ (h.node.cells 1 (.int .i64 n') rfl)];simpa[cellsN] using hj
 ·rw[World.cell?_setCell_other _ _ _ _ (by intro e'; injection e' with _ e2; omega)];refine h.node.cells j v ?_
  match j,e with
  | 0,_=>exact hj
  | j+2,_=>exact hj
theorem HdI.setS (h:HdI fs rb t mb mn w W q o x1 vv vars g b c l k off n' s') (hA:Apart q rb g mb b vars l) (u:List UInt8):HdI fs rb t mb mn w (W.setCell ⟨q,o+2,none⟩ (.string (bs u))) q o x1 vv vars g b c l k off n' u:=by
 obtain ⟨cs,ty,fr,hb⟩:=VB (h.node.cells 0 (.int .i64 k) rfl) trivial;refine h.over hA (P:=fun d j=>d=q∧j=o+2) (ChgC.set hb ⟨rfl,rfl⟩ _) (fun d j hj=>⟨hj.1,by omega⟩) fun j v hj=>?_
 by_cases e:j=2
 ·subst e;rw[World.cell?_setCell_same W _ _ (h.node.cells 2 (.string (bs s')) rfl)];simpa[cellsN] using hj
 ·rw[World.cell?_setCell_other _ _ _ _ (by intro e'; injection e' with _ e2; omega)];refine h.node.cells j v ?_
  match j,e with
  | 0,_=>exact hj
  | 1,_=>exact hj
  | j+3,_=>exact hj
theorem HdI.below (h:HdI fs rb t mb mn w W q o x1 vv vars g b c l k off n' s') (hb:Below W.heap.size W W'):HdI fs rb t mb mn w W' q o x1 vv vars g b c l k off n' s':=
 ⟨⟨fun j u hj=>(hb.cell (World.block_lt_of_cell? _ _ (h.node.cells j u hj))).trans (h.node.cells j u hj),fun j=>(World.frozen?_of_block (a:=⟨q,j,none⟩) (hb.block q h.node.lt)).trans (h.node.frz j),JaM h.node.at' hb⟩,(hb.block _ (Jb h.flt)).trans h.flt,h.map.same (hb.block mb h.map.lt),h.vars.chgC (ChgC.of_below (P:=fun _ _=>False) hb) (fun _ _ hj=>hj),h.chg.trans (ChgC.of_below hb)⟩
theorem HdI.add {e:Ending} {y:Int} (h:HdI fs rb t mb mn w W q o x1 vv vars g b c l k off n' s') (hA:Apart q rb g mb b vars l) (ha:AddP W rb t (addF x1 y) (.map (some mb)) e W'):HdI fs rb t mb mn w W' q o (addL x1 [y]) vv vars g b c l k off n' s':=by
 obtain ⟨_,hf,hc⟩:=ha;have hcc:=JbY h.flt hf hc
 have hat:(An.mk k n' s' off b c l).At W':=VW hcc _ h.node.at' fun d hd j hj=>by
  rw[Kt] at hd
  by_cases e:l=[]
  ·rw[if_pos e] at hd; cases hd
  ·rw[if_neg e] at hd;rw[hj.1] at hd
   rcases List.mem_cons.1 hd with h1 | h1
   ·exact hA.ra.2.1 e h1
   ·exact hA.ra.1 h1
 exact ⟨⟨fun j u hj=>(hcc.cell q (o+j) h.node.lt (fun hj=>hA.ra.2.2 hj.1.symm)).trans (h.node.cells j u hj),fun j=>(hcc.frz q j h.node.lt).trans (h.node.frz j),hat⟩,hf,h.map.same (hcc.block mb h.map.lt fun j hj=>hA.ma.2.2.2 hj.1),h.vars.chgC hcc (fun hv j hj=>(hA.ga hv).2.2.2 hj.1),h.chg.step hcc fun d j hj=>.inl (.inr (.inr hj.1))⟩
theorem HdI.kid (h:HdI fs rb t mb mn w W q o x1 vv vars g b c l k off n' s') {pc:Array Value} (hp:pc=cellsN (.mk k n' s' off b c l)):KidI fs rb t mb mn w W q o x1 vv vars g b l pc 0:=KidI.start h.node hp h.flt h.map h.vars h.chg
theorem ResPre.hd {x:Option Int} {n:Int} {s:List UInt8} (h:ResPre fs rb t mb mn W q o x vv vars g (.mk k n s off b c l)):HdI fs rb t mb mn W W q o x vv vars g b c l k off n s:=⟨h.node,h.flt,h.map,h.vars,ChgC.refl _ _⟩
theorem JeQ:kidsV b c (resAL fs vars l)=kidsV b c l:=by
 cases l with
 | nil=>simp[resAL]
 | cons x r=>simp[kidsV,JaR]
end
theorem wx5 {P:Prop}(h:P:=by
  clear HK;obtain ⟨wl,rfl⟩:∃ wl:World,wl=wr:=⟨_,rfl⟩
  obtain ⟨i,hg,rfl,hI⟩:=hrel
  by_cases hi:i<l.length
  ·have hil:(i:Int)<(l.length:Int):=by omega
   obtain ⟨y,hy⟩:∃ y,l[i]?=some y:=⟨l[i],List.getElem?_eq_getElem hi⟩
   have hmem:=List.mem_of_getElem? hy;have had':ad=some ⟨b,0,none⟩:=HAD.out (List.ne_nil_of_mem hmem);have cx:=IH y vars _ g b (i*5) _ wl (Nat.le_trans (JH hmem) HSZ.out) (by omega) (hI.out.pre HA.out hy HWL.out);have c4:=hI.out.par 4 _ rfl;have wk:IntKind.i64.wrap ((i:Int)+1)=(i:Int)+1:=IntWalk.i64_in _ (by omega);have HST:=Zh (fun e W' hr=>hI.out.step (e:=e) (W':=W') HA.out hy hr);have HG:=Zh hg;subst had';clear hg hy hmem hI HAD IH;go_wp2_with fail;refine cx.mono ?_;intro e w2 hr;have hst:=HST.out _ _ hr;obtain rfl:=hr.1;have HK2:=Zh hst;clear hst hr cx HST c4;go_wp2;go_roundg (l.length-(i+1))
   case measure=>have:=HG.out; omega
   case rel=>exact ⟨i+1,by omega,by go_num,HK2⟩
  ·have hil:¬ (i:Int)<(l.length:Int):=by omega
   obtain rfl:i=l.length:=by omega
   clear hi hg IH;go_wp2;go_end0;rw[HR.out];obtain ⟨e1,e2',e3⟩:=hI.out.done (HCR.out _ _).symm
   exact HFIN.out _ e1 e2' e3):P:=h
theorem wx95 {P:Prop}(h:P:=by
  show #[_,_,_,_,kidsV b c (resAL fs vars l)]=_
  rw[JeQ,hkv]):P:=h
theorem JeR (fs:List (List UInt8)) (rb:Nat) (t:TypeId) (mb mn:Nat) (hfs:fs.length≤1000000000) (n:Nat)
  (IH:∀ (y:An) (vars':List (List UInt8)) (vv':Value) (g' q' o':Nat) (x':Option Int) (W:World),siz y.nd≤n→n+vars'.length≤1000000000→ResPre fs rb t mb mn W q' o' x' vv' vars' g' y→Calls prog 75 #[.pointer (some ⟨rb,0,none⟩),.pointer (some ⟨q',o',none⟩),vv'] W (ResP fs rb t mb W q' o' x' vars' y))
  (a:An) (vars:List (List UInt8)) (vv:Value) (g q o:Nat) (x:Option Int) (w:World) (hn:siz a.nd≤n+1) (hb:n+1+vars.length≤1000000000) (hpre:ResPre fs rb t mb mn w q o x vv vars g a) (hk2:a.kind≠2) (hk20:a.kind≠20) (hk19:a.kind≠19) :
  Calls prog 75 #[.pointer (some ⟨rb,0,none⟩),.pointer (some ⟨q,o,none⟩),vv] w (ResP fs rb t mb w q o x vars a):=by
 obtain ⟨k,nn,s,off,b,c,l⟩:=a;simp only[An.kind] at hk2 hk20 hk19;obtain ⟨R,hR⟩:∃ R,ResP fs rb t mb w q o x vars (.mk k nn s off b c l)=R:=⟨_,rfl⟩
 rw[hR];have HR:Hid (R=ResP fs rb t mb w q o x vars (.mk k nn s off b c l)):=hR.symm;have hA:=Yk hpre;have hH:=hpre.hd;rw[YK] at hn;have hwf:=hpre.wf;unfold An.nd WfN at hwf;obtain ⟨h19,_,_,hsl,hwl⟩:=hwf;obtain ⟨ad,cc,hkv,had⟩:=Jn b c l
 have hcs:∀ n' s',cellsN (.mk k n' s' off b c l)=#[.int .i64 k,.int .i64 n',.string (bs s'),.int .i64 off,.slice ad l.length cc]:=fun n' s'=>by
  show #[_,_,_,_,kidsV b c l]=_
  rw[hkv]
 have hcr:∀ n' s',cellsN (.mk k n' s' off b c (resAL fs vars l))=#[.int .i64 k,.int .i64 n',.string (bs s'),.int .i64 off,.slice ad l.length cc]:=fun n' s'=>by
  exact wx95
 obtain ⟨va,vc,rfl,hvc,hvr⟩:=hpre.vars;have HVR:=Zh hvr;have HAD:=Zh had;have HCS:=Zh hcs;have HCR:=Zh hcr;have HWL:=Zh hwl;have HSL:=Zh hsl;have HH:=Zh hH;have HA:=Zh hA;have HSZ:Hid (sizL (ndL l)≤n):=by rw[Hid]; omega
 have hlen:l.length≤n:=by have:=Jw l; omega
 have H19:Hid (k=19→l.length=2):=fun e=>by have:=h19 e; rwa [J7,List.length_map] at this
 have hne1:rb≠q:=hA.ra.2.2;have hne2:q≠rb:=Ne.symm hne1;have HFN:Hid (foot (.mk k nn s off b c l)=if l=[] then [] else b::footL l):=Kt k nn s off b c l;have hc:=hH.node.cells;rw[hcs] at hc;have d0:=hc 0 _ rfl;simp only[Nat.add_zero] at d0;clear hpre hR hA hH h19 hsl hwl hkv had hcs hcr hvr hc hn;have e2:(k==2)=false:=zzq hk2;have e20:(k==20)=false:=zzq hk20;have e19:(k==19)=false:=zzq hk19
 have HFIN:Hid (∀ W,NodeAt W q o (.mk k nn s off b c (resAL fs vars l))→FltAt W rb t (addL x (resL fs vars (ndL l)).2) (.map (some mb))→ChgC (ResC q o rb (if l=[] then [] else b::footL l)) w W→ResP fs rb t mb w q o x vars (.mk k nn s off b c l) (.returned (.tuple #[])) W):=by
  intro W h1 h2 h3;have hr:resA fs vars (.mk k nn s off b c l)=.mk k nn s off b c (resAL fs vars l):=by rw[Jaa,if_neg hk2,if_neg hk20,if_neg hk19]
  refine ⟨rfl,by rw[hr]; exact h1,?_,by rw[HFN.out]; exact h3⟩;rw[An.nd,K2,if_neg hk2,if_neg hk20,if_neg hk19];exact h2
 clear hk2 hk20 hk19 HSL H19 HVR HFN hvc;go_enter func75,ntmps75;have c1:True:=trivial;have HK:Hid (KidI fs rb t mb mn w w q o (x) (.slice va vars.length vc) vars g b l #[.int .i64 k,.int .i64 nn,.string (bs s),.int .i64 off,.slice ad l.length cc] 0):=HH.out.kid (HCS.out _ _).symm;have c4:=HK.out.par 4 _ rfl;clear HH HCS;go_wp2_with fail;clear c4;go_loopg [136] l.length (fun gg v136 wr=>∃ i:Nat,gg+i=l.length∧v136=.int .i64 i∧Hid (KidI fs rb t mb mn w wr q o (x) (.slice va vars.length vc) vars g b l #[.int .i64 k,.int .i64 nn,.string (bs s),.int .i64 off,.slice ad l.length cc] i))
 case atStart=>exact ⟨0,rfl,rfl,HK⟩
 case round=>
 exact wx5
theorem JgY (fs:List (List UInt8)) (rb:Nat) (t:TypeId) (mb mn:Nat) (hfs:fs.length≤1000000000) (n:Nat)
  (IH:∀ (y:An) (vars':List (List UInt8)) (vv':Value) (g' q' o':Nat) (x':Option Int) (W:World),siz y.nd≤n→n+vars'.length≤1000000000→ResPre fs rb t mb mn W q' o' x' vv' vars' g' y→Calls prog 75 #[.pointer (some ⟨rb,0,none⟩),.pointer (some ⟨q',o',none⟩),vv'] W (ResP fs rb t mb W q' o' x' vars' y))
  (a:An) (vars:List (List UInt8)) (vv:Value) (g q o:Nat) (x:Option Int) (w:World) (hn:siz a.nd≤n+1) (hb:n+1+vars.length≤1000000000) (hpre:ResPre fs rb t mb mn w q o x vv vars g a) (hk:a.kind=2) :
  Calls prog 75 #[.pointer (some ⟨rb,0,none⟩),.pointer (some ⟨q,o,none⟩),vv] w (ResP fs rb t mb w q o x vars a):=by
 obtain ⟨k,nn,s,off,b,c,l⟩:=a;simp only[An.kind] at hk;obtain ⟨R,hR⟩:∃ R,ResP fs rb t mb w q o x vars (.mk k nn s off b c l)=R:=⟨_,rfl⟩
 rw[hR];have HR:Hid (R=ResP fs rb t mb w q o x vars (.mk k nn s off b c l)):=hR.symm;have hA:=Yk hpre;have hH:=hpre.hd;rw[YK] at hn;have hwf:=hpre.wf;unfold An.nd WfN at hwf;obtain ⟨h19,_,_,hsl,hwl⟩:=hwf;obtain ⟨ad,cc,hkv,had⟩:=Jn b c l
 have hcs:∀ n' s',cellsN (.mk k n' s' off b c l)=#[.int .i64 k,.int .i64 n',.string (bs s'),.int .i64 off,.slice ad l.length cc]:=fun n' s'=>by
  show #[_,_,_,_,kidsV b c l]=_
  rw[hkv]
 have hcr:∀ n' s',cellsN (.mk k n' s' off b c (resAL fs vars l))=#[.int .i64 k,.int .i64 n',.string (bs s'),.int .i64 off,.slice ad l.length cc]:=fun n' s'=>by
  exact wx95
 obtain ⟨va,vc,rfl,hvc,hvr⟩:=hpre.vars;have HVR:=Zh hvr;have HAD:=Zh had;have HCS:=Zh hcs;have HCR:=Zh hcr;have HWL:=Zh hwl;have HSL:=Zh hsl;have HH:=Zh hH;have HA:=Zh hA;have HSZ:Hid (sizL (ndL l)≤n):=by rw[Hid]; omega
 have hlen:l.length≤n:=by have:=Jw l; omega
 have H19:Hid (k=19→l.length=2):=fun e=>by have:=h19 e; rwa [J7,List.length_map] at this
 have hne1:rb≠q:=hA.ra.2.2;have hne2:q≠rb:=Ne.symm hne1;have HFN:Hid (foot (.mk k nn s off b c l)=if l=[] then [] else b::footL l):=Kt k nn s off b c l;have hc:=hH.node.cells;rw[hcs] at hc;have d0:=hc 0 _ rfl;simp only[Nat.add_zero] at d0;clear hpre hR hA hH h19 hsl hwl hkv had hcs hcr hvr hc hn;subst hk;have e2:((2:Int)==2)=true:=by decide
 have HFIN:Hid (∀ W,NodeAt W q o (.mk 2 (lastIx vars s) [] off b c (resAL fs vars l))→FltAt W rb t (addL (addL x (if lastIx vars s<0 then [off] else [])) (resL fs vars (ndL l)).2) (.map (some mb))→ChgC (ResC q o rb (if l=[] then [] else b::footL l)) w W→ResP fs rb t mb w q o x vars (.mk 2 nn s off b c l) (.returned (.tuple #[])) W):=by
  intro W h1 h2 h3;have hr:resA fs vars (.mk 2 nn s off b c l)=.mk 2 (lastIx vars s) [] off b c (resAL fs vars l):=by rw[Jaa,if_pos rfl]
  refine ⟨rfl,by rw[hr]; exact h1,?_,by rw[HFN.out]; exact h3⟩;rw[An.nd,K2,if_pos rfl];dsimp only;rw[Jt];exact h2
 clear HSL H19 HFN;have hl0:=VC s vars.length vars rfl;have wv:IntKind.i64.wrap ((vars.length:Int)-1)=(vars.length:Int)-1:=IntWalk.i64_in _ (by omega);have HH2:=Zh (HH.out.setN HA.out ((vars.length:Int)-1));have hc1:=HH.out.node.cells 1 (.int .i64 nn) rfl;have hf1:=HH.out.node.frz (o+1);have hlq:=HH.out.node.lt;have HLX:Hid (lastIx vars s=lastIx (vars.take vars.length) s):=by rw[Hid,List.take_length]
 clear HH;go_enter func75,ntmps75;go_wp2_with fail;clear hc1 hf1 hlq;generalize World.setCell w _ _=w1 at *;go_loopg [] vars.length (fun m wr=>m≤vars.length∧Hid (HdI fs rb t mb mn w wr q o x (.slice va vars.length vc) vars g b c l 2 off ((m:Int)-1) s)∧Hid (lastIx vars s=lastIx (vars.take m) s))
 case atStart=>exact ⟨Nat.le_refl _,HH2,HLX⟩
 case round=>
 clear HH2 HLX;obtain ⟨wl,rfl⟩:∃ wl:World,wl=wr:=⟨_,rfl⟩
 obtain ⟨hm,hI,hx⟩:=hrel;have hD:Below wl.heap.size wl wl.drew:=(Below.refl wl.heap.size wl).drew;have HI:=Zh (hI.out.below hD);clear hD;have c1:wl.cell? ⟨q,o+1,none⟩=some (.int .i64 ((gk:Int)-1)):=hI.out.node.cells 1 _ rfl;have c2:wl.cell? ⟨q,o+2,none⟩=some (.string (bs s)):=hI.out.node.cells 2 _ rfl;have c3:wl.cell? ⟨q,o+3,none⟩=some (.int .i64 off):=hI.out.node.cells 3 _ rfl;have f1:=hI.out.node.frz (o+1);have f2:=hI.out.node.frz (o+2);have hlq:=hI.out.node.lt;have hv:=hI.out.vars;have HX:=Zh hx.out
 cases gk with
 | zero=>
  have dn:((((0:Nat):Int)-1):Int) = -1:=by omega
  rw[dn] at c1 HI;have HL:Hid (lastIx vars s = -1):=by rw[Hid,HX.out]; rfl
  rw[HL.out,if_pos (by decide)] at HFIN;clear HX dn hI hx hv hl0 HL;go_upto_region 3 with fail;go_region;go_upto_region 6 with fail;clear c1 c2 c3 f1 f2 hlq;generalize wl.drew=w2 at *;have hD2:Below w2.heap.size w2 w2.drew:=(Below.refl w2.heap.size w2).drew;replace HI:=Zh (HI.out.below hD2);clear hD2;refine wp_region_held_drew (S:=fun _=>True) (by kernel_rfl) (trivial) (fun hH=>?_);refine ZT (i:=0) (v:=?vT1_0) rfl (Or.inl ⟨by rfl,?yT1_0⟩) ?_
  case yT1_0=>exact ZyQ
  try simp only[Act.put,ZA,ZB,ZC]
  refine ZT (i:=1) (v:=?vT1_1) rfl (Or.inl ⟨by rfl,?yT1_1⟩) ?_
  case yT1_1=>exact ZyQ
  try simp only[Act.put,ZA,ZB,ZC]
  refine ZT (i:=2) (v:=?vT1_2) rfl (Or.inl ⟨by rfl,?yT1_2⟩) ?_
  case yT1_2=>exact ZyQ
  try simp only[Act.put,ZA,ZB,ZC]
  refine ZT (i:=3) (v:=?vT1_3) rfl (Or.inl ⟨by rfl,?yT1_3⟩) ?_
  case yT1_3=>exact ZyQ
  try simp only[Act.put,ZA,ZB,ZC]
  refine ZT (i:=4) (v:=?vT1_4) rfl (Or.inl ⟨by rfl,?yT1_4⟩) ?_
  case yT1_4=>exact ZyQ
  try simp only[Act.put,ZA,ZB,ZC]
  refine ZT (i:=5) (v:=?vT1_5) rfl (Or.inl ⟨by rfl,?yT1_5⟩) ?_
  case yT1_5=>exact ZyQ
  try simp only[Act.put,ZA,ZB,ZC]
  refine ZS 6 rfl (fun K hK=>?_);have c3:=HI.out.node.cells 3 (Value.int .i64 off) rfl;go_simp;clear c3;refine hK.out _ _ trivial (fun hH=>?_);clear hK K
  try simp only[Act.put,ZA,ZB,ZC]
  refine ZS 7 rfl (fun K hK=>?_)
  (go_simp; go_at_call 73; refine (Vo _ rb t (x) (.map (some mb)) off HI.out.flt).mono ?_; intro e w3 h3)
  have hst:=HI.out.add HA.out h3;obtain rfl:=h3.1;replace HI:=Zh hst;clear h3 hst;refine hK.out _ _ trivial (fun hH=>?_);clear hK K
  try simp only[Act.put,ZA,ZB,ZC]
  refine wpAnyH_done (by kernel_rfl) ?_ _;have c2:=HI.out.node.cells 2 (Value.string (bs s)) rfl;have f2:=HI.out.node.frz (o+2);have hlq:=HI.out.node.lt;have HS:Hid (HdI fs rb t mb mn w (w3.setCell ⟨q,o+2,none⟩ (.string ⟨#[]⟩)) q o (addL x [off]) (.slice va vars.length vc) vars g b c l 2 off (-1) []):=HI.out.setS HA.out [];clear HI;go_upto_region 17 with fail;clear c2 f2 hlq;generalize World.setCell w3 _ _=w4 at *;have HH:=HS;clear HS;have HK:Hid (KidI fs rb t mb mn w w4 q o (addL x [off]) (.slice va vars.length vc) vars g b l #[.int .i64 2,.int .i64 (-1),.string (bs []),.int .i64 off,.slice ad l.length cc] 0):=HH.out.kid (HCS.out _ _).symm;have c4:=HK.out.par 4 _ rfl;clear HH HCS;go_wp2_with fail;clear c4;go_loopg [136] l.length (fun gg v136 wr=>∃ i:Nat,gg+i=l.length∧v136=.int .i64 i∧Hid (KidI fs rb t mb mn w wr q o (addL x [off]) (.slice va vars.length vc) vars g b l #[.int .i64 2,.int .i64 (-1),.string (bs []),.int .i64 off,.slice ad l.length cc] i))
  case atStart=>exact ⟨0,rfl,rfl,HK⟩
  case round=>
  exact wx5
 | succ m=>
  have dm:(((m+1:Nat):Int)-1)=(m:Int):=by omega
  rw[dm] at c1 HI;have wk:IntKind.i64.wrap ((m:Int)-1)=(m:Int)-1:=IntWalk.i64_in _ (by omega);have hml:m<vars.length:=by omega
  have hmi:(m:Int)<(vars.length:Int):=by omega
  have hm0:(m:Int)≥0:=by omega
  obtain ⟨u,hu⟩:∃ u,vars[m]?=some u:=⟨vars[m],List.getElem?_eq_getElem hml⟩
  obtain ⟨va',vc',hv1,hv2,hv3⟩:=hv;injection hv1 with hva _ hvcc;have hvn:vars≠[]:=by intro e; rw[e] at hml; exact absurd hml (by simp)
  obtain ⟨g1,g2⟩:=hv3 hvn;have cg:=g2 m u hu;rw[← hva] at g1;subst g1;have hlx:=JbZ s hu;rw[← HX.out] at hlx;have HN:=Zh (HI.out.setN HA.out ((m:Int)-1));have t1:=Jk u;have t2:=Jk s;clear HX hI hx hva hvcc hv2 hv3 g2 hu hvn dm
  by_cases hus:u=s
  ·subst hus;rw[if_pos rfl] at hlx;rw[hlx,if_neg (by omega),JcQ] at HFIN;have q1:(u==u)=true:=by simp
   have q2:(u !=u)=false:=by simp
   have hlt0:¬ ((m:Int)<0):=by omega
   have HS:Hid (HdI fs rb t mb mn w ((wl.setCell ⟨q,o+2,none⟩ (.string ⟨#[]⟩)).drew) q o x (.slice (some ⟨g,0,none⟩) vars.length vc) vars g b c l 2 off (m:Int) []):=HI.out.setS HA.out [];clear hlx HN hl0 HI;go_upto_region 3 with fail;go_region;go_upto_region 7 with fail;go_upto_region 17 with fail;clear c1 c2 c3 f1 f2 hlq cg t1 t2 q1 q2;generalize World.drew (World.setCell wl _ _)=w2 at *;have HH:=HS;clear HS;have HK:Hid (KidI fs rb t mb mn w w2 q o (x) (.slice (some ⟨g,0,none⟩) vars.length vc) vars g b l #[.int .i64 2,.int .i64 (m:Int),.string (bs []),.int .i64 off,.slice ad l.length cc] 0):=HH.out.kid (HCS.out _ _).symm;have c4:=HK.out.par 4 _ rfl;clear HH HCS;go_wp2_with fail;clear c4;go_loopg [136] l.length (fun gg v136 wr=>∃ i:Nat,gg+i=l.length∧v136=.int .i64 i∧Hid (KidI fs rb t mb mn w wr q o (x) (.slice (some ⟨g,0,none⟩) vars.length vc) vars g b l #[.int .i64 2,.int .i64 (m:Int),.string (bs []),.int .i64 off,.slice ad l.length cc] i))
   case atStart=>exact ⟨0,rfl,rfl,HK⟩
   case round=>
   exact wx5
  ·rw[if_neg hus] at hlx;have HL:=Zh hlx;have q1:(u==s)=false:=zzq hus;have q2:(u !=s)=true:=bne_iff_ne.2 hus;clear hlx hus;go_upto_region 3 with fail;go_region;go_wp2_with fail;go_roundg m
   case measure=>exact Nat.lt_succ_self _
   case rel=>exact ⟨by omega,HN,HL⟩
theorem JeS (fs:List (List UInt8)) (rb:Nat) (t:TypeId) (mb mn:Nat) (hfs:fs.length≤1000000000) (n:Nat)
  (IH:∀ (y:An) (vars':List (List UInt8)) (vv':Value) (g' q' o':Nat) (x':Option Int) (W:World),siz y.nd≤n→n+vars'.length≤1000000000→ResPre fs rb t mb mn W q' o' x' vv' vars' g' y→Calls prog 75 #[.pointer (some ⟨rb,0,none⟩),.pointer (some ⟨q',o',none⟩),vv'] W (ResP fs rb t mb W q' o' x' vars' y))
  (a:An) (vars:List (List UInt8)) (vv:Value) (g q o:Nat) (x:Option Int) (w:World) (hn:siz a.nd≤n+1) (hb:n+1+vars.length≤1000000000) (hpre:ResPre fs rb t mb mn w q o x vv vars g a) (hk:a.kind=20) :
  Calls prog 75 #[.pointer (some ⟨rb,0,none⟩),.pointer (some ⟨q,o,none⟩),vv] w (ResP fs rb t mb w q o x vars a):=by
 obtain ⟨k,nn,s,off,b,c,l⟩:=a;simp only[An.kind] at hk;obtain ⟨R,hR⟩:∃ R,ResP fs rb t mb w q o x vars (.mk k nn s off b c l)=R:=⟨_,rfl⟩
 rw[hR];have HR:Hid (R=ResP fs rb t mb w q o x vars (.mk k nn s off b c l)):=hR.symm;have hA:=Yk hpre;have hH:=hpre.hd;rw[YK] at hn;have hwf:=hpre.wf;unfold An.nd WfN at hwf;obtain ⟨h19,_,_,hsl,hwl⟩:=hwf;obtain ⟨ad,cc,hkv,had⟩:=Jn b c l
 have hcs:∀ n' s',cellsN (.mk k n' s' off b c l)=#[.int .i64 k,.int .i64 n',.string (bs s'),.int .i64 off,.slice ad l.length cc]:=fun n' s'=>by
  show #[_,_,_,_,kidsV b c l]=_
  rw[hkv]
 have hcr:∀ n' s',cellsN (.mk k n' s' off b c (resAL fs vars l))=#[.int .i64 k,.int .i64 n',.string (bs s'),.int .i64 off,.slice ad l.length cc]:=fun n' s'=>by
  exact wx95
 obtain ⟨va,vc,rfl,hvc,hvr⟩:=hpre.vars;have HVR:=Zh hvr;have HAD:=Zh had;have HCS:=Zh hcs;have HCR:=Zh hcr;have HWL:=Zh hwl;have HSL:=Zh hsl;have HH:=Zh hH;have HA:=Zh hA;have HSZ:Hid (sizL (ndL l)≤n):=by rw[Hid]; omega
 have hlen:l.length≤n:=by have:=Jw l; omega
 have H19:Hid (k=19→l.length=2):=fun e=>by have:=h19 e; rwa [J7,List.length_map] at this
 have hne1:rb≠q:=hA.ra.2.2;have hne2:q≠rb:=Ne.symm hne1;have HFN:Hid (foot (.mk k nn s off b c l)=if l=[] then [] else b::footL l):=Kt k nn s off b c l;have hc:=hH.node.cells;rw[hcs] at hc;have d0:=hc 0 _ rfl;simp only[Nat.add_zero] at d0;clear hpre hR hA hH h19 hsl hwl hkv had hcs hcr hvr hc hn;subst hk;have e2:((20:Int)==2)=false:=by decide
 have e20:((20:Int)==20)=true:=by decide
 have HFIN:Hid (∀ W,NodeAt W q o (.mk 20 ((firstIx fs s).getD 0:Nat) [] off b c (resAL fs vars l))→FltAt W rb t (addL (addL x (if (firstIx fs s).isNone=true then [off] else [])) (resL fs vars (ndL l)).2) (.map (some mb))→ChgC (ResC q o rb (if l=[] then [] else b::footL l)) w W→ResP fs rb t mb w q o x vars (.mk 20 nn s off b c l) (.returned (.tuple #[])) W):=by
  intro W h1 h2 h3;have hr:resA fs vars (.mk 20 nn s off b c l)=.mk 20 ((firstIx fs s).getD 0:Nat) [] off b c (resAL fs vars l):=by rw[Jaa,if_neg (by decide),if_pos rfl]
  refine ⟨rfl,by rw[hr]; exact h1,?_,by rw[HFN.out]; exact h3⟩;rw[An.nd,K2,if_neg (by decide),if_pos rfl];dsimp only;rw[Jt];exact h2
 have hlk:=HH.out.map.look HSL.out;have hlk2:=(HH.out.map.same (w':=w.drew) rfl).look HSL.out;have r2:=Ja HH.out.flt 2;simp only[ZD,ZE,ZF] at r2;have c2:=HH.out.node.cells 2 (Value.string (bs s)) rfl;have HI:=Zh (HH.out.below (Below.refl w.heap.size w).drew);clear HSL H19 HFN HH HVR hvc
 cases hfi:firstIx fs s with
 | none=>
  rw[hfi] at hlk hlk2 HFIN;simp only[Option.getD,Option.isSome,Option.isNone,if_true,Int.ofNat_eq_natCast,Int.natCast_zero,Int.cast_ofNat_Int] at hlk hlk2 HFIN;clear hfi;go_enter func75,ntmps75;go_upto_region 9 with fail;go_region;go_upto_region 11 with fail;clear hlk hlk2 r2 c2;generalize w.drew=w2 at *;have hD2:Below w2.heap.size w2 w2.drew:=(Below.refl w2.heap.size w2).drew;replace HI:=Zh (HI.out.below hD2);clear hD2;refine wp_region_held_drew (S:=fun _=>True) (by kernel_rfl) (trivial) (fun hH=>?_);refine ZT (i:=0) (v:=?vT4_0) rfl (Or.inl ⟨by rfl,?yT4_0⟩) ?_
  case yT4_0=>exact ZyQ
  try simp only[Act.put,ZA,ZB,ZC]
  refine ZT (i:=1) (v:=?vT4_1) rfl (Or.inl ⟨by rfl,?yT4_1⟩) ?_
  case yT4_1=>exact ZyQ
  try simp only[Act.put,ZA,ZB,ZC]
  refine ZT (i:=2) (v:=?vT4_2) rfl (Or.inl ⟨by rfl,?yT4_2⟩) ?_
  case yT4_2=>exact ZyQ
  try simp only[Act.put,ZA,ZB,ZC]
  refine ZT (i:=3) (v:=?vT4_3) rfl (Or.inl ⟨by rfl,?yT4_3⟩) ?_
  case yT4_3=>exact ZyQ
  try simp only[Act.put,ZA,ZB,ZC]
  refine ZT (i:=4) (v:=?vT4_4) rfl (Or.inl ⟨by rfl,?yT4_4⟩) ?_
  case yT4_4=>exact ZyQ
  try simp only[Act.put,ZA,ZB,ZC]
  refine ZT (i:=5) (v:=?vT4_5) rfl (Or.inl ⟨by rfl,?yT4_5⟩) ?_
  case yT4_5=>exact ZyQ
  try simp only[Act.put,ZA,ZB,ZC]
  refine ZS 6 rfl (fun K hK=>?_);have c3:=HI.out.node.cells 3 (Value.int .i64 off) rfl;go_simp;clear c3;refine hK.out _ _ trivial (fun hH=>?_);clear hK K
  try simp only[Act.put,ZA,ZB,ZC]
  refine ZS 7 rfl (fun K hK=>?_)
  (go_simp; go_at_call 73; refine (Vo _ rb t (x) (.map (some mb)) off HI.out.flt).mono ?_; intro e w3 h3)
  have hst:=HI.out.add HA.out h3;obtain rfl:=h3.1;replace HI:=Zh hst;clear h3 hst;refine hK.out _ _ trivial (fun hH=>?_);clear hK K
  try simp only[Act.put,ZA,ZB,ZC]
  refine wpAnyH_done (by kernel_rfl) ?_ _;have c1:=HI.out.node.cells 1 (Value.int .i64 nn) rfl;have f1:=HI.out.node.frz (o+1);have c2:=HI.out.node.cells 2 (Value.string (bs s)) rfl;have f2:=HI.out.node.frz (o+2);have hlq:=HI.out.node.lt;have HS:Hid (HdI fs rb t mb mn w ((w3.setCell ⟨q,o+1,none⟩ (.int .i64 0)).setCell ⟨q,o+2,none⟩ (.string ⟨#[]⟩)) q o (addL x [off]) (.slice va vars.length vc) vars g b c l 20 off 0 []):=(HI.out.setN HA.out 0).setS HA.out [];clear HI;go_upto_region 17 with fail;clear c1 f1 c2 f2 hlq;generalize World.setCell (World.setCell w3 _ _) _ _=w4 at *;have HH:=HS;clear HS;have HK:Hid (KidI fs rb t mb mn w w4 q o (addL x [off]) (.slice va vars.length vc) vars g b l #[.int .i64 20,.int .i64 0,.string (bs []),.int .i64 off,.slice ad l.length cc] 0):=HH.out.kid (HCS.out _ _).symm;have c4:=HK.out.par 4 _ rfl;clear HH HCS;go_wp2_with fail;clear c4;go_loopg [136] l.length (fun gg v136 wr=>∃ i:Nat,gg+i=l.length∧v136=.int .i64 i∧Hid (KidI fs rb t mb mn w wr q o (addL x [off]) (.slice va vars.length vc) vars g b l #[.int .i64 20,.int .i64 0,.string (bs []),.int .i64 off,.slice ad l.length cc] i))
  case atStart=>exact ⟨0,rfl,rfl,HK⟩
  case round=>
  exact wx5
 | some ix=>
  rw[hfi] at hlk hlk2 HFIN;simp only[Option.getD,Option.isSome,Option.isNone,Bool.false_eq_true,if_false,JcQ] at hlk hlk2 HFIN;clear hfi;have c1:w.cell? ⟨q,o+1,none⟩=some (Value.int .i64 nn):=HI.out.node.cells 1 (Value.int .i64 nn) rfl;have f1:w.frozen? ⟨q,o+1,none⟩=false:=HI.out.node.frz (o+1);have f2:w.frozen? ⟨q,o+2,none⟩=false:=HI.out.node.frz (o+2);have hlq:q<w.heap.size:=HI.out.node.lt;have HS:Hid (HdI fs rb t mb mn w (((w.setCell ⟨q,o+1,none⟩ (.int .i64 (ix:Nat))).setCell ⟨q,o+2,none⟩ (.string ⟨#[]⟩)).drew) q o x (.slice va vars.length vc) vars g b c l 20 off (ix:Nat) []):=(HI.out.setN HA.out (ix:Nat)).setS HA.out [];go_enter func75,ntmps75;go_upto_region 9 with fail;go_region;go_upto_region 17 with fail;clear hlk hlk2 r2 c2 c1 f1 f2 hlq HI;generalize World.drew (World.setCell (World.setCell w _ _) _ _)=w2 at *;have HH:=HS;clear HS;have HK:Hid (KidI fs rb t mb mn w w2 q o (x) (.slice va vars.length vc) vars g b l #[.int .i64 20,.int .i64 (ix:Nat),.string (bs []),.int .i64 off,.slice ad l.length cc] 0):=HH.out.kid (HCS.out _ _).symm;have c4:=HK.out.par 4 _ rfl;clear HH HCS;go_wp2_with fail;clear c4;go_loopg [136] l.length (fun gg v136 wr=>∃ i:Nat,gg+i=l.length∧v136=.int .i64 i∧Hid (KidI fs rb t mb mn w wr q o (x) (.slice va vars.length vc) vars g b l #[.int .i64 20,.int .i64 (ix:Nat),.string (bs []),.int .i64 off,.slice ad l.length cc] i))
  case atStart=>exact ⟨0,rfl,rfl,HK⟩
  case round=>
  exact wx5
end Go.Proofs.YtncanmdgdflnpaaGreatDoor
