import Derived.Test.YtfafpklefknomaaGreatDoorR13
namespace Go.Proofs.YtfafpklefknomaaGreatDoor
open Go.ChangeShapes Go.WideShapes Go.ChangeAt Go.RowKit Go.Lib
open _root_.Go.Proofs.Tryz
set_option linter.all false
set_option maxRecDepth 100000
set_option maxHeartbeats 32000000
def Jby(fs vars:List By)(k n:Int)(s:By)(o:Int)(b c:Nat)(l:List An):QbA fs vars (.mk k n s o b c l) =
  if k=2 then .mk k (QaY vars s) [] o b c (QaX fs vars l)
  else if k=20 then .mk k ((Qal fs s).getD 0:Nat) [] o b c (QaX fs vars l)
  else if k=19 then
   match l with
   |[x,y]=>.mk k vars.length [] o b c [QbA fs vars x,QbA fs (vars++[s]) y]
   |l=>.mk k n s o b c l
  else .mk k n s o b c (QaX fs vars l):=by
 conv=>lhs;unfold QbA
 rfl
structure HdI(fs:List By)(rb:Nat)(t:TypeId)(mb mn:Nat)(w W:World)(q o:Nat)(x1:Option Int)(vv:Value)(vars:List By)(g b c:Nat)(l:List An)(k off n':Int)(s':By):Prop where
 node:Qcd W q o (.mk k n' s' off b c l)
 flt:QaW W rb t x1 (.map (some mb))
 map:Qbh W mb mn λs=>Qal fs s
 vars:QcO W vv vars g
 chg:Qcj (Qej q o rb (if l=[] then [] else b::Qak l)) w W
section
variable {fs:List By} {rb:Nat} {t:TypeId} {mb mn:Nat} {w W W':World} {q o:Nat} {x1:Option Int} {vv:Value} {vars:List By} {g b c:Nat} {l:List An} {k off n':Int} {s':By}
def Qcd.lt{a:An}(h:Qcd W q o a):q<W.heap.size:=by
 obtain⟨xA,xn,xc,hcf⟩:=Jg a;exact World.block_lt_of_cell? (a:=⟨q,o+0,none⟩) W (h.cells 0 (Iv a.kind) (by rw[hcf];rfl))
section
variable (h:HdI fs rb t mb mn w W q o x1 vv vars g b c l k off n' s')
include h
theorem HdI.over(hA:QdT q rb g mb b vars l){P:Nat->Nat->Prop}(hc:Qcj P W W')(hp:∀d j,P d j->d=q/\o<=j/\j<o+5){n2:Int}{s2:By}(hcell:∀j u,(Qaa (.mk k n2 s2 off b c l)).toList[j]?=some u->W'.cell? ⟨q,o+j,none⟩=some u):HdI fs rb t mb mn w W' q o x1 vv vars g b c l k off n2 s2:=by
 refine⟨h.node.head ?_ n2 s2 hcell (hc.mono λd j _ hj=>(hp d j hj).1),h.flt.chgC hc λj hj=>hA.ra.2.2 (hp _ _ hj).1,h.map.same (hc.block mb h.map.lt λj hj=>hA.ma.2.2.1 (hp _ _ hj).1),h.vars.chgC hc λhv j hj=>(hA.ga hv).2.2.1 (hp _ _ hj).1,h.chg.step hc λd j hj=>.inl (.inl (hp d j hj))⟩
 by_cases e:l=[]
 ·rw[if_pos e];simp
 ·rw[if_neg e];simp only[List.mem_cons,not_or];exact⟨hA.qa.2 e,hA.qa.1⟩
theorem HdI.setN(hA:QdT q rb g mb b vars l)(u:Int):HdI fs rb t mb mn w (W.setCell ⟨q,o+1,none⟩ (Iv u)) q o x1 vv vars g b c l k off u s':=by
 obtain⟨cs,ty,fr,hb⟩:=Yq (h.node.cells 0 (Iv k) rfl) trivial;refine h.over hA (P:=λd j=>d=q/\j=o+1) (Qcj.set hb ⟨rfl,rfl⟩ _) (λd j hj=>⟨hj.1,by omega⟩) λj v hj=>?_
 by_cases e:j=1
 ·subst e;rw[World.cell?_setCell_same W _ _ (h.node.cells 1 (Iv n') rfl)];simpa[Qaa] using hj
 ·rw[World.cell?_setCell_other _ _ _ _ (by intro e';injection e' with _ e2;omega)];refine h.node.cells j v ?_
  match j,e with
  |0,_=>exact hj
  |j+2,_=>exact hj
theorem HdI.setS(hA:QdT q rb g mb b vars l)(u:By):HdI fs rb t mb mn w (W.setCell ⟨q,o+2,none⟩ (Sv u)) q o x1 vv vars g b c l k off n' u:=by
 obtain⟨cs,ty,fr,hb⟩:=Yq (h.node.cells 0 (Iv k) rfl) trivial;refine h.over hA (P:=λd j=>d=q/\j=o+2) (Qcj.set hb ⟨rfl,rfl⟩ _) (λd j hj=>⟨hj.1,by omega⟩) λj v hj=>?_
 by_cases e:j=2
 ·subst e;rw[World.cell?_setCell_same W _ _ (h.node.cells 2 (Sv s') rfl)];simpa[Qaa] using hj
 ·rw[World.cell?_setCell_other _ _ _ _ (by intro e';injection e' with _ e2;omega)];refine h.node.cells j v ?_
  match j,e with
  |0,_=>exact hj
  |1,_=>exact hj
  |j+3,_=>exact hj
theorem HdI.below(hb:Below W.heap.size W W'):HdI fs rb t mb mn w W' q o x1 vv vars g b c l k off n' s':=
 ⟨⟨λj u hj=>(hb.cell (World.block_lt_of_cell? _ _ (h.node.cells j u hj))).trans (h.node.cells j u hj),λj=>(World.frozen?_of_block (a:=⟨q,j,none⟩) (hb.block q h.node.lt)).trans (h.node.frz j),Jct h.node.at' hb⟩,(hb.block _ (Jb h.flt)).trans h.flt,h.map.same (hb.block mb h.map.lt),h.vars.chgC (Qcj.of_below (P:=λ_ _=>False) hb) λ_ _ hj=>hj,h.chg.trans (Qcj.of_below hb)⟩
end
def HdI.add{e:Ending}{y:Int}(h:HdI fs rb t mb mn w W q o x1 vv vars g b c l k off n' s')(hA:QdT q rb g mb b vars l)(ha:Qir W rb t (addF x1 y) (.map (some mb)) e W'):HdI fs rb t mb mn w W' q o (QaG x1 [y]) vv vars g b c l k off n' s':=by
 obtain⟨_,hf,hc⟩:=ha;have xA:=JdN h.flt hf hc
 have hat:(An.mk k n' s' off b c l).At W':=YQ xA _ h.node.at' λd hd j hj=>by
  rw[KQ]at hd
  by_cases e:l=[]
  ·rw[if_pos e]at hd;cases hd
  ·rw[if_neg e]at hd;rw[hj.1]at hd
   rcases List.mem_cons.1 hd with h1|h1
   ·exact hA.ra.2.1 e h1
   ·exact hA.ra.1 h1
 exact⟨⟨λj u hj=>(xA.cell q (o+j) h.node.lt λhj=>hA.ra.2.2 hj.1.symm).trans (h.node.cells j u hj),λj=>(xA.frz q j h.node.lt).trans (h.node.frz j),hat⟩,hf,h.map.same (xA.block mb h.map.lt λj hj=>hA.ma.2.2.2 hj.1),h.vars.chgC xA λhv j hj=>(hA.ga hv).2.2.2 hj.1,h.chg.step xA λd j hj=>.inl (.inr (.inr hj.1))⟩
def HdI.kid(h:HdI fs rb t mb mn w W q o x1 vv vars g b c l k off n' s'){pc:Array Value}(hp:pc=Qaa (.mk k n' s' off b c l)):Qdl fs rb t mb mn w W q o x1 vv vars g b l pc 0:=Qdl.start h.node hp h.flt h.map h.vars h.chg
def QbW.hd{x:Option Int}{n:Int}{s:By}(h:QbW fs rb t mb mn W q o x vv vars g (.mk k n s off b c l)):HdI fs rb t mb mn W W q o x vv vars g b c l k off n s:=⟨h.node,h.flt,h.map,h.vars,Qcj.refl _ _⟩
def Jhi:Qaz b c (QaX fs vars l)=Qaz b c l:=by
 cases l with
 |nil=>simp[QaX]
 |cons x r=>simp[Qaz,Jcy]
end
theorem ux6{P:Prop}(h:P:=by
  clear HK;obtain⟨wl,rfl⟩:=zJ wr;obtain⟨i,hg,rfl,hI⟩:=hrel
  by_cases hi:i<l.length
  ·have hil:(i:Int)<(l.length:Int):=by omega
   obtain⟨y,hy⟩:∃y,l[i]?=some y:=⟨l[i],List.getElem?_eq_getElem hi⟩
   have hmem:=List.mem_of_getElem? hy;have had':ad=some ⟨b,0,none⟩:=HAD.o (List.ne_nil_of_mem hmem);have cx:=IH y vars _ g b (i*5) _ wl (Nat.le_trans (JM hmem) HSZ.o) (by omega) (hI.o.pre HA.o hy HWL.o);have c4:=hI.o.par 4 _ rfl;have wk:IntKind.i64.wrap ((i:Int)+1)=(i:Int)+1:=IntWalk.i64_in _ (by omega);have HST:=Zh (λe W' hr=>hI.o.step (e:=e) (W':=W') HA.o hy hr);have HG:=Zh hg;subst had';clear hg hy hmem hI HAD IH;go_wp2_with fail;refine cx.mono ?_;intro e w2 hr;have hst:=HST.o _ _ hr;obtain rfl:=hr.1;have HK2:=Zh hst;clear hst hr cx HST c4;go_wp2;go_roundg (l.length-(i+1))
   case measure=>have:=HG.o;omega
   case rel=>exact⟨i+1,by omega,by go_num,HK2⟩
  ·have hil:¬(i:Int)<(l.length:Int):=by omega
   obtain rfl:i=l.length:=by omega
   clear hi hg IH;go_wp2;go_end0;rw[HR.o];obtain⟨e1,e2',e3⟩:=hI.o.done (HCR.o _ _).symm
   exact HFIN.o _ e1 e2' e3):P:=h
theorem QfN{P:Prop}(h:P:=by
  show #[_,_,_,_,Qaz b c (QaX fs vars l)]=_
  rw[Jhi,hkv]):P:=h
def Jhj(fs:List By)(rb:Nat)(t:TypeId)(mb mn:Nat)(hfs:fs.length<=1000000000)(n:Nat)
  (IH:∀(y:An) (vars':List By) (vv':Value) (g' q' o':Nat) (x':Option Int) (W:World),siz y.nd<=n->n+vars'.length<=1000000000->QbW fs rb t mb mn W q' o' x' vv' vars' g' y->Calls prog 98 #[Pt rb,.pointer (some ⟨q',o',none⟩),vv'] W (Qdp fs rb t mb W q' o' x' vars' y))
  (a:An) (vars:List By) (vv:Value) (g q o:Nat) (x:Option Int) (w:World) (hn:siz a.nd<=n+1) (hb:n+1+vars.length<=1000000000) (hpre:QbW fs rb t mb mn w q o x vv vars g a) (hk2:a.kind≠2) (hk20:a.kind≠20) (hk19:a.kind≠19) :
  Calls prog 98 #[Pt rb,.pointer (some ⟨q,o,none⟩),vv] w (Qdp fs rb t mb w q o x vars a):=by
 obtain⟨k,nn,s,off,b,c,l⟩:=a;simp only[An.kind]at hk2 hk20 hk19;obtain⟨R,hR⟩:∃R,Qdp fs rb t mb w q o x vars (.mk k nn s off b c l)=R:=⟨_,rfl⟩
 rw[hR];have HR:Hi (R=Qdp fs rb t mb w q o x vars (.mk k nn s off b c l)):=hR.symm;have hA:=Zo hpre;have hH:=hpre.hd;rw[ZV]at hn;have hwf:=hpre.wf;unfold An.nd WfN at hwf;obtain⟨h19,_,_,vA,zA⟩:=hwf;obtain⟨ad,cc,hkv,uA⟩:=Jp b c l
 have xA:∀n' s',Qaa (.mk k n' s' off b c l)=#[Iv k,Iv n',Sv s',Iv off,.slice ad l.length cc]:=λn' s'=>by
  show #[_,_,_,_,Qaz b c l]=_
  rw[hkv]
 have cA:∀n' s',Qaa (.mk k n' s' off b c (QaX fs vars l))=#[Iv k,Iv n',Sv s',Iv off,.slice ad l.length cc]:=λn' s'=>by
  exact QfN
 obtain⟨va,vc,rfl,dA,aA⟩:=hpre.vars;have jA:=Zh aA;have HAD:=Zh uA;have HCS:=Zh xA;have HCR:=Zh cA;have HWL:=Zh zA;have eA:=Zh vA;have HH:=Zh hH;have HA:=Zh hA;have HSZ:Hi (Qbd (ndL l)<=n):=by rw[Hi];omega
 have gA:l.length<=n:=by have:=Jy l;omega
 have iA:Hi (k=19->l.length=2):=λe=>by have:=h19 e;rwa [Kk,List.length_map]at this
 have yA:rb≠q:=hA.ra.2.2;have hne2:q≠rb:=Ne.symm yA;have bA:Hi (foot (.mk k nn s off b c l)=if l=[] then [] else b::Qak l):=KQ k nn s off b c l;have hc:=hH.node.cells;rw[xA]at hc;have d0:=hc 0 _ rfl;simp only[Nat.add_zero]at d0;clear hpre hR hA hH h19 vA zA hkv uA xA cA aA hc hn;have e2:(k==2)=false:=zM hk2;have mA:(k==20)=false:=zM hk20;have kA:(k==19)=false:=zM hk19
 have HFIN:Hi (∀W,Qcd W q o (.mk k nn s off b c (QaX fs vars l))->QaW W rb t (QaG x (QbS fs vars (ndL l)).2) (.map (some mb))->Qcj (Qej q o rb (if l=[] then [] else b::Qak l)) w W->Qdp fs rb t mb w q o x vars (.mk k nn s off b c l) (.returned (.tuple #[])) W):=by
  intro W h1 h2 h3;have hr:QbA fs vars (.mk k nn s off b c l)=.mk k nn s off b c (QaX fs vars l):=by rw[Jby,if_neg hk2,if_neg hk20,if_neg hk19]
  refine⟨rfl,by rw[hr];exact h1,?_,by rw[bA.o];exact h3⟩;rw[An.nd,Vx,if_neg hk2,if_neg hk20,if_neg hk19];exact h2
 clear hk2 hk20 hk19 eA iA jA bA dA;go_enter func98,ntmps98;have c1:True:=trivial;have HK:Hi (Qdl fs rb t mb mn w w q o (x) (.slice va vars.length vc) vars g b l #[Iv k,Iv nn,Sv s,Iv off,.slice ad l.length cc] 0):=HH.o.kid (HCS.o _ _).symm;have c4:=HK.o.par 4 _ rfl;clear HH HCS;go_wp2_with fail;clear c4;go_loopg [136] l.length λgg v136 wr=>∃i:Nat,gg+i=l.length/\v136=Iv i/\Hi (Qdl fs rb t mb mn w wr q o (x) (.slice va vars.length vc) vars g b l #[Iv k,Iv nn,Sv s,Iv off,.slice ad l.length cc] i)
 case atStart=>exact⟨0,rfl,rfl,HK⟩
 case round=>
 exact ux6
def JjK(fs:List By)(rb:Nat)(t:TypeId)(mb mn:Nat)(hfs:fs.length<=1000000000)(n:Nat)
  (IH:∀(y:An) (vars':List By) (vv':Value) (g' q' o':Nat) (x':Option Int) (W:World),siz y.nd<=n->n+vars'.length<=1000000000->QbW fs rb t mb mn W q' o' x' vv' vars' g' y->Calls prog 98 #[Pt rb,.pointer (some ⟨q',o',none⟩),vv'] W (Qdp fs rb t mb W q' o' x' vars' y))
  (a:An) (vars:List By) (vv:Value) (g q o:Nat) (x:Option Int) (w:World) (hn:siz a.nd<=n+1) (hb:n+1+vars.length<=1000000000) (hpre:QbW fs rb t mb mn w q o x vv vars g a) (hk:a.kind=2) :
  Calls prog 98 #[Pt rb,.pointer (some ⟨q,o,none⟩),vv] w (Qdp fs rb t mb w q o x vars a):=by
 obtain⟨k,nn,s,off,b,c,l⟩:=a;simp only[An.kind]at hk;obtain⟨R,hR⟩:∃R,Qdp fs rb t mb w q o x vars (.mk k nn s off b c l)=R:=⟨_,rfl⟩
 rw[hR];have HR:Hi (R=Qdp fs rb t mb w q o x vars (.mk k nn s off b c l)):=hR.symm;have hA:=Zo hpre;have hH:=hpre.hd;rw[ZV]at hn;have hwf:=hpre.wf;unfold An.nd WfN at hwf;obtain⟨h19,_,_,gA,dA⟩:=hwf;obtain⟨ad,cc,hkv,cA⟩:=Jp b c l
 have yA:∀n' s',Qaa (.mk k n' s' off b c l)=#[Iv k,Iv n',Sv s',Iv off,.slice ad l.length cc]:=λn' s'=>by
  show #[_,_,_,_,Qaz b c l]=_
  rw[hkv]
 have mA:∀n' s',Qaa (.mk k n' s' off b c (QaX fs vars l))=#[Iv k,Iv n',Sv s',Iv off,.slice ad l.length cc]:=λn' s'=>by
  exact QfN
 obtain⟨va,vc,rfl,yB,iA⟩:=hpre.vars;have zB:=Zh iA;have HAD:=Zh cA;have HCS:=Zh yA;have HCR:=Zh mA;have HWL:=Zh dA;have sA:=Zh gA;have HH:=Zh hH;have HA:=Zh hA;have HSZ:Hi (Qbd (ndL l)<=n):=by rw[Hi];omega
 have pA:l.length<=n:=by have:=Jy l;omega
 have qA:Hi (k=19->l.length=2):=λe=>by have:=h19 e;rwa [Kk,List.length_map]at this
 have zA:rb≠q:=hA.ra.2.2;have hne2:q≠rb:=Ne.symm zA;have kA:Hi (foot (.mk k nn s off b c l)=if l=[] then [] else b::Qak l):=KQ k nn s off b c l;have hc:=hH.node.cells;rw[yA]at hc;have d0:=hc 0 _ rfl;simp only[Nat.add_zero]at d0;clear hpre hR hA hH h19 gA dA hkv cA yA mA iA hc hn;subst hk;have e2:((2:Int)==2)=true:=zp
 have HFIN:Hi (∀W,Qcd W q o (.mk 2 (QaY vars s) [] off b c (QaX fs vars l))->QaW W rb t (QaG (QaG x (if QaY vars s<0 then [off] else [])) (QbS fs vars (ndL l)).2) (.map (some mb))->Qcj (Qej q o rb (if l=[] then [] else b::Qak l)) w W->Qdp fs rb t mb w q o x vars (.mk 2 nn s off b c l) (.returned (.tuple #[])) W):=by
  intro W h1 h2 h3;have hr:QbA fs vars (.mk 2 nn s off b c l)=.mk 2 (QaY vars s) [] off b c (QaX fs vars l):=by rw[Jby,if_pos rfl]
  refine⟨rfl,by rw[hr];exact h1,?_,by rw[kA.o];exact h3⟩;rw[An.nd,Vx,if_pos rfl];dsimp only;rw[Jw];exact h2
 clear sA qA kA;have vA:=Yr s vars.length vars rfl;have wv:IntKind.i64.wrap ((vars.length:Int)-1)=(vars.length:Int)-1:=IntWalk.i64_in _ zo;have eA:=Zh (HH.o.setN HA.o ((vars.length:Int)-1));have hc1:=HH.o.node.cells 1 (Iv nn) rfl;have xB:=HH.o.node.frz (o+1);have hlq:=HH.o.node.lt;have uA:Hi (QaY vars s=QaY (vars.take vars.length) s):=by rw[Hi,List.take_length]
 clear HH;go_enter func98,ntmps98;go_wp2_with fail;clear hc1 xB hlq;generalize World.setCell w _ _=w1 at *;go_loopg [] vars.length λm wr=>m<=vars.length/\Hi (HdI fs rb t mb mn w wr q o x (.slice va vars.length vc) vars g b c l 2 off ((m:Int)-1) s)/\Hi (QaY vars s=QaY (vars.take m) s)
 case atStart=>exact⟨Nat.le_refl _,eA,uA⟩
 case round=>
 clear eA uA;obtain⟨wl,rfl⟩:=zJ wr;obtain⟨hm,hI,hx⟩:=hrel;have hD:Below wl.heap.size wl wl.drew:=(Below.refl wl.heap.size wl).drew;have HI:=Zh (hI.o.below hD);clear hD;have c1:wl.cell? ⟨q,o+1,none⟩=some (Iv ((gk:Int)-1)):=hI.o.node.cells 1 _ rfl;have c2:wl.cell? ⟨q,o+2,none⟩=some (Sv s):=hI.o.node.cells 2 _ rfl;have c3:wl.cell? ⟨q,o+3,none⟩=some (Iv off):=hI.o.node.cells 3 _ rfl;have f1:=hI.o.node.frz (o+1);have f2:=hI.o.node.frz (o+2);have hlq:=hI.o.node.lt;have hv:=hI.o.vars;have HX:=Zh hx.o
 cases gk with
 |zero=>
  have dn:((((0:Nat):Int)-1):Int) = -1:=zo;rw[dn]at c1 HI;have HL:Hi (QaY vars s = -1):=by rw[Hi,HX.o];rfl
  rw[HL.o,if_pos zp]at HFIN;clear HX dn hI hx hv vA HL;go_upto_region 3 with fail;go_region;go_upto_region 6 with fail;clear c1 c2 c3 f1 f2 hlq;generalize wl.drew=w2 at *;have bA:Below w2.heap.size w2 w2.drew:=(Below.refl w2.heap.size w2).drew;replace HI:=Zh (HI.o.below bA);clear bA;refine wp_region_held_drew (S:=λ_=>True) zk (trivial) λhH=>?_;refine zK 0 ?_
  try simp only[zX]
  refine zK 1 ?_;try simp only[zX]
  refine zK 2 ?_;try simp only[zX]
  refine zK 3 ?_;try simp only[zX]
  refine zK 4 ?_;try simp only[zX]
  refine zK 5 ?_;try simp only[zX]
  refine ZS 6 rfl λK hK=>?_;have c3:=HI.o.node.cells 3 (Value.int .i64 off) rfl;go_simp;clear c3;refine zU hK trivial λhH=>?_;clear hK K
  try simp only[zX]
  refine ZS 7 rfl λK hK=>?_
  (go_simp;go_at_call 96;refine(V7 _ rb t (x) (.map (some mb)) off HI.o.flt).mono ?_;intro e w3 h3)
  have hst:=HI.o.add HA.o h3;obtain rfl:=h3.1;replace HI:=Zh hst;clear h3 hst;refine zU hK trivial λhH=>?_;clear hK K
  try simp only[zX]
  refine wpAnyH_done zk ?_ _;have c2:=HI.o.node.cells 2 (Value.string (bs s)) rfl;have f2:=HI.o.node.frz (o+2);have hlq:=HI.o.node.lt;have HS:Hi (HdI fs rb t mb mn w (w3.setCell ⟨q,o+2,none⟩ Em) q o (QaG x [off]) (.slice va vars.length vc) vars g b c l 2 off (-1) []):=HI.o.setS HA.o [];clear HI;go_upto_region 17 with fail;clear c2 f2 hlq;generalize World.setCell w3 _ _=w4 at *;have HH:=HS;clear HS;have HK:Hi (Qdl fs rb t mb mn w w4 q o (QaG x [off]) (.slice va vars.length vc) vars g b l #[Iv 2,Iv (-1),.string (bs []),Iv off,.slice ad l.length cc] 0):=HH.o.kid (HCS.o _ _).symm;have c4:=HK.o.par 4 _ rfl;clear HH HCS;go_wp2_with fail;clear c4;go_loopg [136] l.length λgg v136 wr=>∃i:Nat,gg+i=l.length/\v136=Iv i/\Hi (Qdl fs rb t mb mn w wr q o (QaG x [off]) (.slice va vars.length vc) vars g b l #[Iv 2,Iv (-1),.string (bs []),Iv off,.slice ad l.length cc] i)
  case atStart=>exact⟨0,rfl,rfl,HK⟩
  case round=>
  exact ux6
 |succ m=>
  have dm:(((m+1:Nat):Int)-1)=(m:Int):=zo;rw[dm]at c1 HI;have wk:IntKind.i64.wrap ((m:Int)-1)=(m:Int)-1:=IntWalk.i64_in _ zo;have xA:m<vars.length:=zo;have uB:(m:Int)<(vars.length:Int):=zo;have bB:(m:Int)>=0:=zo;obtain⟨u,hu⟩:∃u,vars[m]?=some u:=⟨vars[m],List.getElem?_eq_getElem xA⟩
  obtain⟨aB,vB,rA,nA,aA⟩:=hv;injection rA with hva _ hvcc;have jA:vars≠[]:=by intro e;rw[e]at xA;exact absurd xA zq
  obtain⟨g1,g2⟩:=aA jA;have cg:=g2 m u hu;rw[<- hva]at g1;subst g1;have hlx:=JdO s hu;rw[<- HX.o]at hlx;have HN:=Zh (HI.o.setN HA.o ((m:Int)-1));have t1:=Jj u;have t2:=Jj s;clear HX hI hx hva hvcc nA aA g2 hu jA dm
  by_cases hus:u=s
  ·subst hus;rw[if_pos rfl]at hlx;rw[hlx,if_neg zo,JeS]at HFIN;have q1:(u==u)=true:=zq;have q2:(u !=u)=false:=zq;have tA:¬((m:Int)<0):=zo;have HS:Hi (HdI fs rb t mb mn w ((wl.setCell ⟨q,o+2,none⟩ Em).drew) q o x (.slice (some ⟨g,0,none⟩) vars.length vc) vars g b c l 2 off (m:Int) []):=HI.o.setS HA.o [];clear hlx HN vA HI;go_upto_region 3 with fail;go_region;go_upto_region 7 with fail;go_upto_region 17 with fail;clear c1 c2 c3 f1 f2 hlq cg t1 t2 q1 q2;generalize World.drew (World.setCell wl _ _)=w2 at *;have HH:=HS;clear HS;have HK:Hi (Qdl fs rb t mb mn w w2 q o (x) (.slice (some ⟨g,0,none⟩) vars.length vc) vars g b l #[Iv 2,Iv (m:Int),.string (bs []),Iv off,.slice ad l.length cc] 0):=HH.o.kid (HCS.o _ _).symm;have c4:=HK.o.par 4 _ rfl;clear HH HCS;go_wp2_with fail;clear c4;go_loopg [136] l.length λgg v136 wr=>∃i:Nat,gg+i=l.length/\v136=Iv i/\Hi (Qdl fs rb t mb mn w wr q o (x) (.slice (some ⟨g,0,none⟩) vars.length vc) vars g b l #[Iv 2,Iv (m:Int),.string (bs []),Iv off,.slice ad l.length cc] i)
   case atStart=>exact⟨0,rfl,rfl,HK⟩
   case round=>
   exact ux6
  ·rw[if_neg hus]at hlx;have HL:=Zh hlx;have q1:(u==s)=false:=zM hus;have q2:(u !=s)=true:=bne_iff_ne.2 hus;clear hlx hus;go_upto_region 3 with fail;go_region;go_wp2_with fail;go_roundg m
   case measure=>exact Nat.lt_succ_self _
   case rel=>exact⟨by omega,HN,HL⟩
def Jhk(fs:List By)(rb:Nat)(t:TypeId)(mb mn:Nat)(hfs:fs.length<=1000000000)(n:Nat)
  (IH:∀(y:An) (vars':List By) (vv':Value) (g' q' o':Nat) (x':Option Int) (W:World),siz y.nd<=n->n+vars'.length<=1000000000->QbW fs rb t mb mn W q' o' x' vv' vars' g' y->Calls prog 98 #[Pt rb,.pointer (some ⟨q',o',none⟩),vv'] W (Qdp fs rb t mb W q' o' x' vars' y))
  (a:An) (vars:List By) (vv:Value) (g q o:Nat) (x:Option Int) (w:World) (hn:siz a.nd<=n+1) (hb:n+1+vars.length<=1000000000) (hpre:QbW fs rb t mb mn w q o x vv vars g a) (hk:a.kind=20) :
  Calls prog 98 #[Pt rb,.pointer (some ⟨q,o,none⟩),vv] w (Qdp fs rb t mb w q o x vars a):=by
 obtain⟨k,nn,s,off,b,c,l⟩:=a;simp only[An.kind]at hk;obtain⟨R,hR⟩:∃R,Qdp fs rb t mb w q o x vars (.mk k nn s off b c l)=R:=⟨_,rfl⟩
 rw[hR];have HR:Hi (R=Qdp fs rb t mb w q o x vars (.mk k nn s off b c l)):=hR.symm;have hA:=Zo hpre;have hH:=hpre.hd;rw[ZV]at hn;have hwf:=hpre.wf;unfold An.nd WfN at hwf;obtain⟨h19,_,_,cA,aA⟩:=hwf;obtain⟨ad,cc,hkv,bA⟩:=Jp b c l
 have uA:∀n' s',Qaa (.mk k n' s' off b c l)=#[Iv k,Iv n',Sv s',Iv off,.slice ad l.length cc]:=λn' s'=>by
  show #[_,_,_,_,Qaz b c l]=_
  rw[hkv]
 have iA:∀n' s',Qaa (.mk k n' s' off b c (QaX fs vars l))=#[Iv k,Iv n',Sv s',Iv off,.slice ad l.length cc]:=λn' s'=>by
  exact QfN
 obtain⟨va,vc,rfl,jA,dA⟩:=hpre.vars;have nA:=Zh dA;have HAD:=Zh bA;have HCS:=Zh uA;have HCR:=Zh iA;have HWL:=Zh aA;have zA:=Zh cA;have HH:=Zh hH;have HA:=Zh hA;have HSZ:Hi (Qbd (ndL l)<=n):=by rw[Hi];omega
 have kA:l.length<=n:=by have:=Jy l;omega
 have mA:Hi (k=19->l.length=2):=λe=>by have:=h19 e;rwa [Kk,List.length_map]at this
 have vA:rb≠q:=hA.ra.2.2;have hne2:q≠rb:=Ne.symm vA;have gA:Hi (foot (.mk k nn s off b c l)=if l=[] then [] else b::Qak l):=KQ k nn s off b c l;have hc:=hH.node.cells;rw[uA]at hc;have d0:=hc 0 _ rfl;simp only[Nat.add_zero]at d0;clear hpre hR hA hH h19 cA aA hkv bA uA iA dA hc hn;subst hk;have e2:((20:Int)==2)=false:=zp;have pA:((20:Int)==20)=true:=zp
 have HFIN:Hi (∀W,Qcd W q o (.mk 20 ((Qal fs s).getD 0:Nat) [] off b c (QaX fs vars l))->QaW W rb t (QaG (QaG x (if (Qal fs s).isNone=true then [off] else [])) (QbS fs vars (ndL l)).2) (.map (some mb))->Qcj (Qej q o rb (if l=[] then [] else b::Qak l)) w W->Qdp fs rb t mb w q o x vars (.mk 20 nn s off b c l) (.returned (.tuple #[])) W):=by
  intro W h1 h2 h3;have hr:QbA fs vars (.mk 20 nn s off b c l)=.mk 20 ((Qal fs s).getD 0:Nat) [] off b c (QaX fs vars l):=by rw[Jby,if_neg zp,if_pos rfl]
  refine⟨rfl,by rw[hr];exact h1,?_,by rw[gA.o];exact h3⟩;rw[An.nd,Vx,if_neg zp,if_pos rfl];dsimp only;rw[Jw];exact h2
 have yA:=HH.o.map.look zA.o;have xA:=(HH.o.map.same (w':=w.drew) rfl).look zA.o;have r2:=Ja HH.o.flt 2;simp only[zW]at r2;have c2:=HH.o.node.cells 2 (Value.string (bs s)) rfl;have HI:=Zh (HH.o.below (Below.refl w.heap.size w).drew);clear zA mA gA HH nA jA
 cases hfi:Qal fs s with
 |none=>
  rw[hfi]at yA xA HFIN;simp only[Option.getD,Option.isSome,Option.isNone,if_true,Int.ofNat_eq_natCast,Int.natCast_zero,Int.cast_ofNat_Int]at yA xA HFIN;clear hfi;go_enter func98,ntmps98;go_upto_region 9 with fail;go_region;go_upto_region 11 with fail;clear yA xA r2 c2;generalize w.drew=w2 at *;have eA:Below w2.heap.size w2 w2.drew:=(Below.refl w2.heap.size w2).drew;replace HI:=Zh (HI.o.below eA);clear eA;refine wp_region_held_drew (S:=λ_=>True) zk (trivial) λhH=>?_;refine zK 0 ?_
  try simp only[zX]
  refine zK 1 ?_;try simp only[zX]
  refine zK 2 ?_;try simp only[zX]
  refine zK 3 ?_;try simp only[zX]
  refine zK 4 ?_;try simp only[zX]
  refine zK 5 ?_;try simp only[zX]
  refine ZS 6 rfl λK hK=>?_;have c3:=HI.o.node.cells 3 (Value.int .i64 off) rfl;go_simp;clear c3;refine zU hK trivial λhH=>?_;clear hK K
  try simp only[zX]
  refine ZS 7 rfl λK hK=>?_
  (go_simp;go_at_call 96;refine(V7 _ rb t (x) (.map (some mb)) off HI.o.flt).mono ?_;intro e w3 h3)
  have hst:=HI.o.add HA.o h3;obtain rfl:=h3.1;replace HI:=Zh hst;clear h3 hst;refine zU hK trivial λhH=>?_;clear hK K
  try simp only[zX]
  refine wpAnyH_done zk ?_ _;have c1:=HI.o.node.cells 1 (Value.int .i64 nn) rfl;have f1:=HI.o.node.frz (o+1);have c2:=HI.o.node.cells 2 (Value.string (bs s)) rfl;have f2:=HI.o.node.frz (o+2);have hlq:=HI.o.node.lt;have HS:Hi (HdI fs rb t mb mn w ((w3.setCell ⟨q,o+1,none⟩ (Iv 0)).setCell ⟨q,o+2,none⟩ Em) q o (QaG x [off]) (.slice va vars.length vc) vars g b c l 20 off 0 []):=(HI.o.setN HA.o 0).setS HA.o [];clear HI;go_upto_region 17 with fail;clear c1 f1 c2 f2 hlq;generalize World.setCell (World.setCell w3 _ _) _ _=w4 at *;have HH:=HS;clear HS;have HK:Hi (Qdl fs rb t mb mn w w4 q o (QaG x [off]) (.slice va vars.length vc) vars g b l #[Iv 20,Iv 0,.string (bs []),Iv off,.slice ad l.length cc] 0):=HH.o.kid (HCS.o _ _).symm;have c4:=HK.o.par 4 _ rfl;clear HH HCS;go_wp2_with fail;clear c4;go_loopg [136] l.length λgg v136 wr=>∃i:Nat,gg+i=l.length/\v136=Iv i/\Hi (Qdl fs rb t mb mn w wr q o (QaG x [off]) (.slice va vars.length vc) vars g b l #[Iv 20,Iv 0,.string (bs []),Iv off,.slice ad l.length cc] i)
  case atStart=>exact⟨0,rfl,rfl,HK⟩
  case round=>
  exact ux6
 |some ix=>
  rw[hfi]at yA xA HFIN;simp only[Option.getD,Option.isSome,Option.isNone,Bool.false_eq_true,if_false,JeS]at yA xA HFIN;clear hfi;have c1:w.cell? ⟨q,o+1,none⟩=some (Value.int .i64 nn):=HI.o.node.cells 1 (Value.int .i64 nn) rfl;have f1:w.frozen? ⟨q,o+1,none⟩=false:=HI.o.node.frz (o+1);have f2:w.frozen? ⟨q,o+2,none⟩=false:=HI.o.node.frz (o+2);have hlq:q<w.heap.size:=HI.o.node.lt;have HS:Hi (HdI fs rb t mb mn w (((w.setCell ⟨q,o+1,none⟩ (Iv (ix:Nat))).setCell ⟨q,o+2,none⟩ Em).drew) q o x (.slice va vars.length vc) vars g b c l 20 off (ix:Nat) []):=(HI.o.setN HA.o (ix:Nat)).setS HA.o [];go_enter func98,ntmps98;go_upto_region 9 with fail;go_region;go_upto_region 17 with fail;clear yA xA r2 c2 c1 f1 f2 hlq HI;generalize World.drew (World.setCell (World.setCell w _ _) _ _)=w2 at *;have HH:=HS;clear HS;have HK:Hi (Qdl fs rb t mb mn w w2 q o (x) (.slice va vars.length vc) vars g b l #[Iv 20,Iv (ix:Nat),.string (bs []),Iv off,.slice ad l.length cc] 0):=HH.o.kid (HCS.o _ _).symm;have c4:=HK.o.par 4 _ rfl;clear HH HCS;go_wp2_with fail;clear c4;go_loopg [136] l.length λgg v136 wr=>∃i:Nat,gg+i=l.length/\v136=Iv i/\Hi (Qdl fs rb t mb mn w wr q o (x) (.slice va vars.length vc) vars g b l #[Iv 20,Iv (ix:Nat),.string (bs []),Iv off,.slice ad l.length cc] i)
  case atStart=>exact⟨0,rfl,rfl,HK⟩
  case round=>
  exact ux6
end Go.Proofs.YtfafpklefknomaaGreatDoor
