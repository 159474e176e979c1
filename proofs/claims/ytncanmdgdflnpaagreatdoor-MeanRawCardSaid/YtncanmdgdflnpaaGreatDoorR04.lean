import Derived.Test.YtncanmdgdflnpaaGreatDoorR03
open List(getElem?_map getElem?_set length_map length_set map_cons map_map map_nil map_take mem_of_getElem? nil_append take_of_length_le)
open Nat(add_zero le_refl le_trans mul_le_mul_right)
namespace Go.Proofs.YtncanmdgdflnpaaGreatDoor
open Go.ChangeShapes Go.WideShapes Go.ChangeAt Go.RowKit Go.Lib
open _root_.Go.Proofs.Tryz
set_option linter.all false
set_option maxRecDepth 100000
set_option maxHeartbeats 32000000
def Jaa(fs M0:List By)(k n:Int)(s:By)(o:Int)(b c:Nat)(l:List An):QbK fs M0 (.mk k n s o b c l) =
  if k=2 then .mk k (Qbh M0 s) [] o b c (Qbg fs M0 l)
  else if k=20 then .mk k ((Qag fs s).getD 0:Nat) [] o b c (Qbg fs M0 l)
  else if k=19 then
   match l with
   |[x,y]=>.mk k M0.length [] o b c [QbK fs M0 x,QbK fs (M0++[s]) y]
   |l=>.mk k n s o b c l
  else .mk k n s o b c (Qbg fs M0 l):=by
 conv=>lhs;unfold QbK
 rfl
structure HdI(fs:List By)(rb:Nat)(t:TypeId)(mb mn:Nat)(w W:World)(q o:Nat)(x1:Option Int)(vv:Value)(vars:List By)(g b c:Nat)(l:List An)(k off n':Int)(s':By):Prop where
 node:Qcr W q o (.mk k n' s' off b c l)
 flt:Qbf W rb t x1 (.map (some mb))
 map:Qbp W mb mn λs=>Qag fs s
 vars:Qdb W vv vars g
 chg:QcA (Qfr q o rb (if l=[] then [] else b::Qaf l)) w W
section
variable {fs:List By}{rb:Nat}{t:TypeId}{mb mn:Nat}{w W W':World}{q o:Nat}{x1:Option Int}{vv:Value}{M0:List By}{g b c:Nat}{l:List An}{k off n':Int}{s':By}
def Qcr.lt{a:An}(h:Qcr W q o a):q<W.heap.size:=by
 obtain⟨xA,xn,xc,T1⟩:=Jg a;exact World.block_lt_of_cell? (a:=⟨q,o+0,none⟩) W (h.cells 0 (Iv a.kind) (by rw[T1];rfl))
def HdI.over(h:HdI fs rb t mb mn w W q o x1 vv M0 g b c l k off n' s')(hA:QeP q rb g mb b M0 l){P:Nat->Nat->Prop}(hc:QcA P W W')(hp:∀d j,P d j->d=q/\o<=j/\j<o+5){n2:Int}{s2:By}(hcell:∀j u,(Qaa (.mk k n2 s2 off b c l)).toList[j]?=some u->W'.cell? ⟨q,o+j,none⟩=some u):HdI fs rb t mb mn w W' q o x1 vv M0 g b c l k off n2 s2:=by
 refine⟨h.node.head ?_ n2 s2 hcell (hc.mono λd j _ hj=>(hp d j hj).1),h.flt.chgC hc λj hj=>hA.ra.2.2 (hp _ _ hj).1,h.map.same (hc.block mb h.map.lt λj hj=>hA.ma.2.2.1 (hp _ _ hj).1),h.vars.chgC hc λhv j hj=>(hA.ga hv).2.2.1 (hp _ _ hj).1,h.chg.step hc λd j hj=>.inl (.inl (hp d j hj))⟩
 by_cases e:l=[]
 ·rw[if_pos e];simp
 ·rw[if_neg e];simp only[List.mem_cons,not_or];exact⟨hA.qa.2 e,hA.qa.1⟩
def HdI.setN(h:HdI fs rb t mb mn w W q o x1 vv M0 g b c l k off n' s')(hA:QeP q rb g mb b M0 l)(u:Int):HdI fs rb t mb mn w (W.setCell ⟨q,o+1,none⟩ (Iv u)) q o x1 vv M0 g b c l k off u s':=by
 obtain⟨cs,ty,fr,hb⟩:=VB (h.node.cells 0 (Iv k) rfl) trivial;refine h.over hA (P:=λd j=>d=q/\j=o+1) (QcA.set hb ⟨rfl,rfl⟩ _) (λd j hj=>⟨hj.1,by omega⟩) λj v hj=>?_
 by_cases e:j=1
 ·subst e;rw[World.cell?_setCell_same W _ _ (h.node.cells 1 (Iv n') rfl)];simpa[Qaa] using hj
 ·rw[World.cell?_setCell_other _ _ _ _ (by intro e';injection e' with _ e2;omega)];refine h.node.cells j v ?_
  match j,e with
  |0,_=>exact hj
  |j+2,_=>exact hj
def HdI.setS(h:HdI fs rb t mb mn w W q o x1 vv M0 g b c l k off n' s')(hA:QeP q rb g mb b M0 l)(u:By):HdI fs rb t mb mn w (W.setCell ⟨q,o+2,none⟩ (Sv u)) q o x1 vv M0 g b c l k off n' u:=by
 obtain⟨cs,ty,fr,hb⟩:=VB (h.node.cells 0 (Iv k) rfl) trivial;refine h.over hA (P:=λd j=>d=q/\j=o+2) (QcA.set hb ⟨rfl,rfl⟩ _) (λd j hj=>⟨hj.1,by omega⟩) λj v hj=>?_
 by_cases e:j=2
 ·subst e;rw[World.cell?_setCell_same W _ _ (h.node.cells 2 (Sv s') rfl)];simpa[Qaa] using hj
 ·rw[World.cell?_setCell_other _ _ _ _ (by intro e';injection e' with _ e2;omega)];refine h.node.cells j v ?_
  match j,e with
  |0,_=>exact hj
  |1,_=>exact hj
  |j+3,_=>exact hj
def HdI.below(h:HdI fs rb t mb mn w W q o x1 vv M0 g b c l k off n' s')(hb:Below W.heap.size W W'):HdI fs rb t mb mn w W' q o x1 vv M0 g b c l k off n' s':=
 ⟨⟨λj u hj=>(hb.cell (World.block_lt_of_cell? _ _ (h.node.cells j u hj))).trans (h.node.cells j u hj),λj=>(World.frozen?_of_block (a:=⟨q,j,none⟩) (hb.block q h.node.lt)).trans (h.node.frz j),JaM h.node.at' hb⟩,(hb.block _ (Jb h.flt)).trans h.flt,h.map.same (hb.block mb h.map.lt),h.vars.chgC (QcA.of_below (P:=λ_ _=>False) hb) λ_ _ hj=>hj,h.chg.trans (QcA.of_below hb)⟩
def HdI.add{e:Ending}{y:Int}(h:HdI fs rb t mb mn w W q o x1 vv M0 g b c l k off n' s')(hA:QeP q rb g mb b M0 l)(ha:Qmg W rb t (addF x1 y) (.map (some mb)) e W'):HdI fs rb t mb mn w W' q o (QaG x1 [y]) vv M0 g b c l k off n' s':=by
 obtain⟨_,hf,hc⟩:=ha;have xA:=JbY h.flt hf hc
 have hat:(An.mk k n' s' off b c l).At W':=VW xA _ h.node.at' λd hd j hj=>by
  rw[Kt]at hd
  by_cases e:l=[]
  ·rw[if_pos e]at hd;cases hd
  ·rw[if_neg e]at hd;rw[hj.1]at hd
   rcases List.mem_cons.1 hd with h1|h1
   ·exact hA.ra.2.1 e h1
   ·exact hA.ra.1 h1
 exact⟨⟨λj u hj=>(xA.cell q (o+j) h.node.lt λhj=>hA.ra.2.2 hj.1.symm).trans (h.node.cells j u hj),λj=>(xA.frz q j h.node.lt).trans (h.node.frz j),hat⟩,hf,h.map.same (xA.block mb h.map.lt λj hj=>hA.ma.2.2.2 hj.1),h.vars.chgC xA λhv j hj=>(hA.ga hv).2.2.2 hj.1,h.chg.step xA λd j hj=>.inl (.inr (.inr hj.1))⟩
def HdI.kid(h:HdI fs rb t mb mn w W q o x1 vv M0 g b c l k off n' s'){pc:Array Value}(hp:pc=Qaa (.mk k n' s' off b c l)):QdN fs rb t mb mn w W q o x1 vv M0 g b l pc 0:=QdN.start h.node hp h.flt h.map h.vars h.chg
def Qcl.hd{x:Option Int}{n:Int}{s:By}(h:Qcl fs rb t mb mn W q o x vv M0 g (.mk k n s off b c l)):HdI fs rb t mb mn W W q o x vv M0 g b c l k off n s:=⟨h.node,h.flt,h.map,h.vars,QcA.refl _ _⟩
def JeQ:Qaw b c (Qbg fs M0 l)=Qaw b c l:=by
 cases l with
 |nil=>simp[Qbg]
 |cons x r=>simp[Qaw,JaR]
end
def wx5{P:Prop}(h:P:=by
  clear HK;obtain⟨wl,rfl⟩:=zG wr
  obtain⟨i,hg,rfl,hI⟩:=hrel
  by_cases hi:i<l.length
  ·have hil:(i:Int)<(l.length:Int):=by omega
   obtain⟨y,hy⟩:∃y,l[i]?=some y:=⟨l[i],List.getElem?_eq_getElem hi⟩
   have hmem:=List.mem_of_getElem? hy;have O1:ad=some ⟨b,0,none⟩:=HAD.o (List.ne_nil_of_mem hmem);have cx:=IH y M0 _ g b (i*5) _ wl (Nat.le_trans (JH hmem) j4.o) (by omega) (hI.o.pre HA.o hy D8.o);have c4:=hI.o.par 4 _ rfl;have wk:IntKind.i64.wrap ((i:Int)+1)=(i:Int)+1:=IntWalk.i64_in _ (by omega);have D2:=Zh (λe W' hr=>hI.o.step (e:=e) (W':=W') HA.o hy hr);have HG:=Zh hg;subst O1;clear hg hy hmem hI HAD IH;go_wp2_with fail;refine cx.mono ?_;intro e w2 hr;have hst:=D2.o _ _ hr;obtain rfl:=hr.1;have RA:=Zh hst;clear hst hr cx D2 c4;go_wp2;go_roundg (l.length-(i+1))
   case measure=>have:=HG.o;omega
   case rel=>exact⟨i+1,by omega,by go_num,RA⟩
  ·have hil:¬(i:Int)<(l.length:Int):=by omega
   obtain rfl:i=l.length:=by omega
   clear hi hg IH;go_wp2;go_end0;rw[HR.o];obtain⟨e1,e2',e3⟩:=hI.o.done (A4.o _ _).symm
   exact E0.o _ e1 e2' e3):P:=h
def Qmh{P:Prop}(h:P:=by
  show #[_,_,_,_,Qaw b c (Qbg fs M0 l)]=_
  rw[JeQ,M3]):P:=h
def JeR(fs:List By)(rb:Nat)(t:TypeId)(mb mn:Nat)(M9:fs.length<=1000000000)(n:Nat)
  (IH:∀(y:An)(vars':List By)(vv':Value)(g' q' o':Nat)(x':Option Int)(W:World),siz y.nd<=n->n+vars'.length<=1000000000->Qcl fs rb t mb mn W q' o' x' vv' vars' g' y->Calls prog 75 #[Pt rb,.pointer (some ⟨q',o',none⟩),vv'] W (QdW fs rb t mb W q' o' x' vars' y))
  (a:An) (M0:List By) (vv:Value) (g q o:Nat) (x:Option Int) (w:World) (hn:siz a.nd<=n+1) (hb:n+1+M0.length<=1000000000) (hpre:Qcl fs rb t mb mn w q o x vv M0 g a) (UA:a.kind≠2) (K8:a.kind≠20) (T4:a.kind≠19):
  Calls prog 75 #[Pt rb,.pointer (some ⟨q,o,none⟩),vv] w (QdW fs rb t mb w q o x M0 a):=by
 obtain⟨k,nn,s,off,b,c,l⟩:=a;simp only[An.kind]at UA K8 T4;obtain⟨R,hR⟩:∃R,QdW fs rb t mb w q o x M0 (.mk k nn s off b c l)=R:=⟨_,rfl⟩
 rw[hR];have HR:Hi (R=QdW fs rb t mb w q o x M0 (.mk k nn s off b c l)):=hR.symm;have hA:=Yk hpre;have hH:=hpre.hd;rw[YK]at hn;have hwf:=hpre.wf;unfold An.nd WfN at hwf;obtain⟨N2,_,_,vA,zA⟩:=hwf;obtain⟨ad,cc,M3,uA⟩:=Jn b c l
 have yA:∀n' s',Qaa (.mk k n' s' off b c l)=#[Iv k,Iv n',Sv s',Iv off,.slice ad l.length cc]:=λn' s'=>by
  show #[_,_,_,_,Qaw b c l]=_
  rw[M3]
 have dA:∀n' s',Qaa (.mk k n' s' off b c (Qbg fs M0 l))=#[Iv k,Iv n',Sv s',Iv off,.slice ad l.length cc]:=λn' s'=>by
  exact Qmh
 obtain⟨va,vc,rfl,eA,aA⟩:=hpre.vars;have jA:=Zh aA;have HAD:=Zh uA;have N5:=Zh yA;have A4:=Zh dA;have D8:=Zh zA;have gA:=Zh vA;have HH:=Zh hH;have HA:=Zh hA;have j4:Hi (Qaz (ndL l)<=n):=by rw[Hi];omega
 have bA:l.length<=n:=by have:=Jw l;omega
 have iA:Hi (k=19->l.length=2):=λe=>by have:=N2 e;rwa [J7,length_map]at this
 have xA:rb≠q:=hA.ra.2.2;have cA:Hi (foot (.mk k nn s off b c l)=if l=[] then [] else b::Qaf l):=Kt k nn s off b c l;have hc:=hH.node.cells;rw[yA]at hc;have d0:=hc 0 _ rfl;simp only[add_zero]at d0
 have E0:Hi (∀W,Qcr W q o (.mk k nn s off b c (Qbg fs M0 l))->Qbf W rb t (QaG x (Qcb fs M0 (ndL l)).2) (.map (some mb))->QcA (Qfr q o rb (if l=[] then [] else b::Qaf l)) w W->QdW fs rb t mb w q o x M0 (.mk k nn s off b c l) (.returned (.tuple #[])) W):=by
  intro W h1 h2 h3;have hr:QbK fs M0 (.mk k nn s off b c l)=.mk k nn s off b c (Qbg fs M0 l):=by rw[Jaa,if_neg UA,if_neg K8,if_neg T4]
  refine⟨rfl,by rw[hr];exact h1,?_,by rw[cA.o];exact h3⟩;rw[An.nd,K2,if_neg UA,if_neg K8,if_neg T4];exact h2
 go_enter func75,ntmps75;have HK:Hi (QdN fs rb t mb mn w w q o (x) (.slice va M0.length vc) M0 g b l #[Iv k,Iv nn,Sv s,Iv off,.slice ad l.length cc] 0):=HH.o.kid (N5.o _ _).symm;go_wp2_with fail;go_loopg [136] l.length λgg v136 wr=>∃i:Nat,gg+i=l.length/\v136=Iv i/\Hi (QdN fs rb t mb mn w wr q o (x) (.slice va M0.length vc) M0 g b l #[Iv k,Iv nn,Sv s,Iv off,.slice ad l.length cc] i)
 case atStart=>exact⟨0,rfl,rfl,HK⟩
 case round=>
 exact wx5
def JgY(fs:List By)(rb:Nat)(t:TypeId)(mb mn:Nat)(M9:fs.length<=1000000000)(n:Nat)
  (IH:∀(y:An)(vars':List By)(vv':Value)(g' q' o':Nat)(x':Option Int)(W:World),siz y.nd<=n->n+vars'.length<=1000000000->Qcl fs rb t mb mn W q' o' x' vv' vars' g' y->Calls prog 75 #[Pt rb,.pointer (some ⟨q',o',none⟩),vv'] W (QdW fs rb t mb W q' o' x' vars' y))
  (a:An) (M0:List By) (vv:Value) (g q o:Nat) (x:Option Int) (w:World) (hn:siz a.nd<=n+1) (hb:n+1+M0.length<=1000000000) (hpre:Qcl fs rb t mb mn w q o x vv M0 g a) (hk:a.kind=2):
  Calls prog 75 #[Pt rb,.pointer (some ⟨q,o,none⟩),vv] w (QdW fs rb t mb w q o x M0 a):=by
 obtain⟨k,nn,s,off,b,c,l⟩:=a;simp only[An.kind]at hk;obtain⟨R,hR⟩:∃R,QdW fs rb t mb w q o x M0 (.mk k nn s off b c l)=R:=⟨_,rfl⟩
 rw[hR];have HR:Hi (R=QdW fs rb t mb w q o x M0 (.mk k nn s off b c l)):=hR.symm;have hA:=Yk hpre;have hH:=hpre.hd;rw[YK]at hn;have hwf:=hpre.wf;unfold An.nd WfN at hwf;obtain⟨N2,_,_,gA,dA⟩:=hwf;obtain⟨ad,cc,M3,cA⟩:=Jn b c l
 have zA:∀n' s',Qaa (.mk k n' s' off b c l)=#[Iv k,Iv n',Sv s',Iv off,.slice ad l.length cc]:=λn' s'=>by
  show #[_,_,_,_,Qaw b c l]=_
  rw[M3]
 have mA:∀n' s',Qaa (.mk k n' s' off b c (Qbg fs M0 l))=#[Iv k,Iv n',Sv s',Iv off,.slice ad l.length cc]:=λn' s'=>by
  exact Qmh
 obtain⟨va,vc,rfl,zB,iA⟩:=hpre.vars;have uB:=Zh iA;have HAD:=Zh cA;have N5:=Zh zA;have A4:=Zh mA;have D8:=Zh dA;have tA:=Zh gA;have HH:=Zh hH;have HA:=Zh hA;have j4:Hi (Qaz (ndL l)<=n):=by rw[Hi];omega
 have qA:l.length<=n:=by have:=Jw l;omega
 have rA:Hi (k=19->l.length=2):=λe=>by have:=N2 e;rwa [J7,length_map]at this
 have uA:rb≠q:=hA.ra.2.2;have F4:q≠rb:=Ne.symm uA;have kA:Hi (foot (.mk k nn s off b c l)=if l=[] then [] else b::Qaf l):=Kt k nn s off b c l;have hc:=hH.node.cells;rw[zA]at hc;have d0:=hc 0 _ rfl;simp only[add_zero]at d0;clear hpre hR hA hH N2 gA dA M3 cA zA mA iA hc hn;subst hk;have e2:((2:Int)==2)=true:=zd
 have E0:Hi (∀W,Qcr W q o (.mk 2 (Qbh M0 s) [] off b c (Qbg fs M0 l))->Qbf W rb t (QaG (QaG x (if Qbh M0 s<0 then [off] else [])) (Qcb fs M0 (ndL l)).2) (.map (some mb))->QcA (Qfr q o rb (if l=[] then [] else b::Qaf l)) w W->QdW fs rb t mb w q o x M0 (.mk 2 nn s off b c l) (.returned (.tuple #[])) W):=by
  intro W h1 h2 h3;have hr:QbK fs M0 (.mk 2 nn s off b c l)=.mk 2 (Qbh M0 s) [] off b c (Qbg fs M0 l):=by rw[Jaa,if_pos rfl]
  refine⟨rfl,by rw[hr];exact h1,?_,by rw[kA.o];exact h3⟩;rw[An.nd,K2,if_pos rfl];dsimp only;rw[Jt];exact h2
 clear tA rA kA;have nA:=VC s M0.length M0 rfl;have wv:IntKind.i64.wrap ((M0.length:Int)-1)=(M0.length:Int)-1:=IntWalk.i64_in _ zo;have eA:=Zh (HH.o.setN HA.o ((M0.length:Int)-1));have hc1:=HH.o.node.cells 1 (Iv nn) rfl;have yB:=HH.o.node.frz (o+1);have Q9:=HH.o.node.lt;have vA:Hi (Qbh M0 s=Qbh (M0.take M0.length) s):=by rw[Hi,List.take_length]
 clear HH;go_enter func75,ntmps75;go_wp2_with fail;clear hc1 yB Q9;generalize World.setCell w _ _=w1 at*;go_loopg [] M0.length λm wr=>m<=M0.length/\Hi (HdI fs rb t mb mn w wr q o x (.slice va M0.length vc) M0 g b c l 2 off ((m:Int)-1) s)/\Hi (Qbh M0 s=Qbh (M0.take m) s)
 case atStart=>exact⟨Nat.le_refl _,eA,vA⟩
 case round=>
 clear eA vA;obtain⟨wl,rfl⟩:=zG wr
 obtain⟨hm,hI,hx⟩:=hrel;have hD:Below wl.heap.size wl wl.drew:=(Below.refl wl.heap.size wl).drew;have HI:=Zh (hI.o.below hD);clear hD;have c1:wl.cell? ⟨q,o+1,none⟩=some (Iv ((gk:Int)-1)):=hI.o.node.cells 1 _ rfl;have c2:wl.cell? ⟨q,o+2,none⟩=some (Sv s):=hI.o.node.cells 2 _ rfl;have c3:wl.cell? ⟨q,o+3,none⟩=some (Iv off):=hI.o.node.cells 3 _ rfl;have f1:=hI.o.node.frz (o+1);have f2:=hI.o.node.frz (o+2);have Q9:=hI.o.node.lt;have hv:=hI.o.vars;have HX:=Zh hx.o
 cases gk with
 |zero=>
  have dn:((((0:Nat):Int)-1):Int) = -1:=zo
  rw[dn]at c1 HI;have HL:Hi (Qbh M0 s = -1):=by rw[Hi,HX.o];rfl
  rw[HL.o,if_pos zd]at E0;clear HX dn hI hx hv nA HL;go_upto_region 3 with fail;go_region;go_upto_region 6 with fail;clear c1 c2 c3 f1 f2 Q9;generalize wl.drew=w2 at*;have bA:Below w2.heap.size w2 w2.drew:=(Below.refl w2.heap.size w2).drew;replace HI:=Zh (HI.o.below bA);clear bA;refine wp_region_held_drew (S:=λ_=>True) zk (trivial) λhH=>?_;refine ZT (i:=0) (v:=?vT1_0) rfl (Or.inl ⟨by rfl,?yT1_0⟩) ?_
  case yT1_0=>exact ZyQ
  try simp only[zX]
  refine ZT (i:=1) (v:=?vT1_1) rfl (Or.inl ⟨by rfl,?yT1_1⟩) ?_
  case yT1_1=>exact ZyQ
  try simp only[zX]
  refine ZT (i:=2) (v:=?vT1_2) rfl (Or.inl ⟨by rfl,?yT1_2⟩) ?_
  case yT1_2=>exact ZyQ
  try simp only[zX]
  refine ZT (i:=3) (v:=?vT1_3) rfl (Or.inl ⟨by rfl,?yT1_3⟩) ?_
  case yT1_3=>exact ZyQ
  try simp only[zX]
  refine ZT (i:=4) (v:=?vT1_4) rfl (Or.inl ⟨by rfl,?yT1_4⟩) ?_
  case yT1_4=>exact ZyQ
  try simp only[zX]
  refine ZT (i:=5) (v:=?vT1_5) rfl (Or.inl ⟨by rfl,?yT1_5⟩) ?_
  case yT1_5=>exact ZyQ
  try simp only[zX]
  refine ZS 6 rfl λK hK=>?_;have c3:=HI.o.node.cells 3 (Value.int .i64 off) rfl;go_simp;clear c3;refine zU hK trivial λhH=>?_;clear hK K
  try simp only[zX]
  refine ZS 7 rfl λK hK=>?_
  (go_simp;go_at_call 73;refine(Vo _ rb t (x) (.map (some mb)) off HI.o.flt).mono ?_;intro e w3 h3)
  have hst:=HI.o.add HA.o h3;obtain rfl:=h3.1;replace HI:=Zh hst;clear h3 hst;refine zU hK trivial λhH=>?_;clear hK K
  try simp only[zX]
  refine wpAnyH_done zk ?_ _;have c2:=HI.o.node.cells 2 (Value.string (bs s)) rfl;have f2:=HI.o.node.frz (o+2);have Q9:=HI.o.node.lt;have HS:Hi (HdI fs rb t mb mn w (w3.setCell ⟨q,o+2,none⟩ Em) q o (QaG x [off]) (.slice va M0.length vc) M0 g b c l 2 off (-1) []):=HI.o.setS HA.o [];clear HI;go_upto_region 17 with fail;clear c2 f2 Q9;generalize World.setCell w3 _ _=w4 at*;have HH:=HS;clear HS;have HK:Hi (QdN fs rb t mb mn w w4 q o (QaG x [off]) (.slice va M0.length vc) M0 g b l #[Iv 2,Iv (-1),.string (bs []),Iv off,.slice ad l.length cc] 0):=HH.o.kid (N5.o _ _).symm;have c4:=HK.o.par 4 _ rfl;clear HH N5;go_wp2_with fail;clear c4;go_loopg [136] l.length λgg v136 wr=>∃i:Nat,gg+i=l.length/\v136=Iv i/\Hi (QdN fs rb t mb mn w wr q o (QaG x [off]) (.slice va M0.length vc) M0 g b l #[Iv 2,Iv (-1),.string (bs []),Iv off,.slice ad l.length cc] i)
  case atStart=>exact⟨0,rfl,rfl,HK⟩
  case round=>
  exact wx5
 |succ m=>
  have dm:(((m+1:Nat):Int)-1)=(m:Int):=zo
  rw[dm]at c1 HI;have wk:IntKind.i64.wrap ((m:Int)-1)=(m:Int)-1:=IntWalk.i64_in _ zo;have yA:m<M0.length:=zo
  have vB:(m:Int)<(M0.length:Int):=zo
  have j5:(m:Int)>=0:=zo
  obtain⟨u,hu⟩:∃u,M0[m]?=some u:=⟨M0[m],List.getElem?_eq_getElem yA⟩
  obtain⟨bB,aB,sA,pA,aA⟩:=hv;injection sA with IB _ j9;have jA:M0≠[]:=by intro e;rw[e]at yA;exact absurd yA zp
  obtain⟨g1,g2⟩:=aA jA;have cg:=g2 m u hu;rw[<-IB]at g1;subst g1;have xA:=JbZ s hu;rw[<-HX.o]at xA;have HN:=Zh (HI.o.setN HA.o ((m:Int)-1));have t1:=Jk u;have t2:=Jk s;clear HX hI hx IB j9 pA aA g2 hu jA dm
  by_cases OB:u=s
  ·subst OB;rw[if_pos rfl]at xA;rw[xA,if_neg zo,JcQ]at E0;have q1:(u==u)=true:=zp
   have q2:(u !=u)=false:=zp
   have xB:¬((m:Int)<0):=zo
   have HS:Hi (HdI fs rb t mb mn w ((wl.setCell ⟨q,o+2,none⟩ Em).drew) q o x (.slice (some ⟨g,0,none⟩) M0.length vc) M0 g b c l 2 off (m:Int) []):=HI.o.setS HA.o [];go_upto_region 3 with fail;go_region;go_upto_region 7 with fail;go_upto_region 17 with fail;generalize World.drew (World.setCell wl _ _)=w2 at*;have HH:=HS;have HK:Hi (QdN fs rb t mb mn w w2 q o (x) (.slice (some ⟨g,0,none⟩) M0.length vc) M0 g b l #[Iv 2,Iv (m:Int),.string (bs []),Iv off,.slice ad l.length cc] 0):=HH.o.kid (N5.o _ _).symm;have c4:=HK.o.par 4 _ rfl;go_wp2_with fail;go_loopg [136] l.length λgg v136 wr=>∃i:Nat,gg+i=l.length/\v136=Iv i/\Hi (QdN fs rb t mb mn w wr q o (x) (.slice (some ⟨g,0,none⟩) M0.length vc) M0 g b l #[Iv 2,Iv (m:Int),.string (bs []),Iv off,.slice ad l.length cc] i)
   case atStart=>exact⟨0,rfl,rfl,HK⟩
   case round=>
   exact wx5
  ·rw[if_neg OB]at xA;have HL:=Zh xA;have q1:(u==s)=false:=zzq OB;have q2:(u !=s)=true:=bne_iff_ne.2 OB;go_upto_region 3 with fail;go_region;go_wp2_with fail;go_roundg m
   case measure=>exact Nat.lt_succ_self _
   case rel=>exact⟨by omega,HN,HL⟩
def JeS(fs:List By)(rb:Nat)(t:TypeId)(mb mn:Nat)(M9:fs.length<=1000000000)(n:Nat)
  (IH:∀(y:An)(vars':List By)(vv':Value)(g' q' o':Nat)(x':Option Int)(W:World),siz y.nd<=n->n+vars'.length<=1000000000->Qcl fs rb t mb mn W q' o' x' vv' vars' g' y->Calls prog 75 #[Pt rb,.pointer (some ⟨q',o',none⟩),vv'] W (QdW fs rb t mb W q' o' x' vars' y))
  (a:An) (M0:List By) (vv:Value) (g q o:Nat) (x:Option Int) (w:World) (hn:siz a.nd<=n+1) (hb:n+1+M0.length<=1000000000) (hpre:Qcl fs rb t mb mn w q o x vv M0 g a) (hk:a.kind=20):
  Calls prog 75 #[Pt rb,.pointer (some ⟨q,o,none⟩),vv] w (QdW fs rb t mb w q o x M0 a):=by
 obtain⟨k,nn,s,off,b,c,l⟩:=a;simp only[An.kind]at hk;obtain⟨R,hR⟩:∃R,QdW fs rb t mb w q o x M0 (.mk k nn s off b c l)=R:=⟨_,rfl⟩
 rw[hR];have HR:Hi (R=QdW fs rb t mb w q o x M0 (.mk k nn s off b c l)):=hR.symm;have hA:=Yk hpre;have hH:=hpre.hd;rw[YK]at hn;have hwf:=hpre.wf;unfold An.nd WfN at hwf;obtain⟨N2,_,_,cA,aA⟩:=hwf;obtain⟨ad,cc,M3,bA⟩:=Jn b c l
 have vA:∀n' s',Qaa (.mk k n' s' off b c l)=#[Iv k,Iv n',Sv s',Iv off,.slice ad l.length cc]:=λn' s'=>by
  show #[_,_,_,_,Qaw b c l]=_
  rw[M3]
 have jA:∀n' s',Qaa (.mk k n' s' off b c (Qbg fs M0 l))=#[Iv k,Iv n',Sv s',Iv off,.slice ad l.length cc]:=λn' s'=>by
  exact Qmh
 obtain⟨va,vc,rfl,kA,dA⟩:=hpre.vars;have nA:=Zh dA;have HAD:=Zh bA;have N5:=Zh vA;have A4:=Zh jA;have D8:=Zh aA;have uA:=Zh cA;have HH:=Zh hH;have HA:=Zh hA;have j4:Hi (Qaz (ndL l)<=n):=by rw[Hi];omega
 have eA:l.length<=n:=by have:=Jw l;omega
 have mA:Hi (k=19->l.length=2):=λe=>by have:=N2 e;rwa [J7,length_map]at this
 have zA:rb≠q:=hA.ra.2.2;have iA:Hi (foot (.mk k nn s off b c l)=if l=[] then [] else b::Qaf l):=Kt k nn s off b c l;have hc:=hH.node.cells;rw[vA]at hc;have d0:=hc 0 _ rfl;simp only[add_zero]at d0;subst hk
 have E0:Hi (∀W,Qcr W q o (.mk 20 ((Qag fs s).getD 0:Nat) [] off b c (Qbg fs M0 l))->Qbf W rb t (QaG (QaG x (if (Qag fs s).isNone=true then [off] else [])) (Qcb fs M0 (ndL l)).2) (.map (some mb))->QcA (Qfr q o rb (if l=[] then [] else b::Qaf l)) w W->QdW fs rb t mb w q o x M0 (.mk 20 nn s off b c l) (.returned (.tuple #[])) W):=by
  intro W h1 h2 h3;have hr:QbK fs M0 (.mk 20 nn s off b c l)=.mk 20 ((Qag fs s).getD 0:Nat) [] off b c (Qbg fs M0 l):=by rw[Jaa,if_neg zd,if_pos rfl]
  refine⟨rfl,by rw[hr];exact h1,?_,by rw[iA.o];exact h3⟩;rw[An.nd,K2,if_neg zd,if_pos rfl];dsimp only;rw[Jt];exact h2
 have yA:=HH.o.map.look uA.o;have xA:=(HH.o.map.same (w':=w.drew) rfl).look uA.o;have r2:=Ja HH.o.flt 2;simp only[zW]at r2;have c2:=HH.o.node.cells 2 (Value.string (bs s)) rfl;have HI:=Zh (HH.o.below (Below.refl w.heap.size w).drew)
 cases hfi:Qag fs s with
 |none=>
  rw[hfi]at yA xA E0;simp only[Option.getD,Option.isSome,Option.isNone,if_true,Int.ofNat_eq_natCast,Int.natCast_zero,Int.cast_ofNat_Int]at yA xA E0;go_enter func75,ntmps75;go_upto_region 9 with fail;go_region;go_upto_region 11 with fail;generalize w.drew=w2 at*;have gA:Below w2.heap.size w2 w2.drew:=(Below.refl w2.heap.size w2).drew;replace HI:=Zh (HI.o.below gA);refine wp_region_held_drew (S:=λ_=>True) zk (trivial) λhH=>?_;refine ZT (i:=0) (v:=?vT4_0) rfl (Or.inl ⟨by rfl,?yT4_0⟩) ?_
  case yT4_0=>exact ZyQ
  refine ZT (i:=1) (v:=?vT4_1) rfl (Or.inl ⟨by rfl,?yT4_1⟩) ?_
  case yT4_1=>exact ZyQ
  refine ZT (i:=2) (v:=?vT4_2) rfl (Or.inl ⟨by rfl,?yT4_2⟩) ?_
  case yT4_2=>exact ZyQ
  refine ZT (i:=3) (v:=?vT4_3) rfl (Or.inl ⟨by rfl,?yT4_3⟩) ?_
  case yT4_3=>exact ZyQ
  refine ZT (i:=4) (v:=?vT4_4) rfl (Or.inl ⟨by rfl,?yT4_4⟩) ?_
  case yT4_4=>exact ZyQ
  refine ZT (i:=5) (v:=?vT4_5) rfl (Or.inl ⟨by rfl,?yT4_5⟩) ?_
  case yT4_5=>exact ZyQ
  refine ZS 6 rfl λK hK=>?_;have c3:=HI.o.node.cells 3 (Value.int .i64 off) rfl;go_simp;refine zU hK trivial λhH=>?_
  refine ZS 7 rfl λK hK=>?_
  (go_simp;go_at_call 73;refine(Vo _ rb t (x) (.map (some mb)) off HI.o.flt).mono ?_;intro e w3 h3)
  have hst:=HI.o.add HA.o h3;obtain rfl:=h3.1;replace HI:=Zh hst;refine zU hK trivial λhH=>?_
  refine wpAnyH_done zk ?_ _;have c1:=HI.o.node.cells 1 (Value.int .i64 nn) rfl;have f1:=HI.o.node.frz (o+1);have c2:=HI.o.node.cells 2 (Value.string (bs s)) rfl;have f2:=HI.o.node.frz (o+2);have Q9:=HI.o.node.lt;have HS:Hi (HdI fs rb t mb mn w ((w3.setCell ⟨q,o+1,none⟩ (Iv 0)).setCell ⟨q,o+2,none⟩ Em) q o (QaG x [off]) (.slice va M0.length vc) M0 g b c l 20 off 0 []):=(HI.o.setN HA.o 0).setS HA.o [];go_upto_region 17 with fail;generalize World.setCell (World.setCell w3 _ _) _ _=w4 at*;have HH:=HS;have HK:Hi (QdN fs rb t mb mn w w4 q o (QaG x [off]) (.slice va M0.length vc) M0 g b l #[Iv 20,Iv 0,.string (bs []),Iv off,.slice ad l.length cc] 0):=HH.o.kid (N5.o _ _).symm;have c4:=HK.o.par 4 _ rfl;go_wp2_with fail;go_loopg [136] l.length λgg v136 wr=>∃i:Nat,gg+i=l.length/\v136=Iv i/\Hi (QdN fs rb t mb mn w wr q o (QaG x [off]) (.slice va M0.length vc) M0 g b l #[Iv 20,Iv 0,.string (bs []),Iv off,.slice ad l.length cc] i)
  case atStart=>exact⟨0,rfl,rfl,HK⟩
  case round=>
  exact wx5
 |some ix=>
  rw[hfi]at yA xA E0;simp only[Option.getD,Option.isSome,Option.isNone,Bool.false_eq_true,if_false,JcQ]at yA xA E0;have f1:w.frozen? ⟨q,o+1,none⟩=false:=HI.o.node.frz (o+1);have f2:w.frozen? ⟨q,o+2,none⟩=false:=HI.o.node.frz (o+2);have HS:Hi (HdI fs rb t mb mn w (((w.setCell ⟨q,o+1,none⟩ (Iv (ix:Nat))).setCell ⟨q,o+2,none⟩ Em).drew) q o x (.slice va M0.length vc) M0 g b c l 20 off (ix:Nat) []):=(HI.o.setN HA.o (ix:Nat)).setS HA.o [];go_enter func75,ntmps75;go_upto_region 9 with fail;go_region;go_upto_region 17 with fail;generalize World.drew (World.setCell (World.setCell w _ _) _ _)=w2 at*;have HH:=HS;have HK:Hi (QdN fs rb t mb mn w w2 q o (x) (.slice va M0.length vc) M0 g b l #[Iv 20,Iv (ix:Nat),.string (bs []),Iv off,.slice ad l.length cc] 0):=HH.o.kid (N5.o _ _).symm;have c4:=HK.o.par 4 _ rfl;go_wp2_with fail;go_loopg [136] l.length λgg v136 wr=>∃i:Nat,gg+i=l.length/\v136=Iv i/\Hi (QdN fs rb t mb mn w wr q o (x) (.slice va M0.length vc) M0 g b l #[Iv 20,Iv (ix:Nat),.string (bs []),Iv off,.slice ad l.length cc] i)
  case atStart=>exact⟨0,rfl,rfl,HK⟩
  case round=>
  exact wx5
def JdN(g n vc:Nat)(h:n<=vc)(W:World):(Instr.slice 23 (.slice (some ⟨g,0,none⟩) n vc) none (some (Iv n)) (some (Iv n))).run prog W=.ok (.slice (some ⟨g,0,none⟩) n n) W:=by
 rw[run_slice_hm W 23 (some ⟨g,0,none⟩) n vc (show prog.underlying 23=some (.slice (prog.elem 23)) by kernel_rfl) .i64 .i64 n n zo zo zo];rw[show (sizeOf (prog.elem 23)).run prog W=.ok 1 W by kernel_rfl];simp[Result.andThen,sliced,Addr.add]
def JdO(W:World):(Instr.slice 23 Nl none (some (Iv 0)) (some (Iv 0))).run prog W=.ok Nl W:=zk
def Qjk:(prog.info? 9).map (λi=>(i.zero,i.size,i.bytes))=some (some Em,1,16):=zk
def K3{ops:Array Oper}{o:Oper}{ac:Act}{K:Act->World->Prop}{Q:Exit->Act->World->Prop}{E:Prop}(w:World)(hgd:o.guard=none)(s x:Operand)
  (ho:o.op=.call {callee:=.builtin .append,args:=#[s,x],argTypes:=#[23,23]}) (M0:List By) (g:Nat) (sv:Value) (wC:(M0=[]/\sv=Nl)\/(M0≠[]/\sv=.slice (some ⟨g,0,none⟩) M0.length M0.length)) (hs:ac.eval s=sv)
  (hc:M0≠[]->∀i s,M0[i]?=some s->w.cell? ⟨g,i,none⟩=some (Sv s)) (rb:Nat) (nm:By) (hx:ac.eval x=.slice (some ⟨rb,0,none⟩) 1 1) (hrow:w.heap[rb]?=some (.cells #[Sv nm] 9 (0,0)))
  (hlen:M0.length<=1000000000)
  (h:∀w' cc,Qdb w' (.slice (some ⟨w.heap.size,0,none⟩) (M0.length+1) cc) (M0++[nm]) w.heap.size->Below w.heap.size w w'->K (ac.put o.dst (.slice (some ⟨w.heap.size,0,none⟩) (M0.length+1) cc)) w'):
  if Region.wanted o (yielded ops ac.tmps)=true then Oper.wp prog o ac w K Q else E:=by
 have hw:Region.wanted o (yielded ops ac.tmps)=true:=by simp[Region.wanted,hgd]
 rw[if_pos hw];obtain⟨i0,hi,uA,yA,zA⟩:=info_parts Qjk
 have xA:∀j u,[Value.string (bs nm)][j]?=some u->w.cell? ((⟨rb,0,none⟩:Addr).add j)=some u:=λj u hj=>by
  rw[show (⟨rb,0,none⟩:Addr).add j=⟨rb,j,none⟩ by unfold Addr.add;split<;>simp_all];exact Ks hrow hj
 have M5:∀(cs:Array Value)(cc:Nat),M0.length+1<=cc->(∀(i:Nat)(s:By),(M0++[nm])[i]?=some s->cs[i]?=some (Value.string (bs s)))->Qdb (w.drew.alloc (.cells cs 9)) (.slice (some ⟨w.heap.size,0,none⟩) (M0.length+1) cc) (M0++[nm]) w.heap.size:=by
  intro cs cc h1 h2;refine⟨_,_,by rw[List.length_append];rfl,⟨by rw[List.length_append];exact h1,λe=>by simp at e⟩,λ_=>⟨rfl,λi s hs=>?_⟩⟩;exact(Ja (zzw w.drew (.cells cs 9)) i).trans (h2 i s hs)
 have G7:∀cs:Array Value,Below w.heap.size w (w.drew.alloc (.cells cs 9)):=λcs=>((Below.refl w.heap.size w).drew).alloc zzl _
 unfold Oper.wp execOp
 rcases wC with⟨hv,rfl⟩|⟨hv,rfl⟩
 ·subst hv;have hr:=run_append_nil (P:=prog) w 23 o.type 9 i0 _ underlying23 hi uA ⟨rb,0,none⟩ 1 1 [Sv nm] (by rw[yA];rfl) xA zd zd (by rw[zA];decide);simp only[ho,resolve,invoke,builtin,Sem.run_bind,Sem.run_pure,Result.andThen_ok,List.map_toArray,map_cons,map_nil,hs,hx,hr];refine h _ _ (M5 _ _ (grownCap_ge w 1 0 9) λi s hs=>?_) (G7 _);have:i=0:=by have:=(List.getElem?_eq_some_iff.1 hs).1;simp at this;exact this
  subst this;have hs':nm=s:=by simpa using hs
  subst hs';rw[Array.getElem?_append_left zp];rfl
 ·have hr:=run_append_grow (P:=prog) w 23 o.type 9 i0 _ underlying23 hi uA ⟨g,0,none⟩ M0.length M0.length (M0.map λs=>Sv s) (by rw[yA];simp) (λj u hj=>by
   rw[show (⟨g,0,none⟩:Addr).add j=⟨g,j,none⟩ by unfold Addr.add;split<;>simp_all];rw[getElem?_map]at hj;obtain⟨s,h1,rfl⟩:=Option.map_eq_some_iff.1 hj
   exact hc hv j s h1) ⟨rb,0,none⟩ 1 1 [Sv nm] (by rw[yA];rfl) xA zo zo (growslice_fits zo (by rw[zA];omega))
  simp only[ho,resolve,invoke,builtin,Sem.run_bind,Sem.run_pure,Result.andThen_ok,List.map_toArray,map_cons,map_nil,hs,hx,hr];refine h _ _ (M5 _ _ (grownCap_ge w (M0.length+1) M0.length 9) λi s hs=>?_) (G7 _);have hlt:=(List.getElem?_eq_some_iff.1 hs).1;rw[Array.getElem?_append_left (by simp at hlt |-;omega)];have e:(M0.map λs=>Value.string (bs s)).toArray++[Value.string (bs nm)].toArray=((M0++[nm]).map λs=>Value.string (bs s)).toArray:=zp
  rw[e,List.getElem?_toArray,getElem?_map,hs];rfl
def QdN.below{fs:List By}{rb:Nat}{t:TypeId}{mb mn:Nat}{w W W':World}{q o:Nat}{x1:Option Int}{vv:Value}{M0:List By}{g b:Nat}{l:List An}{pc:Array Value}{i:Nat}(h:QdN fs rb t mb mn w W q o x1 vv M0 g b l pc i)(hb:Below W.heap.size W W'):QdN fs rb t mb mn w W' q o x1 vv M0 g b l pc i:=by
 have hc:QcA (λ_ _=>False) W W':=QcA.of_below hb;refine⟨λj u hj=>(hc.cell q (o+j) h.lts.1 λh=>h).trans (h.par j u hj),λj=>(hc.frz q j h.lts.1).trans (h.pfr j),Z2 b _ 0 h.kids (λhne=>hb.block b (h.lts.2 ?_)) λq hq=>hb.block q (JcM b _ 0 h.kids q hq),λhne j=>(hc.frz b j (h.lts.2 hne)).trans (h.kfr hne j),h.flt.chgC hc λ_ h=>h,h.map.same (hb.block mb h.map.lt),h.vars.chgC hc λ_ _ h=>h,h.chg.trans (QcA.of_below hb),Nat.lt_of_lt_of_le h.lts.1 hb.size,λhne=>Nat.lt_of_lt_of_le (h.lts.2 hne) hb.size⟩;intro e;subst e;simp at hne
def QdN.fresh{fs:List By}{rb:Nat}{t:TypeId}{mb mn:Nat}{w W:World}{q o:Nat}{x1:Option Int}{vv:Value}{M0:List By}{g b:Nat}{y z:An}{pc:Array Value}(h:QdN fs rb t mb mn w W q o x1 vv M0 g b [y,z] pc 1):∀g',W.heap.size<=g'->g'∉foot z/\g'≠b/\g'≠rb:=by
 intro g' hg;have h1:=h.lts.2 zp;have h2:=Jb h.flt;refine⟨λhm=>?_,by omega,by omega⟩
 have:=JcM b _ 0 h.kids g' (by
  simp only[List.take_succ_cons,List.take_zero,map_cons,map_nil,List.drop_succ_cons,List.drop_zero,List.singleton_append,Qaf,List.append_nil]
  exact List.mem_append_right _ hm)
 omega
def JjV{fs:List By}{rb:Nat}{t:TypeId}{mb mn:Nat}{w W W':World}{q o:Nat}{x1 x':Option Int}{vv:Value}{M0 vars':List By}{g b c:Nat}{y z:An}{pc:Array Value}{e:Ending}{k n off:Int}{s:By}(h:QdN fs rb t mb mn w W q o x1 vv M0 g b [y,z] pc 1)(hpc:pc=Qaa (.mk k n s off b c [y,z]))(hA:QeP q rb g mb b M0 [y,z])(hr:QdW fs rb t mb W b (1*5) x' vars' z e W'):
  HdI fs rb t mb mn w W' q o (QaG x' (Qdq fs vars' z.nd).2) vv M0 g b c [QbK fs M0 y,QbK fs vars' z] k off n s:=by
 obtain⟨_,hn,hf,hc⟩:=hr;have R4:∀d,d∈foot z->d∈Qaf [y,z]:=λd hd=>Jz zp d hd
 have B5:=h.lts.2 zp
 have hq:∀j,¬Qfr b (1*5) rb (foot z) q j:=λj hj=>by
  rcases hj with⟨e,_⟩|hj|e
  ·exact hA.qa.2 zp e
  ·exact hA.qa.1 (R4 _ hj)
  ·exact hA.ra.2.2 e.symm
 have yA:([y,z].take 1).map (QbK fs M0)++[y,z].drop 1=[QbK fs M0 y,z]:=rfl;have xA:=h.kids;rw[yA]at xA;obtain⟨k1,k2⟩:=JO (i:=0) xA rfl;have hfl:Qaf [QbK fs M0 y,QbK fs vars' z]=Qaf [y,z]:=by simp only[Qaf,JY]
 have M3:Qaw b c [QbK fs M0 y,QbK fs vars' z]=Qaw b c [y,z]:=by simp[Qaw]
 refine⟨⟨λj u hj=>?_,λj=>(hc.frz q j h.lts.1).trans (h.pfr j),?_⟩,hf,h.map.same (hc.block mb h.map.lt λj hj=>?_),h.vars.chgC hc λhv j hj=>?_,?_⟩
 ·refine(hc.cell q (o+j) h.lts.1 (hq _)).trans (h.par j u ?_);rw[hpc]
  show (#[_,_,_,_,Qaw b c [y,z]]:Array Value).toList[j]?=some u
  rw[<-M3];exact hj
 ·unfold An.At;refine⟨λ_ j=>(hc.frz b j B5).trans (h.kfr zp j),?_⟩;unfold AtL;refine⟨λj u hj=>?_,?_,?_⟩
  ·have zA:j<5:=by have:=(List.getElem?_eq_some_iff.1 hj).1;rw[Array.length_toList,JV]at this;exact this
   refine(hc.cell b (0*5+j) B5 λhp=>?_).trans (k1 j u hj)
   rcases hp with⟨_,h1,h2⟩|h1|h1
   ·omega
   ·exact hA.nod.2 zp (R4 _ h1)
   ·exact hA.ra.2.1 zp h1.symm
  ·refine VW hc _ k2 λd hd j hj=>?_
   rw[JY]at hd
   rcases hj with⟨e,_⟩|hj|e
   ·subst e;exact hA.nod.2 zp (Jz zp _ hd)
   ·exact VX (l:=[y,z]) (i:=1) (m:=0) hA.nod.1 rfl rfl zd hd hj
   ·subst e;exact hA.ra.1 (Jz zp _ hd)
  ·unfold AtL;exact⟨hn.cells,hn.at',by unfold AtL;trivial⟩
 ·rcases hj with⟨e,_⟩|hj|e
  ·exact hA.ma.2.1 zp e
  ·exact hA.ma.1 (R4 _ hj)
  ·exact hA.ma.2.2.2 e
 ·rcases hj with⟨e,_⟩|hj|e
  ·exact(hA.ga hv).2.1 zp e
  ·exact(hA.ga hv).1 (R4 _ hj)
  ·exact(hA.ga hv).2.2.2 e
 ·have h3:=h.chg;rw[if_neg zp]at h3 |-;rw[hfl];refine h3.step hc λd j hj=>.inl ?_
  exact Qlx
def JeT{q rb g mb b:Nat}{M0:List By}{l l':List An}(h:QeP q rb g mb b M0 l)(hf:Qaf l'=Qaf l)(hl:l≠[])(hl':l'≠[]):QeP q rb g mb b M0 l':=
 ⟨⟨by rw[hf];exact h.nod.1,λ_=>by rw[hf];exact h.nod.2 hl⟩,⟨by rw[hf];exact h.qa.1,λ_=>h.qa.2 hl⟩,⟨by rw[hf];exact h.ra.1,λ_=>h.ra.2.1 hl,h.ra.2.2⟩,λhv=>⟨by rw[hf];exact(h.ga hv).1,λ_=>(h.ga hv).2.1 hl,(h.ga hv).2.2⟩,⟨by rw[hf];exact h.ma.1,λ_=>h.ma.2.1 hl,h.ma.2.2⟩⟩
def wx8{P:Prop}(h:P:=by
  try simp only[Act.put,ZA,ZB,ZC]
  refine ZS 18 rfl (λK hK=>?_);have hz:=HK.o.pre HA.o rfl D8.o;have M6:(M0++[s]).length=M0.length+1:=by simp
  have cz:=IH z (M0++[s]) (.slice (some ⟨g5,0,none⟩) (M0.length+1) cc5) g5 b (1*5) _ w5 hsz (by rw[M6];omega) ⟨hz.node,hz.nod,hz.qf,hz.rf,λ_=>WA.o,hz.mf,hz.flt,hz.map,fC.o,hz.wf⟩
  (go_simp;go_at_call 75;refine cz.mono ?_;intro e w6 S9)
  have hh:=JjV HK.o (N5.o nn s).symm HA.o S9;obtain rfl:=S9.1;have HI:=Zh hh;clear hz cz S9 hh HK fC WA;refine hK.out _ _ trivial (λhH=>?_);clear hK K
  try simp only[Act.put,ZA,ZB,ZC]
  refine wpAnyH_done (by kernel_rfl) ?_ _;have OD:=Zh (JeT HA.o (by simp only[Qaf,JY]:Qaf [QbK fs M0 y,QbK fs (M0++[s]) z]=Qaf [y,z]) (by simp) (by simp));have c1:=HI.o.node.cells 1 (Value.int .i64 nn) rfl;have f1:=HI.o.node.frz (o+1);have c2:=HI.o.node.cells 2 (Value.string (bs s)) rfl;have f2:=HI.o.node.frz (o+2);have Q9:=HI.o.node.lt;have HS:=Zh ((HI.o.setN OD.o (M0.length:Int)).setS OD.o []);clear HI;go_wp2;go_end0;rw[HR.o];have e5:(Qcb fs M0 (ndL ([y,z].take 1))).2=(Qdq fs M0 y.nd).2:=by simp[ndL,Qcb]
  have hfl:=HS.o.flt;rw[e5]at hfl
  exact E0.o _ HS.o.node hfl HS.o.chg):P:=h
def QnS{P:Prop}(h:P:=by
  try simp only[Act.put,ZA,ZB,ZC]
  refine ZS 17 rfl (λK hK=>?_)
  (refine K3 (w3.alloc (.cells #[Sv s] 9)) (by rfl) (.tmp 115) (.tmp 120) (by rfl) M0 g _ C7.o (by rfl) (r8.o _ S4.o) w3.heap.size s (by rfl) P3.o hvl ?_;intro w5 cc5 QB C3)
  replace HK:=Zh (HK.o.below C3);have fC:=Zh QB;have WA:=Zh (QD.o (w3.alloc (.cells #[Sv s] 9)).heap.size (by simp));generalize (w3.alloc (.cells #[Sv s] 9)).heap.size=g5 at*;clear QB C3 P3 S4 r8 C7;refine hK.out _ _ trivial (λhH=>?_);clear hK K
  exact wx8):P:=h
def QnF{P:Prop}(h:P:=by
  try simp only[Act.put,ZA,ZB,ZC]
  refine ZS 16 rfl (λK hK=>?_);go_simp;refine hK.out _ _ trivial (λhH=>?_);have L2:Below w3.heap.size w3 (w3.alloc (.cells #[Sv s] 9)):=zzb.alloc zzl _;replace HK:=Zh (HK.o.below L2);have P3:=Zh (zzw w3 (.cells #[Sv s] 9));have S4:=Zh L2;clear L2;clear hK K
  exact QnS):P:=h
def JgZ(fs:List By)(rb:Nat)(t:TypeId)(mb mn:Nat)(M9:fs.length<=1000000000)(n:Nat)
  (IH:∀(y:An)(vars':List By)(vv':Value)(g' q' o':Nat)(x':Option Int)(W:World),siz y.nd<=n->n+vars'.length<=1000000000->Qcl fs rb t mb mn W q' o' x' vv' vars' g' y->Calls prog 75 #[Pt rb,.pointer (some ⟨q',o',none⟩),vv'] W (QdW fs rb t mb W q' o' x' vars' y))
  (a:An) (M0:List By) (vv:Value) (g q o:Nat) (x:Option Int) (w:World) (hn:siz a.nd<=n+1) (hb:n+1+M0.length<=1000000000) (hpre:Qcl fs rb t mb mn w q o x vv M0 g a) (hk:a.kind=19):
  Calls prog 75 #[Pt rb,.pointer (some ⟨q,o,none⟩),vv] w (QdW fs rb t mb w q o x M0 a):=by
 obtain⟨k,nn,s,off,b,c,l⟩:=a;simp only[An.kind]at hk;obtain⟨R,hR⟩:∃R,QdW fs rb t mb w q o x M0 (.mk k nn s off b c l)=R:=⟨_,rfl⟩
 rw[hR];have HR:Hi (R=QdW fs rb t mb w q o x M0 (.mk k nn s off b c l)):=hR.symm;have hA:=Yk hpre;have hH:=hpre.hd;rw[YK]at hn;have hwf:=hpre.wf;unfold An.nd WfN at hwf;obtain⟨N2,_,_,aA,nA⟩:=hwf;obtain⟨ad,cc,M3,jA⟩:=Jn b c l
 have bA:∀n' s',Qaa (.mk k n' s' off b c l)=#[Iv k,Iv n',Sv s',Iv off,.slice ad l.length cc]:=λn' s'=>by
  show #[_,_,_,_,Qaw b c l]=_
  rw[M3]
 have rA:∀n' s',Qaa (.mk k n' s' off b c (Qbg fs M0 l))=#[Iv k,Iv n',Sv s',Iv off,.slice ad l.length cc]:=λn' s'=>by
  exact Qmh
 obtain⟨va,vc,rfl,cA,pA⟩:=hpre.vars;have yB:=Zh pA;have HAD:=Zh jA;have N5:=Zh bA;have A4:=Zh rA;have D8:=Zh nA;have aB:=Zh aA;have HH:=Zh hH;have HA:=Zh hA;have j4:Hi (Qaz (ndL l)<=n):=by rw[Hi];omega
 have eA:l.length<=n:=by have:=Jw l;omega
 have gA:Hi (k=19->l.length=2):=λe=>by have:=N2 e;rwa [J7,length_map]at this
 have zA:rb≠q:=hA.ra.2.2;have F4:q≠rb:=Ne.symm zA;have qA:Hi (foot (.mk k nn s off b c l)=if l=[] then [] else b::Qaf l):=Kt k nn s off b c l;have hc:=hH.node.cells;rw[bA]at hc;have d0:=hc 0 _ rfl;simp only[add_zero]at d0;subst hk;have e2:((19:Int)==2)=false:=zd
 have vB:((19:Int)==20)=false:=zd
 have zB:((19:Int)==19)=true:=zd
 obtain⟨y,z,tA⟩:∃y z,l=[y,z]:=by
  have:=gA.o rfl
  match l,this with
  |[y,z],_=>exact⟨y,z,rfl⟩
 subst tA;have hadd:ad=some ⟨b,0,none⟩:=HAD.o zp;subst hadd
 have E0:Hi (∀W,Qcr W q o (.mk 19 M0.length [] off b c [QbK fs M0 y,QbK fs (M0++[s]) z])->Qbf W rb t (QaG (QaG x (Qdq fs M0 y.nd).2) (Qdq fs (M0++[s]) z.nd).2) (.map (some mb))->QcA (Qfr q o rb (if [QbK fs M0 y,QbK fs (M0++[s]) z]=[] then [] else b::Qaf [QbK fs M0 y,QbK fs (M0++[s]) z])) w W->QdW fs rb t mb w q o x M0 (.mk 19 nn s off b c [y,z]) (.returned (.tuple #[])) W):=by
  intro W h1 h2 h3;have hr:QbK fs M0 (.mk 19 nn s off b c [y,z])=.mk 19 M0.length [] off b c [QbK fs M0 y,QbK fs (M0++[s]) z]:=by rw[Jaa,if_neg zd,if_neg zd,if_pos rfl]
  refine⟨rfl,by rw[hr];exact h1,?_,?_⟩
  ·rw[An.nd,K2,if_neg zd,if_neg zd,if_pos rfl];simp only[ndL];rw[Jt];exact h2
  ·rw[qA.o,if_neg zp];rw[if_neg zp]at h3;simp only[Qaf,JY]at h3 |-;exact h3
 have K0:=HH.o.kid (N5.o nn s).symm;have kA:siz y.nd<=n:=le_trans (JH (by simp:y∈[y,z])) j4.o;have hsz:siz z.nd<=n:=le_trans (JH (by simp:z∈[y,z])) j4.o;have cy:=IH y M0 (.slice va M0.length vc) g b (0*5) (QaG x (Qcb fs M0 (ndL ([y,z].take 0))).2) w kA zo (K0.pre HA.o rfl D8.o);have c4:=K0.par 4 _ rfl;have iA:=Zh K0;have xB:=Zh cA;go_enter func75,ntmps75;go_wp2_with fail;refine cy.mono ?_;intro e w2 hr;have dA:=Zh (iA.o.step HA.o rfl hr);obtain rfl:=hr.1;go_upto_region 15 with fail;have HK:Hi (QdN fs rb t mb mn w w2.drew q o x (.slice va M0.length vc) M0 g b [y,z] #[Iv 19,Iv nn,Sv s,Iv off,.slice (some ⟨b,0,none⟩) [y,z].length cc] 1):=dA.o.below (Below.refl w2.heap.size w2).drew;obtain⟨bB,uB,mA,vA,xA⟩:=HK.o.vars;injection mA with IB hvn j9;subst IB j9
 obtain⟨sv,uA,aA⟩:∃sv,((M0=[]/\sv=Nl)\/(M0≠[]/\sv=.slice (some ⟨g,0,none⟩) M0.length M0.length))/\∀W:World,(Instr.slice 23 (.slice va M0.length vc) none (some (Iv M0.length)) (some (Iv M0.length))).run prog W=.ok sv W:=by
  by_cases hv0:M0=[]
  ·obtain⟨rfl,rfl⟩:=vA.2 hv0;subst hv0;exact⟨_,.inl ⟨rfl,rfl⟩,JdO⟩
  ·obtain⟨rfl,_⟩:=xA hv0;exact⟨_,.inr ⟨hv0,rfl⟩,JdN g M0.length vc vA.1⟩
 have C7:=Zh uA;have QD:=Zh HK.o.fresh;have sA:∀W':World,Below w2.drew.heap.size w2.drew W'->M0≠[]->∀i s,M0[i]?=some s->W'.cell? ⟨g,i,none⟩=some (Sv s):=λW' hb hv i s hs=>(hb.cell (World.block_lt_of_cell? _ _ ((xA hv).2 i s hs))).trans ((xA hv).2 i s hs)
 have r8:=Zh sA;have yA:∃a m c',sv=.slice a m c':=by rcases uA with⟨_,rfl⟩|⟨_,rfl⟩<;>exact⟨_,_,_,rfl⟩
 obtain⟨sa,sm,sc,rfl⟩:=yA;have hvl:M0.length<=1000000000:=zo
 refine wp_region_held_drew (S:=λ_=>True) zk (trivial) λhH=>?_;generalize w2.drew=w3 at*;refine ZT (i:=0) (v:=?vT7_0) rfl (Or.inl ⟨by rfl,?yT7_0⟩) ?_
 case yT7_0=>exact ZyQ
 refine ZT (i:=1) (v:=?vT7_1) rfl (Or.inl ⟨by rfl,?yT7_1⟩) ?_
 case yT7_1=>exact ZyQ
 refine ZT (i:=2) (v:=?vT7_2) rfl (Or.inl ⟨by rfl,?yT7_2⟩) ?_
 case yT7_2=>exact ZyQ
 refine ZT (i:=3) (v:=?vT7_3) rfl (Or.inl ⟨by rfl,?yT7_3⟩) ?_
 case yT7_3=>exact ZyQ
 refine ZT (i:=6) (v:=?vT7_6) rfl (Or.inl ⟨by rfl,?yT7_6⟩) ?_
 case yT7_6=>exact ZyQ
 refine ZT (i:=7) (v:=?vT7_7) rfl (Or.inl ⟨by rfl,?yT7_7⟩) ?_
 case yT7_7=>exact ZyQ
 refine ZT (i:=8) (v:=?vT7_8) rfl (Or.inl ⟨by rfl,?yT7_8⟩) ?_
 case yT7_8=>exact ZyQ
 refine ZT (i:=9) (v:=?vT7_9) rfl (Or.inl ⟨by rfl,?yT7_9⟩) ?_
 case yT7_9=>exact ZyQ
 refine ZT (i:=10) (v:=?vT7_10) rfl (Or.inl ⟨by rfl,?yT7_10⟩) ?_
 case yT7_10=>exact ZyQ
 refine ZT (i:=11) (v:=?vT7_11) rfl (Or.inl ⟨by rfl,?yT7_11⟩) ?_
 case yT7_11=>exact ZyQ
 refine ZT (i:=12) (v:=?vT7_12) rfl (Or.inl ⟨by rfl,?yT7_12⟩) ?_
 case yT7_12=>exact ZyQ
 refine ZT (i:=13) (v:=?vT7_13) rfl (Or.inl ⟨by rfl,?yT7_13⟩) ?_
 case yT7_13=>exact ZyQ
 refine ZT (i:=14) (v:=?vT7_14) rfl (Or.inl ⟨by rfl,?yT7_14⟩) ?_
 case yT7_14=>exact ZyQ
 refine ZR (rs:=[4,15]) (AllReadyH.cons rfl (λK hK=>?_) (AllReadyH.cons rfl (λK hK=>?_) AllReadyH.nil))
 ·have c4:=HK.o.par 4 _ rfl;go_simp;refine zU hK trivial λhH=>?_
  refine ZT (i:=5) (v:=?vT8_5) rfl (Or.inl ⟨by rfl,?yT8_5⟩) ?_
  case yT8_5=>exact ZyQ
  refine ZS 15 rfl λK hK=>?_;have c2:=HK.o.par 2 _ rfl;go_simp;refine zU hK trivial λhH=>?_;exact QnF
 ·have c2:=HK.o.par 2 _ rfl;go_simp;refine zU hK trivial λhH=>?_
  refine ZR (rs:=[4,16]) (AllReadyH.cons rfl (λK hK=>?_) (AllReadyH.cons rfl (λK hK=>?_) AllReadyH.nil))
  ·have c4:=HK.o.par 4 _ rfl;go_simp;refine zU hK trivial λhH=>?_
   refine ZT (i:=5) (v:=?vT14_5) rfl (Or.inl ⟨by rfl,?yT14_5⟩) ?_
   case yT14_5=>exact ZyQ
   exact QnF
  ·go_simp;refine zU hK trivial λhH=>?_;have L2:Below w3.heap.size w3 (w3.alloc (.cells #[Sv s] 9)):=zzb.alloc zzl _;replace HK:=Zh (HK.o.below L2);have P3:=Zh (zzw w3 (.cells #[Sv s] 9));have S4:=Zh L2
   refine ZR (rs:=[4,17]) (AllReadyH.cons rfl (λK hK=>?_) (AllReadyH.cons rfl (λK hK=>?_) AllReadyH.nil))
   ·have c4:=HK.o.par 4 _ rfl;go_simp;refine zU hK trivial λhH=>?_
    refine ZT (i:=5) (v:=?vT19_5) rfl (Or.inl ⟨by rfl,?yT19_5⟩) ?_
    case yT19_5=>exact ZyQ
    exact QnS
   ·(refine K3 (w3.alloc (.cells #[Sv s] 9)) zr (.tmp 115) (.tmp 120) zr M0 g _ C7.o zr (r8.o _ S4.o) w3.heap.size s zr P3.o hvl ?_;intro w5 cc5 QB C3)
    replace HK:=Zh (HK.o.below C3);have fC:=Zh QB;have WA:=Zh (QD.o (w3.alloc (.cells #[Sv s] 9)).heap.size zp);generalize (w3.alloc (.cells #[Sv s] 9)).heap.size=g5 at*;refine zU hK trivial λhH=>?_
    refine ZS 4 rfl λK hK=>?_;have c4:=HK.o.par 4 _ rfl;go_simp;refine zU hK trivial λhH=>?_
    refine ZT (i:=5) (v:=?vT23_5) rfl (Or.inl ⟨by rfl,?yT23_5⟩) ?_
    case yT23_5=>exact ZyQ
    exact wx8
def Jab(fs:List By)(rb:Nat)(t:TypeId)(mb mn:Nat)(M9:fs.length<=1000000000):∀(n:Nat)(a:An)(M0:List By)(vv:Value)(g q o:Nat)(x:Option Int)(w:World),siz a.nd<=n->n+M0.length<=1000000000->Qcl fs rb t mb mn w q o x vv M0 g a->Calls prog 75 #[Pt rb,.pointer (some ⟨q,o,none⟩),vv] w (QdW fs rb t mb w q o x M0 a)
 |0,a,M0,vv,g,q,o,x,w,hn,_,_=>by
  have:=KN a.nd;omega
 |n+1,a,M0,vv,g,q,o,x,w,hn,hb,hpre=>by
  have IH:=λ(y:An) vars' vv' g' q' o' x' W h1 h2 h3=>Jab fs rb t mb mn M9 n y vars' vv' g' q' o' x' W h1 h2 h3
  by_cases h2:a.kind=2
  ·exact JgY fs rb t mb mn M9 n IH a M0 vv g q o x w hn hb hpre h2
  by_cases O2:a.kind=20
  ·exact JeS fs rb t mb mn M9 n IH a M0 vv g q o x w hn hb hpre O2
  by_cases N2:a.kind=19
  ·exact JgZ fs rb t mb mn M9 n IH a M0 vv g q o x w hn hb hpre N2
  exact JeR fs rb t mb mn M9 n IH a M0 vv g q o x w hn hb hpre h2 O2 N2
def YP(l:List By)(v s:By):Qag (l++[v]) s=match Qag l s with|some k=>some k|none=>if v=s then some l.length else none:=by
 unfold Qag;rw[List.findIdx?_append]
 cases h:List.findIdx? (λv=>decide (v=s)) l with
 |some k=>simp
 |none=>by_cases e:v=s<;>simp[e]
def YQ(l:List By)(s:By):(Qag l s).isSome=decide (s∈l):=by
 unfold Qag;rw[List.findIdx?_isSome]
 induction l with
 |nil=>simp
 |cons a r ih=>
  simp only[List.any_cons,ih,List.mem_cons]
  by_cases e:a=s
  ·simp[e]
  ·have e':¬s=a:=λh=>e h.symm
   simp[e,e']
def VD:∀(l:List (By×Int))(x:By×Int)(seen:List By),QdM (l++[x]) seen=QdM l seen++if x.1∈seen++l.map (·.1) then [x.2] else []
 |[],(s,o),seen=>by simp[QdM]
 |(s,o)::l,x,seen=>by
  simp only[List.cons_append,QdM,VD l x,map_cons,List.append_assoc]
  congr 2
def KO{W W':World}{base e size n:Nat}{v:Value}{xs:List Value}(h:W.ownsRow base e size v n xs)(hb:∀g,v.ownBlock=some g->W'.heap[g]?=W.heap[g]?):W'.ownsRow base e size v n xs:=by
 refine⟨h.1,h.2.imp id ?_⟩;rintro⟨g,cap,cur,rfl,h2,h3,h4⟩;exact⟨g,cap,cur,rfl,h2,(hb g rfl).trans h3,h4⟩
def JeU{P:Nat->Nat->Prop}{W W':World}{base e size n:Nat}{v:Value}{xs xs':List Value}(h:W.ownsRow base e size v n xs)(hl:xs'.length=xs.length)(hs:QcA P W W')(hc:∀k u,xs'[k]?=some u->W'.cell? ⟨Value.blk v,k,none⟩=some u):W'.ownsRow base e size v n xs':=by
 refine⟨hl.trans h.1,?_⟩
 rcases h.2 with⟨rfl,rfl⟩|⟨g,cap,cur,rfl,h2,h3,h4,h5,h6,h7⟩
 ·exact .inl ⟨rfl,rfl⟩
 ·obtain⟨xA,c1,c2⟩:=hs.shape g cur e (0,0) h3;refine .inr ⟨g,cap,xA,rfl,h2,c1,h4,h5,c2.trans h6,List.ext_getElem? λk=>?_⟩;rw[List.getElem?_take];have hx:xs'.length=n*size:=hl.trans h.1
  by_cases hk:k<n*size
  ·rw[if_pos hk];have hu:xs'[k]?=some (xs'[k]'(by omega)):=List.getElem?_eq_getElem zo;have:=hc k _ hu;rw[show Value.blk (.slice (some ⟨g,0,none⟩) n cap)=g from rfl,Ja c1]at this;rw[hu,<-this];simp
  ·rw[if_neg hk,List.getElem?_eq_none zo]
def Jac{α:Type}{cells:α->List Value}{size:Nat}(hs:∀x,(cells x).length=size):∀(l:List α)(k:Nat)(u:Value),(l.flatMap cells)[k]?=some u->∃m j x,k=m*size+j/\j<size/\l[m]?=some x/\(cells x)[j]?=some u
 |[],k,u,h=>by simp at h
 |a::l,k,u,h=>by
  rw[List.flatMap_cons]at h
  by_cases hk:k<size
  ·rw[List.getElem?_append_left (by rw[hs];exact hk)]at h;exact⟨0,k,a,by omega,hk,rfl,h⟩
  ·rw[List.getElem?_append_right (by rw[hs];omega),hs]at h;obtain⟨m,j,x,h1,h2,h3,h4⟩:=Jac hs l _ u h;exact⟨m+1,j,x,by rw[Nat.succ_mul];omega,h2,by simpa using h3,h4⟩
def Yl{α:Type}{cells:α->List Value}{size:Nat}(hs:∀x,(cells x).length=size)(l:List α):(l.flatMap cells).length=l.length*size:=by
 induction l with
 |nil=>simp
 |cons a l ih=>rw[List.flatMap_cons,List.length_append,hs,ih,List.length_cons,Nat.succ_mul];omega
def FnA.Ok.chgC{P:Nat->Nat->Prop}{W W':World}{f:FnA}(h:f.Ok W)(hc:QcA P W W')(hp:∀b j,f.lo<=b->b<f.hi->¬P b j):f.Ok W':=by
 obtain⟨m,m1,m2,m3,m4,m5⟩:=h.bmd;exact⟨KO h.pown λg hg=>hc.block g (h.pown.lt g hg).2 λj=>hp g j (h.pown.lt g hg).1 (zt (m3 g hg)),KO h.town λg hg=>hc.block g (h.town.lt g hg).2 λj=>hp g j (h.town.lt g hg).1 (zt (m4 g hg)),VW hc _ h.bat λb hb j=>hp b j (zt (m5.2 b hb)) (m5.2 b hb).2,⟨m,m1,m2,m3,m4,m5⟩,le_trans h.hle hc.size⟩
def ClA.Ok.chgC{P:Nat->Nat->Prop}{W W':World}{c:ClA}(h:c.Ok W)(hc:QcA P W W')(hp:∀b j,c.lo<=b->b<c.hi->¬P b j):c.Ok W':=
 ⟨VW hc _ h.at' λb hb j=>hp b j (h.made.2 b hb).1 (h.made.2 b hb).2,h.made,h.hle.1,le_trans h.hle.2 hc.size⟩
def Ym{l:List (Nat×Nat)}(h:l.Pairwise λa b=>a.2<=b.1){i j:Nat}{a b:Nat×Nat}(hi:l[i]?=some a)(hj:l[j]?=some b)(hne:i≠j):a.2<=b.1\/b.2<=a.1:=by
 obtain⟨h1,e1⟩:=List.getElem?_eq_some_iff.1 hi;obtain⟨h2,e2⟩:=List.getElem?_eq_some_iff.1 hj;have hp:=List.pairwise_iff_getElem.1 h
 rcases Nat.lt_or_gt_of_ne hne with hl|hl
 ·have:=hp i j h1 h2 hl;rw[e1,e2]at this;exact .inl this
 ·have:=hp j i h2 h1 hl;rw[e1,e2]at this;exact .inr this
def VE(S:Qak){i:Nat}{f:FnA}(h:S.funcs[i]?=some f):S.ivs[i]?=some (f.lo,f.hi):=by
 unfold Qak.ivs;rw[List.getElem?_append_left (by rw[length_map];exact(List.getElem?_eq_some_iff.1 h).1),getElem?_map,h];rfl
def VF(S:Qak){i:Nat}{c:ClA}(h:S.clauses[i]?=some c):S.ivs[S.funcs.length+i]?=some (c.lo,c.hi):=by
 unfold Qak.ivs;rw[List.getElem?_append_right (by rw[length_map];omega),length_map,Nat.add_sub_cancel_left,getElem?_map,h];rfl
def Qak.setF(S:Qak)(i:Nat)(a:An):Qak:={S with funcs:=match S.funcs[i]? with|none=>S.funcs|some f=>S.funcs.set i {f with body:=a} }
def Qak.setC(S:Qak)(i:Nat)(a:An):Qak:={S with clauses:=match S.clauses[i]? with|none=>S.clauses|some c=>S.clauses.set i {c with cond:=a} }
def Jad{W:World}{f:FnA}(h:f.Ok W):∀b∈foot f.body,f.lo<=b/\b<f.hi:=by
 obtain⟨m,m1,m2,m3,m4,m5⟩:=h.bmd;exact λb hb=>⟨by have:=(m5.2 b hb).1;omega,(m5.2 b hb).2⟩
def K4{W:World}{base e size n:Nat}{v:Value}{xs:List Value}(h:W.ownsRow base e size v n xs)(hn:0<n):v.ownBlock=some (Value.blk v):=by
 rcases h.2 with⟨rfl,rfl⟩|⟨g,cap,cur,rfl,_⟩
 ·omega
 ·rfl
def Qns{P:Prop}(h:P:=by
  rw[S7];unfold Qak.ivs;dsimp only
  congr 1
  refine List.ext_getElem? λk=>?_
  rw[List.getElem?_map,List.getElem?_map,List.getElem?_set]
  by_cases hk:i=k
  ·subst hk;rw[if_pos rfl,if_pos hlt,hf];rfl
  ·rw[if_neg hk]):P:=h
def Qlc{P:Prop}(h:P:=by
  refine(hc.block sb (Jb h.box) λj hj=>?_).trans h.box
  rcases hP sb j hj with e|e|e<;>omega):P:=h
def QkW{P:Prop}(h:P:=by
  rcases hj with⟨e,_⟩|hj|e
  ·exact .inl e
  ·exact .inr (.inl (hfo b hj))
  ·exact .inr (.inr e)):P:=h
def QaH.resF{fs:List By}{rb:Nat}{t:TypeId}{mb:Nat}{W W':World}{sb:Nat}{S:Qak}{i:Nat}{f:FnA}{x:Option Int}{M0:List By}{e:Ending}(h:QaH W sb S)(hf:S.funcs[i]?=some f)(hr:QdW fs rb t mb W (Value.blk S.fv) (i*10+5) x M0 f.body e W')
  (C9:sb<rb/\(∀iv∈S.ivs,iv.2<=rb)/\S.fv.ownBlock≠some rb/\S.cv.ownBlock≠some rb):QaH W' sb (S.setF i (QbK fs M0 f.body)):=by
 obtain⟨_,hn,_,hc⟩:=hr;obtain⟨r1,r2,r3,r4⟩:=C9;have hlt:=(List.getElem?_eq_some_iff.1 hf).1;have hmem:=mem_of_getElem? hf;obtain⟨fo,eA,dA⟩:=h.fok f hmem;have hfo:=Jad fo;have xA:(f.lo,f.hi)∈S.ivs:=mem_of_getElem? (VE S hf);have uA:=K4 h.fown (by omega:0<S.funcs.length);have gA:=(h.fown.lt _ uA).1;have iA:=h.fout _ uA (f.lo,f.hi) xA;have cA:Value.blk S.fv≠rb:=λe=>r3 (by rw[uA,e])
 have S7:S.setF i (QbK fs M0 f.body)={S with funcs:=S.funcs.set i {f with body:=QbK fs M0 f.body} }:=by unfold Qak.setF;rw[hf]
 have yA:(S.setF i (QbK fs M0 f.body)).ivs=S.ivs:=by
  exact Qns
 have hP:∀b j,Qfr (Value.blk S.fv) (i*10+5) rb (foot f.body) b j->b=Value.blk S.fv\/(f.lo<=b/\b<f.hi)\/b=rb:=λb j hj=>by
  exact QkW
 have zA:∀b j (iv:Nat×Nat),iv∈S.ivs->(f.hi<=iv.1\/iv.2<=f.lo)->iv.1<=b->b<iv.2->¬Qfr (Value.blk S.fv) (i*10+5) rb (foot f.body) b j:=λb j iv fA hd h1 h2 hj=>by
  have h3:=h.fout _ uA iv fA;have h4:=r2 iv fA
  rcases hP b j hj with e|e|e
  ·omega
  ·omega
  ·omega
 have hA:(i*10+5)=i*10+5:=rfl;refine⟨?_,?_,?_,?_,?_,by rw[yA];exact h.pair,by rw[yA,S7];exact h.fout,by rw[yA,S7];exact h.cout⟩
 ·rw[S7];exact Qlc
 ·rw[S7];dsimp only;rw[length_set];refine JeU h.fown (by rw[Yl FnA.cells_length,Yl FnA.cells_length,length_set]) hc λk u hk=>?_
  obtain⟨m,j,y,rfl,hj,hy,hu⟩:=Jac FnA.cells_length _ k u hk;rw[getElem?_set]at hy
  have aA:∀y',S.funcs[m]?=some y'->y'.cells[j]?=some u->(m≠i\/j<5)->W'.cell? ⟨Value.blk S.fv,m*10+j,none⟩=some u:=λy' hy' hu' GD=>by
   have h1:=JT h.fown (Kd FnA.cells_length S.funcs m j y' u hy' hu');refine(hc.cell _ _ (World.block_lt_of_cell? _ _ h1) λhp=>?_).trans h1
   rcases hp with⟨_,h2,h3⟩|hp|hp
   ·rcases GD with h4|h4
    ·rcases Nat.lt_or_gt_of_ne h4 with h5|h5
     ·have:(m+1)*10<=i*10:=mul_le_mul_right 10 h5;omega
     ·have:(i+1)*10<=m*10:=mul_le_mul_right 10 h5;omega
    ·by_cases h5:m=i
     ·subst h5;omega
     ·rcases Nat.lt_or_gt_of_ne h5 with h6|h6
      ·have:(m+1)*10<=i*10:=mul_le_mul_right 10 h6;omega
      ·have:(i+1)*10<=m*10:=mul_le_mul_right 10 h6;omega
   ·have:=hfo (Value.blk S.fv) hp;omega
   ·exact cA hp
  by_cases m6:i=m
  ·subst m6;rw[if_pos rfl,if_pos hlt]at hy;injection hy with hy;subst hy
   by_cases lB:j<5
   ·refine aA f hf ?_ (.inr lB);unfold FnA.cells at hu |-;rw[List.getElem?_append_left (by simpa using lB)]at hu |-;exact hu
   ·unfold FnA.cells at hu;rw[List.getElem?_append_right zq]at hu;have:=hn.cells (j-5) u (by simpa using hu);rw[show i*10+j=i*10+5+(j-5) by omega];exact this
  ·rw[if_neg m6]at hy;exact aA y hy hu (.inl λe=>m6 e.symm)
 ·rw[S7];refine KO h.cown λg hg=>hc.block g (h.cown.lt g hg).2 λj hj=>?_
  have h1:=h.cout g hg (f.lo,f.hi) xA
  rcases hP g j hj with e|e|e
  ·rcases Ve h.cown h.fown zd with h2|h2
   ·rw[hg]at h2;cases h2
   ·exact h2 (by rw[hg,uA,e])
  ·omega
  ·exact r4 (by rw[hg,e])
 ·rw[S7];intro y hy;dsimp only at hy;obtain⟨m,hm⟩:=List.getElem?_of_mem hy;rw[getElem?_set]at hm
  by_cases m6:i=m
  ·subst m6;rw[if_pos rfl,if_pos hlt]at hm;injection hm with hm;subst hm;obtain⟨m,m1,m2,m3,m4,m5⟩:=fo.bmd
   have vA:∀g,f.lo<=g->g<m->∀j,¬Qfr (Value.blk S.fv) (i*10+5) rb (foot f.body) g j:=λg h1 h2 j hj=>by
    have h3:=r2 _ xA
    rcases hj with⟨e,_⟩|hj|e
    ·omega
    ·have:=(m5.2 g hj).1;omega
    ·omega
   refine⟨⟨KO fo.pown λg hg=>hc.block g (fo.pown.lt g hg).2 (vA g (fo.pown.lt g hg).1 (m3 g hg)),KO fo.town λg hg=>hc.block g (fo.town.lt g hg).2 (vA g (fo.town.lt g hg).1 (m4 g hg)),hn.at',⟨m,m1,m2,m3,m4,?_⟩,le_trans fo.hle hc.size⟩,eA,dA⟩;unfold Qcs;rw[JY];exact m5
  ·rw[if_neg m6]at hm;obtain⟨g1,g2,g3⟩:=h.fok y (mem_of_getElem? hm);refine⟨g1.chgC hc λb j h1 h2=>zA b j (y.lo,y.hi) (mem_of_getElem? (VE S hm)) (Ym h.pair (VE S hf) (VE S hm) m6) h1 h2,g2,g3⟩
 ·rw[S7];intro c bA;obtain⟨m,hm⟩:=List.getElem?_of_mem (show c∈S.clauses from bA);obtain⟨g1,g2⟩:=h.cok c bA;exact⟨g1.chgC hc λb j h1 h2=>zA b j (c.lo,c.hi) (mem_of_getElem? (VF S hm)) (Ym h.pair (VE S hf) (VF S hm) zo) h1 h2,g2⟩
def QaH.resC{fs:List By}{rb:Nat}{t:TypeId}{mb:Nat}{W W':World}{sb:Nat}{S:Qak}{i:Nat}{f:ClA}{x:Option Int}{M0:List By}{e:Ending}(h:QaH W sb S)(hf:S.clauses[i]?=some f)(hr:QdW fs rb t mb W (Value.blk S.cv) (i*7) x M0 f.cond e W')
  (C9:sb<rb/\(∀iv∈S.ivs,iv.2<=rb)/\S.fv.ownBlock≠some rb/\S.cv.ownBlock≠some rb):QaH W' sb (S.setC i (QbK fs M0 f.cond)):=by
 obtain⟨_,hn,_,hc⟩:=hr;obtain⟨r1,r2,r3,r4⟩:=C9;have hlt:=(List.getElem?_eq_some_iff.1 hf).1;have hmem:=mem_of_getElem? hf;obtain⟨fo,aA⟩:=h.cok f hmem;have hfo:∀b∈foot f.cond,f.lo<=b/\b<f.hi:=fo.made.2;have zA:(f.lo,f.hi)∈S.ivs:=mem_of_getElem? (VF S hf);have uA:=K4 h.cown (by omega:0<S.clauses.length);have cA:=(h.cown.lt _ uA).1;have dA:=h.cout _ uA (f.lo,f.hi) zA;have bA:Value.blk S.cv≠rb:=λe=>r4 (by rw[uA,e])
 have S7:S.setC i (QbK fs M0 f.cond)={S with clauses:=S.clauses.set i {f with cond:=QbK fs M0 f.cond} }:=by unfold Qak.setC;rw[hf]
 have xA:(S.setC i (QbK fs M0 f.cond)).ivs=S.ivs:=by
  exact Qns
 have hP:∀b j,Qfr (Value.blk S.cv) (i*7) rb (foot f.cond) b j->b=Value.blk S.cv\/(f.lo<=b/\b<f.hi)\/b=rb:=λb j hj=>by
  exact QkW
 have yA:∀b j (iv:Nat×Nat),iv∈S.ivs->(f.hi<=iv.1\/iv.2<=f.lo)->iv.1<=b->b<iv.2->¬Qfr (Value.blk S.cv) (i*7) rb (foot f.cond) b j:=λb j iv fA hd h1 h2 hj=>by
  have h3:=h.cout _ uA iv fA;have h4:=r2 iv fA
  rcases hP b j hj with e|e|e
  ·omega
  ·omega
  ·omega
 refine⟨?_,?_,?_,?_,?_,by rw[xA];exact h.pair,by rw[xA,S7];exact h.fout,by rw[xA,S7];exact h.cout⟩
 ·rw[S7];exact Qlc
 ·rw[S7];refine KO h.fown λg hg=>hc.block g (h.fown.lt g hg).2 λj hj=>?_
  have h1:=h.fout g hg (f.lo,f.hi) zA
  rcases hP g j hj with e|e|e
  ·rcases Ve h.fown h.cown zd with h2|h2
   ·rw[hg]at h2;cases h2
   ·exact h2 (by rw[hg,uA,e])
  ·omega
  ·exact r3 (by rw[hg,e])
 ·rw[S7];dsimp only;rw[length_set];refine JeU h.cown (by rw[Yl ClA.cells_length,Yl ClA.cells_length,length_set]) hc λk u hk=>?_
  obtain⟨m,j,y,rfl,hj,hy,hu⟩:=Jac ClA.cells_length _ k u hk;rw[getElem?_set]at hy
  have vA:∀y',S.clauses[m]?=some y'->y'.cells[j]?=some u->(m≠i\/5<=j)->W'.cell? ⟨Value.blk S.cv,m*7+j,none⟩=some u:=λy' hy' hu' GD=>by
   have h1:=JT h.cown (Kd ClA.cells_length S.clauses m j y' u hy' hu');refine(hc.cell _ _ (World.block_lt_of_cell? _ _ h1) λhp=>?_).trans h1
   rcases hp with⟨_,h2,h3⟩|hp|hp
   ·by_cases h5:m=i
    ·subst h5
     rcases GD with h4|h4
     ·exact h4 rfl
     ·omega
    ·rcases Nat.lt_or_gt_of_ne h5 with h6|h6
     ·have:(m+1)*7<=i*7:=mul_le_mul_right 7 h6;omega
     ·have:(i+1)*7<=m*7:=mul_le_mul_right 7 h6;omega
   ·have:=hfo (Value.blk S.cv) hp;omega
   ·exact bA hp
  by_cases m6:i=m
  ·subst m6;rw[if_pos rfl,if_pos hlt]at hy;injection hy with hy;subst hy
   by_cases lB:j<5
   ·unfold ClA.cells at hu;rw[List.getElem?_append_left (by rw[Array.length_toList,JV];exact lB)]at hu;exact hn.cells j u hu
   ·refine vA f hf ?_ (.inr zo);unfold ClA.cells at hu |-;rw[List.getElem?_append_right (by rw[Array.length_toList,JV];omega),Array.length_toList,JV]at hu |-;exact hu
  ·rw[if_neg m6]at hy;exact vA y hy hu (.inl λe=>m6 e.symm)
 ·rw[S7];intro y hy;obtain⟨m,hm⟩:=List.getElem?_of_mem (show y∈S.funcs from hy);obtain⟨g1,g2⟩:=h.fok y hy;exact⟨g1.chgC hc λb j h1 h2=>yA b j (y.lo,y.hi) (mem_of_getElem? (VE S hm)) (Ym h.pair (VF S hf) (VE S hm) (zt ((List.getElem?_eq_some_iff.1 hm).1))) h1 h2,g2⟩
 ·rw[S7];intro y hy;dsimp only at hy;obtain⟨m,hm⟩:=List.getElem?_of_mem hy;rw[getElem?_set]at hm
  by_cases m6:i=m
  ·subst m6;rw[if_pos rfl,if_pos hlt]at hm;injection hm with hm;subst hm;refine⟨⟨hn.at',?_,fo.hle.1,le_trans fo.hle.2 hc.size⟩,aA⟩;unfold Qcs;rw[JY];exact fo.made
  ·rw[if_neg m6]at hm;obtain⟨g1,g2⟩:=h.cok y (mem_of_getElem? hm);exact⟨g1.chgC hc λb j h1 h2=>yA b j (y.lo,y.hi) (mem_of_getElem? (VF S hm)) (Ym h.pair (VF S hf) (VF S hm) zo) h1 h2,g2⟩
def QaH.far{L:List Nat}{W W':World}{sb:Nat}{S:Qak}(h:QaH W sb S)(hc:Chg L W W')(hL:∀b∈L,sb<b/\S.fv.ownBlock≠some b/\S.cv.ownBlock≠some b/\∀iv∈S.ivs,iv.2<=b):QaH W' sb S:=by
 have hk:∀{e size n:Nat}{v:Value}{xs:List Value},(∀b∈L,v.ownBlock≠some b)->W.ownsRow (sb+1) e size v n xs->W'.ownsRow (sb+1) e size v n xs:=λhn h=>KO h λg hg=>hc.block g (h.lt g hg).2 λhm=>hn g hm hg
 exact⟨hc.heap_some (λhm=>by have:=(hL sb hm).1;omega) h.box,hk (λb hb=>(hL b hb).2.1) h.fown,hk (λb hb=>(hL b hb).2.2.1) h.cown,
  λf hf=>⟨(h.fok f hf).1.chg hc λb hb=>.inr ((hL b hb).2.2.2 (f.lo,f.hi) (List.mem_append_left _ (List.mem_map.2 ⟨f,hf,rfl⟩))),(h.fok f hf).2⟩,
  λc hc'=>⟨(h.cok c hc').1.chg hc λb hb=>.inr ((hL b hb).2.2.2 (c.lo,c.hi) (List.mem_append_right _ (List.mem_map.2 ⟨c,hc',rfl⟩))),(h.cok c hc').2⟩,h.pair,h.fout,h.cout⟩
structure Rz(w W:World)(sb:Nat)(S:Qak)(mb rb mn:Nat)(f:By->Option Nat)(x:Option Int):Prop where
 ok:QaH W sb S
 flt:Qbf W rb 140 x (.map (some mb))
 map:Qbp W mb mn f
 bel:Below sb w W
 sz:w.heap.size<=W.heap.size
 num:w.heap.size<=mb/\mb<rb/\sb<w.heap.size
 ivs:∀iv∈S.ivs,iv.2<=w.heap.size
 rows:(∀g,S.fv.ownBlock=some g->g<w.heap.size)/\(∀g,S.cv.ownBlock=some g->g<w.heap.size)
section
variable {w W W':World}{sb:Nat}{S:Qak}{mb rb mn:Nat}{f:By->Option Nat}{x:Option Int}
def Kk{B:Nat}(h:Below B w W)(ho:W'.os=W.os)(ht:W'.tape=W.tape)(hp:W'.output=W.output)(hs:W.heap.size<=W'.heap.size)(hb:∀k,k<B->W'.heap[k]?=W.heap[k]?):Below B w W':=
 ⟨ho.trans h.os,ht.trans h.tape,hp.trans h.output,le_trans h.size hs,λk hk=>(hb k hk).trans (h.block k hk)⟩
def Rz.up(h:Rz w W sb S mb rb mn f x)(hb:Below W.heap.size W W'):Rz w W' sb S mb rb mn f x:=
 ⟨h.ok.on (Chg.of_below hb []) zp,(hb.block _ (Jb h.flt)).trans h.flt,h.map.same (hb.block mb h.map.lt),Kk h.bel hb.os hb.tape hb.output hb.size λk hk=>hb.block k (zu h.num h.sz),le_trans h.sz hb.size,h.num,h.ivs,h.rows⟩
def Rz.far(h:Rz w W sb S mb rb mn f x):∀b,w.heap.size<=b->sb<b/\S.fv.ownBlock≠some b/\S.cv.ownBlock≠some b/\∀iv∈S.ivs,iv.2<=b:=λb hb=>
 ⟨by have:=h.num;omega,λe=>by have:=h.rows.1 b e;omega,λe=>by have:=h.rows.2 b e;omega,λiv hi=>by have:=h.ivs iv hi;omega⟩
def Rz.add{e:Ending}{y:Int}(h:Rz w W sb S mb rb mn f x)(ha:Qmg W rb 140 (addF x y) (.map (some mb)) e W'):Rz w W' sb S mb rb mn f (QaG x [y]):=by
 obtain⟨_,hf,hc⟩:=ha;obtain⟨n1,n2,n3⟩:=h.num;exact⟨h.ok.far hc λb hb=>h.far b (by simp at hb;omega),hf,h.map.keep hc zq,Kk h.bel hc.os hc.tape hc.output hc.size λk hk=>hc.block k (zt h.sz) zq,le_trans h.sz hc.size,h.num,h.ivs,h.rows⟩
def Rz.put{f':By->Option Nat}{mn':Nat}(h:Rz w W sb S mb rb mn f x)(hm:Qbp W' mb mn' f')(hc:Chg [mb] W W'):Rz w W' sb S mb rb mn' f' x:=by
 obtain⟨n1,n2,n3⟩:=h.num;exact⟨h.ok.far hc λb hb=>h.far b (by simp at hb;omega),hc.heap_some zq h.flt,hm,Kk h.bel hc.os hc.tape hc.output hc.size λk hk=>hc.block k (zt h.sz) zq,le_trans h.sz hc.size,h.num,h.ivs,h.rows⟩
def Qnv{P:Prop}(h:P:=by
  unfold Qak.ivs;dsimp only
  congr 1
  refine List.ext_getElem? λk=>?_
  rw[List.getElem?_map,List.getElem?_map,List.getElem?_set]
  by_cases hk:i=k
  ·subst hk;rw[if_pos rfl,if_pos (List.getElem?_eq_some_iff.1 hf).1,hf];rfl
  ·rw[if_neg hk]):P:=h
def Jha(S:Qak)(i:Nat)(a:An):(S.setF i a).ivs=S.ivs:=by
 unfold Qak.setF
 cases hf:S.funcs[i]? with
 |none=>rfl
 |some f=>
  exact Qnv
def Jhb(S:Qak)(i:Nat)(a:An):(S.setC i a).ivs=S.ivs:=by
 unfold Qak.setC
 cases hf:S.clauses[i]? with
 |none=>rfl
 |some f=>
  exact Qnv
def Rz.preF{fs:List By}{vv:Value}{M0:List By}{g i:Nat}{fn:FnA}(h:Rz w W sb S mb rb mn (λs=>Qag fs s) x)(hf:S.funcs[i]?=some fn)(hv:Qdb W vv M0 g)(hg:M0≠[]->rb<g)(hw:WfN fn.body.nd):Qcl fs rb 140 mb mn W (Value.blk S.fv) (i*10+5) x vv M0 g fn.body:=by
 obtain⟨n1,n2,n3⟩:=h.num;have hmem:=mem_of_getElem? hf;obtain⟨fo,uA,aA⟩:=h.ok.fok fn hmem;have hfo:=Jad fo;have yA:(fn.lo,fn.hi)∈S.ivs:=mem_of_getElem? (VE S hf);have bA:=h.ivs _ yA;have xA:=K4 h.ok.fown (by have:=(List.getElem?_eq_some_iff.1 hf).1;omega:0<S.funcs.length);have G1:=h.rows.1 _ xA;have vA:=h.ok.fout _ xA _ yA
 obtain⟨cs,cap,cur,e1,e2,e3,e4⟩:∃g cap cur,S.fv=.slice (some ⟨g,0,none⟩) S.funcs.length cap/\sb+1<=g/\W.heap[g]?=some (.cells cur 121 (0,0))/\True:=by
  rcases h.ok.fown.2 with⟨e,_⟩|⟨g,cap,cur,e,e2,e3,_⟩
  ·rw[e]at xA;cases xA
  ·exact⟨g,cap,cur,e,e2,e3,trivial⟩
 have zA:Value.blk S.fv=cs:=by rw[e1];rfl
 refine⟨⟨λj u hj=>?_,λj=>by rw[zA];exact Jc e3 j,fo.bat⟩,?_,λhm=>by have:=hfo _ hm;omega,⟨λhm=>by have:=hfo _ hm;omega,by omega⟩,λhv=>⟨λhm=>by have:=hfo _ hm;have:=hg hv;omega,by have:=hg hv;omega,by have:=hg hv;omega⟩,⟨λhm=>by have:=hfo _ hm;omega,by omega,by omega⟩,h.flt,h.map,hv,hw⟩
 ·have h1:fn.cells[5+j]?=some u:=by
   unfold FnA.cells;rw[List.getElem?_append_right zp];simpa using hj
  have:=JT h.ok.fown (Kd FnA.cells_length S.funcs i (5+j) fn u hf h1);rw[Nat.add_assoc];exact this
 ·obtain⟨m,_,_,_,_,m5⟩:=fo.bmd;exact m5.1
def Rz.preC{fs:List By}{i:Nat}{c:ClA}(h:Rz w W sb S mb rb mn (λs=>Qag fs s) x)(hf:S.clauses[i]?=some c)(hw:WfN c.cond.nd):Qcl fs rb 140 mb mn W (Value.blk S.cv) (i*7) x Nl [] 0 c.cond:=by
 obtain⟨n1,n2,n3⟩:=h.num;have hmem:=mem_of_getElem? hf;obtain⟨fo,uA⟩:=h.ok.cok c hmem;have hfo:∀b∈foot c.cond,c.lo<=b/\b<c.hi:=fo.made.2;have yA:(c.lo,c.hi)∈S.ivs:=mem_of_getElem? (VF S hf);have aA:=h.ivs _ yA;have xA:=K4 h.ok.cown (by have:=(List.getElem?_eq_some_iff.1 hf).1;omega:0<S.clauses.length);have G1:=h.rows.2 _ xA;have vA:=h.ok.cout _ xA _ yA
 obtain⟨cs,cap,cur,e1,e2,e3,e4⟩:∃g cap cur,S.cv=.slice (some ⟨g,0,none⟩) S.clauses.length cap/\sb+1<=g/\W.heap[g]?=some (.cells cur 125 (0,0))/\True:=by
  rcases h.ok.cown.2 with⟨e,_⟩|⟨g,cap,cur,e,e2,e3,_⟩
  ·rw[e]at xA;cases xA
  ·exact⟨g,cap,cur,e,e2,e3,trivial⟩
 have zA:Value.blk S.cv=cs:=by rw[e1];rfl
 refine⟨⟨λj u hj=>?_,λj=>by rw[zA];exact Jc e3 j,fo.at'⟩,fo.made.1,λhm=>by have:=hfo _ hm;omega,⟨λhm=>by have:=hfo _ hm;omega,by omega⟩,λhv=>absurd rfl hv,⟨λhm=>by have:=hfo _ hm;omega,by omega,by omega⟩,h.flt,h.map,⟨none,0,rfl,⟨le_refl _,λ_=>⟨rfl,rfl⟩⟩,λhv=>absurd rfl hv⟩,hw⟩
 have h1:c.cells[j]?=some u:=by
  unfold ClA.cells;rw[List.getElem?_append_left (List.getElem?_eq_some_iff.1 hj).1];exact hj
 exact JT h.ok.cown (Kd ClA.cells_length S.clauses i j c u hf h1)
def Rz.resF{fs:List By}{M0:List By}{i:Nat}{fn:FnA}{e:Ending}(h:Rz w W sb S mb rb mn (λs=>Qag fs s) x)(hf:S.funcs[i]?=some fn)(hr:QdW fs rb 140 mb W (Value.blk S.fv) (i*10+5) x M0 fn.body e W'):Rz w W' sb (S.setF i (QbK fs M0 fn.body)) mb rb mn (λs=>Qag fs s) (QaG x (Qdq fs M0 fn.body.nd).2):=by
 obtain⟨n1,n2,n3⟩:=h.num;have xA:=h.far rb zo;have zA:=h.ok.resF hf hr ⟨xA.1,xA.2.2.2,xA.2.1,xA.2.2.1⟩;obtain⟨_,hn,hfl,hc⟩:=hr;have yA:=K4 h.ok.fown (by have:=(List.getElem?_eq_some_iff.1 hf).1;omega:0<S.funcs.length);have aA:=(h.ok.fown.lt _ yA).1;have G1:=h.rows.1 _ yA;obtain⟨fo,vA,uA⟩:=h.ok.fok fn (mem_of_getElem? hf);have bA:=h.ivs _ (mem_of_getElem? (VE S hf))
 have hP:∀b j,Qfr (Value.blk S.fv) (i*10+5) rb (foot fn.body) b j->b=Value.blk S.fv\/(fn.lo<=b/\b<fn.hi)\/b=rb:=λb j hj=>by
  rcases hj with⟨e,_⟩|hj|e
  ·exact .inl e
  ·exact .inr (.inl (Jad fo b hj))
  ·exact .inr (.inr e)
 refine⟨zA,hfl,h.map.same (hc.block mb h.map.lt λj hj=>by rcases hP mb j hj with e|e|e<;>omega),Kk h.bel hc.os hc.tape hc.output hc.size λk hk=>hc.block k (zt h.sz) λj hj=>by rcases hP k j hj with e|e|e<;>omega,le_trans h.sz hc.size,h.num,by rw[Jha];exact h.ivs,h.rows⟩
def Rz.resC{fs:List By}{M0:List By}{i:Nat}{c:ClA}{e:Ending}(h:Rz w W sb S mb rb mn (λs=>Qag fs s) x)(hf:S.clauses[i]?=some c)(hr:QdW fs rb 140 mb W (Value.blk S.cv) (i*7) x M0 c.cond e W'):Rz w W' sb (S.setC i (QbK fs M0 c.cond)) mb rb mn (λs=>Qag fs s) (QaG x (Qdq fs M0 c.cond.nd).2):=by
 obtain⟨n1,n2,n3⟩:=h.num;have xA:=h.far rb zo;have zA:=h.ok.resC hf hr ⟨xA.1,xA.2.2.2,xA.2.1,xA.2.2.1⟩;obtain⟨_,hn,hfl,hc⟩:=hr;have yA:=K4 h.ok.cown (by have:=(List.getElem?_eq_some_iff.1 hf).1;omega:0<S.clauses.length);have vA:=(h.ok.cown.lt _ yA).1;have G1:=h.rows.2 _ yA;obtain⟨fo,uA⟩:=h.ok.cok c (mem_of_getElem? hf);have aA:=h.ivs _ (mem_of_getElem? (VF S hf))
 have hP:∀b j,Qfr (Value.blk S.cv) (i*7) rb (foot c.cond) b j->b=Value.blk S.cv\/(c.lo<=b/\b<c.hi)\/b=rb:=λb j hj=>by
  rcases hj with⟨e,_⟩|hj|e
  ·exact .inl e
  ·exact .inr (.inl (fo.made.2 b hj))
  ·exact .inr (.inr e)
 refine⟨zA,hfl,h.map.same (hc.block mb h.map.lt λj hj=>by rcases hP mb j hj with e|e|e<;>omega),Kk h.bel hc.os hc.tape hc.output hc.size λk hk=>hc.block k (zt h.sz) λj hj=>by rcases hP k j hj with e|e|e<;>omega,le_trans h.sz hc.size,h.num,by rw[Jhb];exact h.ivs,h.rows⟩
end
def Qak.names(S:Qak):List (By×Int):=S.funcs.map λf=>(f.name,f.off)
def Qak.fns(S:Qak):List By:=S.funcs.map (·.name)
def Qak.upF(S:Qak):Nat->Qak
 |0=>S
 |i+1=>(S.upF i).setF i (match S.funcs[i]? with|none=>QcX 0 0 [] 0|some f=>QbK S.fns (f.params.map (·.1)) f.body)
def Qak.upC(S:Qak)(fs:List By):Nat->Qak
 |0=>S
 |i+1=>(S.upC fs i).setC i (match S.clauses[i]? with|none=>QcX 0 0 [] 0|some c=>QbK fs [] c.cond)
def Zo(S:Qak)(i k:Nat)(a:An)(h:i≠k):(S.setF i a).funcs[k]?=S.funcs[k]?:=by
 unfold Qak.setF
 cases hf:S.funcs[i]? with
 |none=>rfl
 |some f=>dsimp only;rw[getElem?_set,if_neg h]
def Jhc(S:Qak)(i:Nat)(a:An):(S.setF i a).funcs.length=S.funcs.length:=by
 unfold Qak.setF
 cases hf:S.funcs[i]? with
 |none=>rfl
 |some f=>dsimp only;rw[List.length_set]
def Zp(S:Qak)(i k:Nat)(a:An)(h:i≠k):(S.setC i a).clauses[k]?=S.clauses[k]?:=by
 unfold Qak.setC
 cases hf:S.clauses[i]? with
 |none=>rfl
 |some f=>dsimp only;rw[getElem?_set,if_neg h]
def Jhd(S:Qak)(i:Nat)(a:An):(S.setC i a).clauses.length=S.clauses.length:=by
 unfold Qak.setC
 cases hf:S.clauses[i]? with
 |none=>rfl
 |some f=>dsimp only;rw[List.length_set]
def Jca(S:Qak):∀i,(S.upF i).funcs.length=S.funcs.length
 |0=>rfl
 |i+1=>by unfold Qak.upF;rw[Jhc,Jca S i]
def Jcb(S:Qak):∀i k,i<=k->(S.upF i).funcs[k]?=S.funcs[k]?
 |0,k,_=>rfl
 |i+1,k,h=>by unfold Qak.upF;rw[Zo _ _ _ _ zo,Jcb S i k zo]
def Jcc(S:Qak)(fs:List By):∀i,(S.upC fs i).clauses.length=S.clauses.length
 |0=>rfl
 |i+1=>by unfold Qak.upC;rw[Jhd,Jcc S fs i]
def Jcd(S:Qak)(fs:List By):∀i k,i<=k->(S.upC fs i).clauses[k]?=S.clauses[k]?
 |0,k,_=>rfl
 |i+1,k,h=>by unfold Qak.upC;rw[Zp _ _ _ _ zo,Jcd S fs i k zo]
def KC(S:Qak):∀i,(S.upF i).clauses=S.clauses/\(S.upF i).action=S.action/\(S.upF i).fv=S.fv/\(S.upF i).cv=S.cv
 |0=>⟨rfl,rfl,rfl,rfl⟩
 |i+1=>KC S i
def Yn(S:Qak)(fs:List By):∀i,(S.upC fs i).funcs=S.funcs/\(S.upC fs i).action=S.action/\(S.upC fs i).fv=S.fv/\(S.upC fs i).cv=S.cv
 |0=>⟨rfl,rfl,rfl,rfl⟩
 |i+1=>Yn S fs i
def QeF(fs:List By)(l:List FnS):List Int:=(l.map λf=>(resF fs f).2).flatten
def Qfh(fs:List By)(l:List ClS):List Int:=(l.map λc=>(resC fs c).2).flatten
def JeV(fs:List By)(l:List FnS)(f:FnS):QeF fs (l++[f])=QeF fs l++(QdM f.params []++(Qdq fs (f.params.map (·.1)) f.body).2):=by simp[QeF,resF]
def JeW(fs:List By)(l:List ClS)(c:ClS):Qfh fs (l++[c])=Qfh fs l++(Qdq fs [] c.cond).2:=by simp[Qfh,resC]
def RsP(w:World)(sb:Nat)(S:Qak)(e:Ending)(w':World):Prop:=
 match Qbq (Qae S.src).2 with
 |none=>e=.returned (.tuple #[])/\Below sb w w'/\∃S':Qak,S'.src=(Qae S.src).1/\QaH w' sb S'
 |some o=>e=.panicked [{v:=QhJ 16 o,recovered:=false}]/\Below sb w w'
def VG{W:World}{sb:Nat}{S:Qak}(h:QaH W sb S){i:Nat}{f:FnA}(hf:S.funcs[i]?=some f):∀j u,f.cells[j]?=some u->W.cell? ⟨Value.blk S.fv,i*10+j,none⟩=some u:=λj u hj=>JT h.fown (Kd FnA.cells_length S.funcs i j f u hf hj)
def JcS{W:World}{sb:Nat}{S:Qak}(h:QaH W sb S){i:Nat}{c:ClA}(hf:S.clauses[i]?=some c):∀j u,c.cells[j]?=some u->W.cell? ⟨Value.blk S.cv,i*7+j,none⟩=some u:=λj u hj=>JT h.cown (Kd ClA.cells_length S.clauses i j c u hf hj)
def JF{α:Type}{l:List α}{i:Nat}{x:α}(h:l[i]?=some x):l.take (i+1)=l.take i++[x]:=by rw[List.take_add_one,h];rfl
def JeX{S:Qak}{i:Nat}{f:FnA}(h:S.funcs[i]?=some f):S.fns[i]?=some f.name/\S.names[i]?=some (f.name,f.off):=by
 unfold Qak.fns Qak.names;rw[getElem?_map,getElem?_map,h];exact⟨rfl,rfl⟩
def JaT(S:Qak)(i:Nat):(S.names.take i).map (·.1)=S.fns.take i:=by
 unfold Qak.fns Qak.names;rw[<-map_take,<-map_take,map_map];rfl
def Jhe{S:Qak}{i:Nat}{f:FnA}(h:S.funcs[i]?=some f){k:Nat}(hk:Qag (S.fns.take i) f.name=some k):(λs=>Qag (S.fns.take (i+1)) s)=(λs=>Qag (S.fns.take i) s)/\QdM (S.names.take (i+1)) []=QdM (S.names.take i) []++[f.off]:=by
 obtain⟨h1,h2⟩:=JeX h;rw[JF h1,JF h2,VD]
 have hm:f.name∈S.fns.take i:=by
  have:=YQ (S.fns.take i) f.name;rw[hk]at this;simpa using this
 refine⟨funext λs=>?_,?_⟩
 ·rw[YP]
  cases hs:Qag (S.fns.take i) s with
  |some q=>rfl
  |none=>
   dsimp only;rw[if_neg];intro e;rw[<-e,hk]at hs
   cases hs
 ·rw[nil_append,JaT,if_pos hm]
def Jhf{S:Qak}{i:Nat}{f:FnA}(h:S.funcs[i]?=some f)(hk:Qag (S.fns.take i) f.name=none):(λs=>Qag (S.fns.take (i+1)) s)=(λs=>if s=f.name then some i else Qag (S.fns.take i) s)/\QdM (S.names.take (i+1)) []=QdM (S.names.take i) []:=by
 obtain⟨h1,h2⟩:=JeX h;have hlt:=(List.getElem?_eq_some_iff.1 h1).1;rw[JF h1,JF h2,VD]
 have hm:f.name∉S.fns.take i:=by
  have:=YQ (S.fns.take i) f.name;rw[hk]at this;simpa using this
 refine⟨funext λs=>?_,?_⟩
 ·rw[YP]
  by_cases e:s=f.name
  ·subst e;rw[hk,if_pos rfl,if_pos rfl,List.length_take,Nat.min_eq_left zo]
  ·rw[if_neg e]
   cases hs:Qag (S.fns.take i) s with
   |some q=>rfl
   |none=>dsimp only;rw[if_neg λh=>e h.symm]
 ·rw[nil_append,JaT,if_neg hm,List.append_nil]
def QiS(l:List By):List Value:=l.map λs=>Sv s
def Jhg(l:List By)(x:By):QiS (l++[x])=QiS l++[Sv x]:=by simp[QiS]
def JjW{a b:By}(h:bs a=bs b):a=b:=by have:=congrArg (λx:ByteArray=>x.data.toList) h;simpa[Vm] using this
def JaU(l:List By)(x:By):Lib.containsS (l.map bs) (bs x)=decide (x∈l):=by
 rw[Bool.eq_iff_iff,Lib.containsS_iff,decide_eq_true_eq,List.mem_map]
 constructor
 ·rintro⟨a,ha,e⟩;rw[<-JjW e];exact ha
 ·intro h;exact⟨x,h,rfl⟩
def Yb{W:World}{base:Nat}{v:Value}{l:List By}{n:Nat}(hn:l.length=n)(h:W.ownsRow base 9 1 v n (QiS l))(hl:n<=1000000000)(x:By):Calls prog 74 #[v,Sv x] W λe w'=>e=.returned (.bool (decide (x∈l)))/\w'=W:=by
 subst hn
 rcases h.2 with⟨rfl,h0⟩|⟨g,cap,cur,rfl,hg,I9,r⟩
 ·obtain rfl:=List.eq_nil_of_length_eq_zero h0;exact Tryz.slices_Contains_string_empty none 0 (bs x) W
 ·refine(Tryz.slices_Contains_string g 0 l.length cap (l.map bs) (bs x) W zp zo λj hj=>?_).mono λe w' hh=>?_
  ·have xA:j<l.length:=by simpa using hj
   have h1:(QiS l)[j]?=some (.string (bs l[j])):=by unfold QiS;rw[getElem?_map,List.getElem?_eq_getElem xA];rfl
   have:=JT h h1;rw[Nat.zero_add];rw[show (l.map bs).getD j ByteArray.empty=bs l[j] by simp[xA]];exact this
  ·rw[take_of_length_le zp,JaU]at hh;exact hh
def Jhh{W:World}{base:Nat}{v:Value}{l:List By}{n:Nat}(hn:l.length=n)(h:W.ownsRow base 9 1 v n (QiS l))(h0:n=0->v=Nl):Qdb W v l (Value.blk v):=by
 subst hn
 by_cases hl:l=[]
 ·subst hl;exact⟨none,0,h0 rfl,⟨le_refl _,λ_=>⟨rfl,rfl⟩⟩,λhne=>absurd rfl hne⟩
 ·have xA:0<l.length:=List.length_pos_iff.2 hl
  rcases h.2 with⟨_,e⟩|⟨g,cap,cur,rfl,hg,I9,hc,r⟩
  ·omega
  ·refine⟨_,_,rfl,⟨hc,λe=>absurd e hl⟩,λ_=>⟨rfl,λi s hs=>?_⟩⟩;exact JT h (by unfold QiS;rw[getElem?_map,hs];rfl)
def Rz.chg{w W W':World}{sb:Nat}{S:Qak}{mb rb mn:Nat}{f:By->Option Nat}{x:Option Int}{L:List Nat}(h:Rz w W sb S mb rb mn f x)(hc:Chg L W W')(hL:∀b∈L,rb<b):Rz w W' sb S mb rb mn f x:=by
 obtain⟨n1,n2,n3⟩:=h.num;exact⟨h.ok.far hc λb hb=>h.far b (zt (hL b hb)),hc.heap_some (λhm=>by have:=hL rb hm;omega) h.flt,h.map.keep hc λhm=>by have:=hL mb hm;omega,Kk h.bel hc.os hc.tape hc.output hc.size λk hk=>hc.block k (zt h.sz) λhm=>by have:=hL k hm;omega,le_trans h.sz hc.size,h.num,h.ivs,h.rows⟩
def JeY{W:World}{base n:Nat}{v:Value}{l:List (By×Int)}(h:W.ownsRow base 115 2 v n (QbZ l)){j:Nat}{p:By×Int}(hp:l[j]?=some p):W.cell? ⟨Value.blk v,j*2,none⟩=some (.string (bs p.1))/\W.cell? ⟨Value.blk v,j*2+1,none⟩=some (Iv p.2):=by
 have hg:=λk u hk=>JT h (Kd (cells:=λx:By×Int=>[Value.string (bs x.1),Iv x.2]) (size:=2) (λ_=>rfl) l j k p u hp hk)
 exact⟨hg 0 _ rfl,hg 1 _ rfl⟩
def JiL(S:Qak){i:Nat}{f:FnA}(h:S.funcs[i]?=some f):S.src.funcs[i]?=some f.src:=by unfold Qak.src;dsimp only;rw[getElem?_map,h];rfl
def Jid(S:Qak){k:Nat}{f:FnA}(hf:S.funcs[k]?=some f):∀i,k<i->(S.upF i).funcs[k]?=some {f with body:=QbK S.fns (f.params.map (·.1)) f.body}
 |0,h=>by omega
 |i+1,h=>by
  unfold Qak.upF
  by_cases hk:k=i
  ·subst hk;have:=Jcb S k k zzl;unfold Qak.setF;rw[this,hf];dsimp only;rw[getElem?_set,if_pos rfl,if_pos (by rw[Jca];exact(List.getElem?_eq_some_iff.1 hf).1)]
  ·rw[Zo _ _ _ _ λe=>hk e.symm];exact Jid S hf i zo
def Jie(S:Qak)(fs:List By){k:Nat}{c:ClA}(hf:S.clauses[k]?=some c):∀i,k<i->(S.upC fs i).clauses[k]?=some {c with cond:=QbK fs [] c.cond}
 |0,h=>by omega
 |i+1,h=>by
  unfold Qak.upC
  by_cases hk:k=i
  ·subst hk;have:=Jcd S fs k k zzl;unfold Qak.setC;rw[this,hf];dsimp only;rw[getElem?_set,if_pos rfl,if_pos (by rw[Jcc];exact(List.getElem?_eq_some_iff.1 hf).1)]
  ·rw[Zp _ _ _ _ λe=>hk e.symm];exact Jie S fs hf i zo
def Jce(S:Qak):S.src.funcs.map (·.name.1)=S.fns/\S.src.funcs.map (·.name)=S.names:=by
 unfold Qak.src Qak.fns Qak.names;simp only[map_map];exact⟨rfl,rfl⟩
def JiM(S:Qak):((S.upF S.funcs.length).upC S.fns S.clauses.length).src=(Qae S.src).1:=by
 have hc:(S.upF S.funcs.length).clauses=S.clauses:=(KC S _).1
 have h1:((S.upF S.funcs.length).upC S.fns S.clauses.length).funcs.map FnA.src=(S.src.funcs.map (resF S.fns)).map (·.1):=by
  rw[(Yn _ _ _).1];refine List.ext_getElem? λk=>?_
  rw[getElem?_map,getElem?_map,getElem?_map]
  show _=Option.map _ (Option.map _ ((S.funcs.map FnA.src)[k]?))
  rw[getElem?_map]
  cases hk:S.funcs[k]? with
  |none=>
   rw[List.getElem?_eq_none (by rw[Jca];exact List.getElem?_eq_none_iff.1 hk)];rfl
  |some f=>
   rw[Jid S hk _ (List.getElem?_eq_some_iff.1 hk).1];simp[FnA.src,resF,YN]
 have h2:((S.upF S.funcs.length).upC S.fns S.clauses.length).clauses.map ClA.src=(S.src.clauses.map (resC S.fns)).map (·.1):=by
  refine List.ext_getElem? λk=>?_
  rw[getElem?_map,getElem?_map,getElem?_map]
  show _=Option.map _ (Option.map _ ((S.clauses.map ClA.src)[k]?))
  rw[getElem?_map]
  cases hk:S.clauses[k]? with
  |none=>
   rw[List.getElem?_eq_none (by rw[Jcc,hc];exact List.getElem?_eq_none_iff.1 hk)];rfl
  |some c=>
   rw[Jie _ S.fns (by rw[hc];exact hk) _ (List.getElem?_eq_some_iff.1 hk).1];simp[ClA.src,resC,YN]
 unfold Qae;rw[(Jce S).1]
 show Src.mk _ _ _=_
 rw[h1,h2,(Yn _ _ _).2.1,(KC S _).2.1];rfl
def Jhi(S:Qak):QaG (QaG (QaG none (QdM S.names [])) (QeF S.fns S.src.funcs)) (Qfh S.fns S.src.clauses)=Qbq (Qae S.src).2:=by
 rw[<-Jt,<-Jt,Zl];unfold Qae;rw[(Jce S).1,(Jce S).2];simp only[QeF,Qfh,map_map,List.append_assoc];rfl
def JiN(S:Qak){i:Nat}{c:ClA}(h:S.clauses[i]?=some c):S.src.clauses[i]?=some c.src:=by unfold Qak.src;dsimp only;rw[getElem?_map,h];rfl
def QgR:(prog.info? 9).map (λi=>(i.zero,i.size,i.bytes))=some (some Em,1,16):=zk
def QnQ{P:Prop}(h:P:=by
  refine hK.out _ _ trivial (λhH=>?_);clear hK K
  try simp only[Act.put,ZA,ZB,ZC]
  refine ZS 8 rfl (λK hK=>?_);obtain⟨w5,hrun,gD,L4⟩:=S5.o.map.upd (by unfold maxLen;omega) hnl (v:=i) (by omega);replace S5:=Zh (S5.o.put gD L4);clear gD L4;go_simp;clear hrun;refine hK.out _ _ trivial (λhH=>?_);clear hK K
  try simp only[Act.put,ZA,ZB,ZC]
  refine wpAnyH_done (by kernel_rfl) ?_ _;have GB:Hi (Rz w w5 sb S mb rb (mn+1) (λs=>Qag (S.fns.take (i+1)) s) (QaG none (QdM (S.names.take (i+1)) []))):=by rw[HQ.o.1,HQ.o.2];exact S5.o
  clear S5 G5;go_wp2;go_roundg (S.funcs.length-(i+1))
  case measure=>have:=HG.o;omega
  case rel=>exact⟨i+1,mn+1,by omega,by omega,by go_num,GB⟩):P:=h
def QnP{P:Prop}(h:P:=by
  intro v' w' L3 hgrow _;have HZ7:=Zh (HZ.o.chg (JK hgrow) (λb hb=>by have:=(HOW.o.lt b (by simpa using hb)).1;have:=j7.o.1;omega));have LD:Hi (w'.ownsRow wm.heap.size 9 1 v' (j+1) (QiS ((fn.params.take (j+1)).map (·.1)))):=by rw[Hi,O5.o,List.map_append,List.map_cons,List.map_nil,Jhg];rw[<-List.map_take]at L3;exact L3
  have HW7:Hi (rb<wm.heap.size/\wm.heap.size<=w'.heap.size):=⟨j7.o.1,by have h1:=j7.o.2;have h2:=hgrow.size;rw[World.size_alloc]at h2;omega⟩
  clear L3 hgrow HZ HOW j7 n0 S0;go_wp2;go_roundg (fn.params.length-(j+1))
  case measure=>have:=O9.o;omega
  case rel=>exact⟨j+1,by omega,by go_num,LD,λe=>by omega,HZ7,HW7⟩):P:=h
def Jcf(w:World)(sb:Nat)(S:Qak)(h:QaH w sb S)(h1:S.funcs.length<=100000000)(h2:S.clauses.length<=100000000)
  (h3:∀f∈S.funcs,WfN f.body.nd/\siz f.body.nd<=100000000/\f.name.length<=1000000/\f.params.length<=100000000) (h4:∀c∈S.clauses,WfN c.cond.nd/\siz c.cond.nd<=100000000):Calls prog 36 #[Pt sb] w (RsP w sb S):=by
 obtain⟨R,hR⟩:∃R,RsP w sb S=R:=⟨_,rfl⟩
 rw[hR];have HR:Hi (R=RsP w sb S):=hR.symm;obtain⟨fa,fc,bB,G3⟩:=KU h.fown;obtain⟨ca,cc,jB,hB⟩:=KU h.cown;have nC:=@run_makeMap prog
 have aA:Hi (Rz w ((w.alloc (.map #[] 0)).alloc (.cells #[.bool false,Iv 0,.map (some w.heap.size)] 140)) sb S w.heap.size (w.heap.size+1) 0 (λs=>Qag (S.fns.take 0) s) (QaG none (QdM (S.names.take 0) []))):=by
  have hb:Below w.heap.size w ((w.alloc (.map #[] 0)).alloc (.cells #[.bool false,Iv 0,.map (some w.heap.size)] 140)):=(zzb.alloc zzl _).alloc zp _;have hn:=zzw (w.alloc (.map #[] 0)) (.cells #[.bool false,Iv 0,.map (some w.heap.size)] 140);rw[World.size_alloc]at hn;have bC:=Jb h.box;exact⟨h.on (Chg.of_below hb []) zp,hn,(Qbp.new w).same (heap_alloc_old _ _ zp),⟨hb.os,hb.tape,hb.output,hb.size,λk hk=>hb.block k zo⟩,hb.size,⟨le_refl _,Nat.lt_succ_self _,bC⟩,λiv hi=>(h.ivs iv hi).2.2,λg hg=>(h.fown.lt g hg).2,λg hg=>(h.cown.lt g hg).2⟩
 have pB:=Zh bB;have r8:=Zh jB;have rB:=Zh G3;have uC:=Zh hB;have H3:=Zh h3;have H4:=Zh h4;have b0:((w.alloc (.map #[] 0)).alloc (.cells #[.bool false,Iv 0,.map (some w.heap.size)] 140)).cell? ⟨sb,0,none⟩=some (.slice fa S.funcs.length fc):=by rw[Ja aA.o.ok.box];rw[bB];rfl
 clear hR bB jB G3 hB h h3 h4;go_enter func36,ntmps36;go_wp2_with fail;clear b0;generalize World.alloc (World.alloc w _) _=w0 at*;generalize w.heap.size+1=rb at*;generalize w.heap.size=mb at*;go_loopg [21] S.funcs.length λg v21 wr=>∃i mn:Nat,g+i=S.funcs.length/\mn<=i/\v21=Iv i/\Hi (Rz w wr sb S mb rb mn (λs=>Qag (S.fns.take i) s) (QaG none (QdM (S.names.take i) [])))
 case atStart=>exact⟨0,0,rfl,le_refl _,rfl,aA⟩
 case round=>
 clear aA;obtain⟨wl,rfl⟩:=zG wr
 obtain⟨i,mn,hg,vC,rfl,hz⟩:=hrel
 by_cases hi:i<S.funcs.length
 ·have hil:(i:Int)<(S.funcs.length:Int):=zo
  obtain⟨fn,uA⟩:∃fn,S.funcs[i]?=some fn:=⟨S.funcs[i],List.getElem?_eq_getElem hi⟩
  have hmem:=mem_of_getElem? uA;have hA:=rB.o zo;obtain⟨fo,_,_⟩:=hz.o.ok.fok fn hmem;have hnl:=(H3.o fn hmem).2.2.1;have hcl:=VG hz.o.ok uA;have jA:=Zh uA;obtain⟨nm,of,ps,ts,res,b,pv,tv,kC,jC⟩:=fn;obtain⟨pa,pn,pc,kA⟩:=Ji fo.pown;obtain⟨ta,tn,tc,sB⟩:=Ji fo.town;dsimp only at kA sB hnl;subst kA sB;obtain⟨yA,yn,yc,I4⟩:=Jg b;simp only[FnA.cells,I4,List.cons_append,nil_append]at hcl;have c0:=hcl 0 _ rfl;have c1:=hcl 1 _ rfl;have c2:=hcl 2 _ rfl;have c3:=hcl 3 _ rfl;have c4:=hcl 4 _ rfl;have c5:=hcl 5 _ rfl;have c6:=hcl 6 _ rfl;have c7:=hcl 7 _ rfl;have c8:=hcl 8 _ rfl;have c9:=hcl 9 _ rfl;simp only[Nat.add_zero]at c0;have wk:=zI i;have mA:Hi (Rz w (wl.alloc (.cells ([Sv nm,Iv of,.slice pa pn pc,.slice ta tn tc,Iv res,Iv b.kind,Iv b.num,.string (bs b.name),Iv b.off,.slice yA yn yc]).toArray 121)) sb S mb rb mn (λs=>Qag (S.fns.take i) s) (QaG none (QdM (S.names.take i) []))):=hz.o.up (zzb.alloc zzl _);have S0:=Zh (zzw wl (.cells ([Sv nm,Iv of,.slice pa pn pc,.slice ta tn tc,Iv res,Iv b.kind,Iv b.num,.string (bs b.name),Iv b.off,.slice yA yn yc]).toArray 121));have HG:=Zh hg;subst hA;clear hcl uA hmem fo hz hg I4;go_upto_region 4 with fail;clear c0 c1 c2 c3 c4 c5 c6 c7 c8 c9;generalize World.alloc wl _=w1 at*;generalize wl.heap.size=cb at*;have n0:=Ja S0.o 0;have r2:=Ja mA.o.flt 2;simp only[zW]at n0 r2;have dA:=mA.o.map.look hnl;have zA:=(mA.o.map.same (w':=w1.drew) rfl).look hnl;have uB:Below w1.heap.size w1 w1.drew:=(Below.refl w1.heap.size w1).drew;have S5:=Zh (mA.o.up uB);have G5:=Zh ((uB.block _ (Jb S0.o)).trans S0.o);clear uB mA
  cases hfi:Qag (S.fns.take i) nm with
  |some kx=>
   rw[hfi]at dA zA;simp only[Option.getD,Option.isSome]at dA zA;obtain⟨q1,q2⟩:=Jhe jA.o hfi;have HQ:=Zh (And.intro q1 q2);clear hfi q1 q2;go_upto_region 4 with fail;go_region;go_upto_region 6 with fail;clear n0 r2 dA zA;generalize w1.drew=w2 at*;refine wp_region_held_drew (S:=λ_=>True) zk (trivial) λhH=>?_;replace S5:=Zh (S5.o.up (Below.refl w2.heap.size w2).drew);replace G5:=Zh ((((Below.refl w2.heap.size w2).drew).block _ (Jb G5.o)).trans G5.o);generalize w2.drew=w3 at*;refine ZT (i:=0) (v:=?vT4_0) rfl (Or.inl ⟨by rfl,?yT4_0⟩) ?_
   case yT4_0=>exact ZyQ
   try simp only[zX]
   refine ZT (i:=1) (v:=?vT4_1) rfl (Or.inl ⟨by rfl,?yT4_1⟩) ?_
   case yT4_1=>exact ZyQ
   try simp only[zX]
   refine ZT (i:=2) (v:=?vT4_2) rfl (Or.inl ⟨by rfl,?yT4_2⟩) ?_
   case yT4_2=>exact ZyQ
   try simp only[zX]
   refine ZT (i:=3) (v:=?vT4_3) rfl (Or.inl ⟨by rfl,?yT4_3⟩) ?_
   case yT4_3=>exact ZyQ
   try simp only[zX]
   refine ZT (i:=4) (v:=?vT4_4) rfl (Or.inl ⟨by rfl,?yT4_4⟩) ?_
   case yT4_4=>exact ZyQ
   try simp only[zX]
   refine ZS 5 rfl λK hK=>?_;have n1:=Ja G5.o 1;simp only[zW]at n1;go_simp;clear n1;refine zU hK trivial λhH=>?_;clear hK K
   try simp only[zX]
   refine ZS 6 rfl λK hK=>?_
   (go_simp;go_at_call 73;refine(Vo _ rb 140 _ (.map (some mb)) of S5.o.flt).mono ?_;intro e w4 h4)
   have hst:=S5.o.add h4;obtain rfl:=h4.1;replace S5:=Zh hst;clear h4 hst;refine zU hK trivial λhH=>?_;clear hK K
   try simp only[zX]
   refine wpAnyH_done zk ?_ _;have GB:Hi (Rz w w4 sb S mb rb mn (λs=>Qag (S.fns.take (i+1)) s) (QaG none (QdM (S.names.take (i+1)) []))):=by rw[HQ.o.1,HQ.o.2,Jt];exact S5.o
   clear S5 G5;go_wp2;go_roundg (S.funcs.length-(i+1))
   case measure=>have:=HG.o;omega
   case rel=>exact⟨i+1,mn,by omega,by omega,by go_num,GB⟩
  |none=>
   rw[hfi]at dA zA;simp only[Option.getD,Option.isSome]at dA zA;obtain⟨q1,q2⟩:=Jhf jA.o hfi;have HQ:=Zh (And.intro q1 q2);clear hfi q1 q2;go_upto_region 4 with fail;go_region;go_upto_region 7 with fail;clear n0 r2 dA zA;generalize w1.drew=w2 at*;refine wp_region_held_drew (S:=λ_=>True) zk (trivial) λhH=>?_;replace S5:=Zh (S5.o.up (Below.refl w2.heap.size w2).drew);replace G5:=Zh ((((Below.refl w2.heap.size w2).drew).block _ (Jb G5.o)).trans G5.o);generalize w2.drew=w3 at*;refine ZT (i:=0) (v:=?vT7_0) rfl (Or.inl ⟨by rfl,?yT7_0⟩) ?_
   case yT7_0=>exact ZyQ
   try simp only[zX]
   refine ZT (i:=1) (v:=?vT7_1) rfl (Or.inl ⟨by rfl,?yT7_1⟩) ?_
   case yT7_1=>exact ZyQ
   try simp only[zX]
   refine ZT (i:=2) (v:=?vT7_2) rfl (Or.inl ⟨by rfl,?yT7_2⟩) ?_
   case yT7_2=>exact ZyQ
   try simp only[zX]
   refine ZT (i:=4) (v:=?vT7_4) rfl (Or.inl ⟨by rfl,?yT7_4⟩) ?_
   case yT7_4=>exact ZyQ
   try simp only[zX]
   refine ZT (i:=5) (v:=?vT7_5) rfl (Or.inl ⟨by rfl,?yT7_5⟩) ?_
   case yT7_5=>exact ZyQ
   try simp only[zX]
   refine ZT (i:=7) (v:=?vT7_7) rfl (Or.inl ⟨by rfl,?yT7_7⟩) ?_
   case yT7_7=>exact ZyQ
   try simp only[zX]
   refine ZR (rs:=[3,6]) (AllReadyH.cons rfl (λK hK=>?_) (AllReadyH.cons rfl (λK hK=>?_) AllReadyH.nil))
   ·have r2:=Ja S5.o.flt 2;simp only[zW]at r2;go_simp;clear r2;refine zU hK trivial λhH=>?_;clear hK K
    try simp only[zX]
    refine ZS 6 rfl λK hK=>?_;have n0:=Ja G5.o 0;simp only[zW]at n0;go_simp;clear n0;exact QnQ
   ·have n0:=Ja G5.o 0;simp only[zW]at n0;go_simp;clear n0;refine zU hK trivial λhH=>?_;clear hK K
    try simp only[zX]
    refine ZS 3 rfl λK hK=>?_;have r2:=Ja S5.o.flt 2;simp only[zW]at r2;go_simp;clear r2;exact QnQ
 ·have hil:¬(i:Int)<(S.funcs.length:Int):=zo
  obtain rfl:i=S.funcs.length:=zo
  have mB:S.fns.take S.funcs.length=S.fns:=take_of_length_le (by simp[Qak.fns]);have X8:S.names.take S.funcs.length=S.names:=take_of_length_le (by simp[Qak.names]);have xA:=hz.o;rw[mB,X8]at xA;obtain⟨X0,vB⟩:∃X0,QaG none (QdM S.names [])=X0:=⟨_,rfl⟩
  rw[vB]at xA;have O7:=Zh vB;have aA:Hi (Rz w wl sb (S.upF 0) mb rb mn (λs=>Qag S.fns s) (QaG X0 (QeF S.fns (S.src.funcs.take 0)))):=Zh (by simpa[Qak.upF,QeF,QaG] using xA);have b0:wl.cell? ⟨sb,0,none⟩=some (.slice fa S.funcs.length fc):=by rw[Ja xA.ok.box,pB.o];rfl
  clear hi hg vC hz xA mB X8 vB;go_wp2_with fail;clear b0;go_loopg [59] S.funcs.length λg v59 wr=>∃i:Nat,g+i=S.funcs.length/\v59=Iv i/\Hi (Rz w wr sb (S.upF i) mb rb mn (λs=>Qag S.fns s) (QaG X0 (QeF S.fns (S.src.funcs.take i))))
  case atStart=>exact⟨0,rfl,rfl,aA⟩
  case round=>
  clear aA hil;obtain⟨wm,rfl⟩:=zG wr
  obtain⟨i,hg,rfl,hz⟩:=hrel
  by_cases hi:i<S.funcs.length
  ·have hil:(i:Int)<(S.funcs.length:Int):=zo
   obtain⟨fn,uA⟩:∃fn,S.funcs[i]?=some fn:=⟨S.funcs[i],List.getElem?_eq_getElem hi⟩
   have qA:(S.upF i).funcs[i]?=some fn:=(Jcb S i i zzl).trans uA;obtain⟨hwf,hsz,hnl,mC⟩:=H3.o fn (mem_of_getElem? uA);have U0:=hz.o.ok.box;rw[(KC S i).2.2.1,pB.o]at U0;have b0:=Ja U0 0;simp only[List.getElem?_toArray,List.getElem?_cons_zero]at b0;have hcl:=VG hz.o.ok qA;rw[(KC S i).2.2.1]at hcl;obtain⟨fo,_,_⟩:=hz.o.ok.fok fn (mem_of_getElem? qA);obtain⟨pa,pc,kA,tB⟩:=KU fo.pown;have c2:=hcl 2 fn.pv rfl;rw[kA]at c2;have hA:=rB.o zo;have gB:=Zh qA;have jA:=Zh uA;have hC:=Zh tB;have aC:=Zh hwf;have HG:=Zh hg;have wk:=zI i;obtain⟨X1,rA⟩:∃X1,QaG X0 (QeF S.fns (S.src.funcs.take i))=X1:=⟨_,rfl⟩
   have C0:=Zh rA;have HZ:=Zh hz.o;rw[rA]at HZ;have zB:Hi (Rz w wm sb (S.upF i) mb rb mn (λs=>Qag S.fns s) (QaG X1 (QdM (fn.params.take 0) []))):=Zh (by simpa[QdM,QaG] using HZ.o);subst hA;clear U0 hcl fo kA tB qA uA hwf hg rA hz HZ;go_wp2_with fail;clear b0 c2;go_loopg [73,9] fn.params.length λg v73 v9 wr=>∃j:Nat,g+j=fn.params.length/\v73=Iv j/\Hi (wr.ownsRow wm.heap.size 9 1 v9 j (QiS ((fn.params.take j).map (·.1))))/\Hi (j=0->v9=Nl)/\Hi (Rz w wr sb (S.upF i) mb rb mn (λs=>Qag S.fns s) (QaG X1 (QdM (fn.params.take j) [])))/\Hi (rb<wm.heap.size/\wm.heap.size<=wr.heap.size)
   case atStart=>exact⟨0,rfl,rfl,World.ownsRow_nil _ _ _ _,λ_=>rfl,zB,Jb zB.o.flt,le_refl _⟩
   case round=>
   clear zB;obtain⟨wi,rfl⟩:=zG wr
   obtain⟨j,hg,rfl,ho,eC,hz,iA⟩:=hrel;obtain⟨va,vn,vc,cB⟩:=Ji ho.o;subst cB
   by_cases hj:j<fn.params.length
   ·have xC:(j:Int)<(fn.params.length:Int):=zo
    obtain⟨p,hp⟩:∃p,fn.params[j]?=some p:=⟨fn.params[j],List.getElem?_eq_getElem hj⟩
    have eB:=hC.o zo;obtain⟨dC,_,_⟩:=hz.o.ok.fok fn (mem_of_getElem? gB.o);obtain⟨d0,d1⟩:=JeY dC.pown hp;have gA:((fn.params.take j).map (·.1)).length=j:=zq
    have iC:=zI j;have cC:fn.params.take (j+1)=fn.params.take j++[p]:=JF hp;obtain⟨vA,eA⟩:=p;dsimp only at d0 d1;have O5:=Zh cC;have O9:=Zh hg;have HOW:=Zh (ho.o.alloc (.cells #[Sv vA,Iv eA] 115));have HZ:=Zh (hz.o.up ((Below.refl wi.heap.size wi).alloc zzl (.cells #[Sv vA,Iv eA] 115)));have S0:=Zh (zzw wi (.cells #[Sv vA,Iv eA] 115));have j7:Hi (rb<wm.heap.size/\wm.heap.size<=(wi.alloc (.cells #[Sv vA,Iv eA] 115)).heap.size):=⟨iA.o.1,by rw[World.size_alloc];have:=iA.o.2;omega⟩
    have yC:Hi (rb<wi.heap.size):=Nat.lt_of_lt_of_le iA.o.1 iA.o.2;subst eB;go_wp2_with fail;generalize World.alloc wi _=w4 at*;generalize wi.heap.size=cb at*
    by_cases hm:vA∈(fn.params.take j).map (·.1)
    ·have cx:=Yb gA HOW.o zo vA;rw[zE hm]at cx;have HD:Hi (QdM (fn.params.take (j+1)) []=QdM (fn.params.take j) []++[eA]):=by rw[Hi,O5.o,VD,nil_append,if_pos hm]
     refine cx.mono ?_;rintro e w5 ⟨rfl,yB⟩;obtain rfl:w4=w5:=yB.symm;go_upto_region 18 with fail;refine wp_region_held_drew (S:=λ_=>True) zk (trivial) λhH=>?_;have hD:Below w4.heap.size w4 w4.drew:=(Below.refl w4.heap.size w4).drew;replace HZ:=Zh (HZ.o.up hD);replace S0:=Zh ((hD.block _ (Jb S0.o)).trans S0.o);replace HOW:=Zh (JeM HOW.o hD);replace j7:Hi (rb<wm.heap.size/\wm.heap.size<=w4.drew.heap.size):=j7.o;generalize w4.drew=w6 at*;refine ZT (i:=0) (v:=?vT1_0) rfl (Or.inl ⟨by rfl,?yT1_0⟩) ?_
     case yT1_0=>exact ZyQ
     refine ZT (i:=1) (v:=?vT1_1) rfl (Or.inl ⟨by rfl,?yT1_1⟩) ?_
     case yT1_1=>exact ZyQ
     refine ZT (i:=2) (v:=?vT1_2) rfl (Or.inl ⟨by rfl,?yT1_2⟩) ?_
     case yT1_2=>exact ZyQ
     refine ZT (i:=3) (v:=?vT1_3) rfl (Or.inl ⟨by rfl,?yT1_3⟩) ?_
     case yT1_3=>exact ZyQ
     refine ZS 4 rfl λK hK=>?_;have n1:=Ja S0.o 1;simp only[zW]at n1;go_simp;refine zU hK trivial λhH=>?_
     refine ZS 5 rfl λK hK=>?_
     (go_simp;go_at_call 73;refine(Vo _ rb 140 _ (.map (some mb)) eA HZ.o.flt).mono ?_;intro e w7 h7)
     have hst:=HZ.o.add h7;have cA:=h7.2.2;obtain rfl:=h7.1;replace S0:=Zh (cA.heap_some (by have:=yC.o;simp;omega) S0.o);replace HOW:=Zh (Jx HOW.o cA (by have:=j7.o.1;simp;omega));replace j7:Hi (rb<wm.heap.size/\wm.heap.size<=w7.heap.size):=⟨j7.o.1,le_trans j7.o.2 cA.size⟩
     rw[<-Jt,<-HD.o]at hst;replace HZ:=Zh hst;refine zU hK trivial λhH=>?_
     refine wpAnyH_done zk ?_ _;have n0:=Ja S0.o 0;simp only[List.getElem?_toArray,List.getElem?_cons_zero]at n0;obtain⟨i0,hi,tA,dB,xA⟩:=info_parts QgR;have HI:=Zh hi;go_wp2_with (at_builtin;refine wpList_append_own _ rfl _ _ 23 rfl wm.heap.size 9 i0 Em 1 16 underlying23 HI.o tA dB xA rfl zd _ _ _ rfl (HOW.o.alloc _) ⟨w7.heap.size,0,none⟩ 1 1 [Sv vA] rfl rfl ?c1 ?c2 ?c3 ?c4 ?c5 ?_)
     case c1=>
      intro k u hk;rw[KB];simpa using hk
     case c2=>intro u hu;simp at hu;subst hu;rfl
     case c3=>unfold maxLen;omega
     case c4=>omega
     case c5=>have:=j7.o.2;rw[World.size_alloc];omega
     exact QnP
    ·have cx:=Yb gA HOW.o zo vA;rw[zF hm]at cx;have HD:Hi (QdM (fn.params.take (j+1)) []=QdM (fn.params.take j) []):=by rw[Hi,O5.o,VD,nil_append,if_neg hm,List.append_nil]
     refine cx.mono ?_;rintro e w5 ⟨rfl,yB⟩;obtain rfl:w4=w5:=yB.symm;rw[<-HD.o]at HZ;have n0:=Ja S0.o 0;simp only[List.getElem?_toArray,List.getElem?_cons_zero]at n0;obtain⟨i0,hi,tA,dB,xA⟩:=info_parts QgR;have HI:=Zh hi;go_wp2_with (at_builtin;refine wpList_append_own _ rfl _ _ 23 rfl wm.heap.size 9 i0 Em 1 16 underlying23 HI.o tA dB xA rfl zd _ _ _ rfl (HOW.o.alloc _) ⟨w4.heap.size,0,none⟩ 1 1 [Sv vA] rfl rfl ?c1 ?c2 ?c3 ?c4 ?c5 ?_)
     case c1=>
      intro k u hk;rw[KB];simpa using hk
     case c2=>intro u hu;simp at hu;subst hu;rfl
     case c3=>unfold maxLen;omega
     case c4=>omega
     case c5=>have:=j7.o.2;rw[World.size_alloc];omega
     exact QnP
   ·have xC:¬(j:Int)<(fn.params.length:Int):=zo
    obtain rfl:j=fn.params.length:=zo
    have pA:=ho.o;rw[List.take_length]at pA;have sA:=hz.o;rw[List.take_length]at sA;have cB:=Jhh (l:=fn.params.map (·.1)) zp pA eC.o
    have gC:fn.params.map (·.1)≠[]->rb<Value.blk (.slice va vn vc):=λhne=>by
     have xB:0<fn.params.length:=by have:=List.length_pos_iff.2 hne;simpa using this
     have:=(pA.lt _ (K4 pA xB)).1;have:=iA.o.1;omega
    have hp:=sA.preF (fs:=S.fns) gB.o cB gC aC.o;rw[(KC S i).2.2.1]at hp;have cn:=Jab S.fns rb 140 mb mn (by simp[Qak.fns];omega) (siz fn.body.nd) fn.body (fn.params.map (·.1)) _ _ _ _ _ wi zzl zq hp;have GB:=Zh sA;have D2:=Zh λe W' hr=>GB.o.resF (M0:=fn.params.map (·.1)) (e:=e) (W':=W') gB.o hr;rw[(KC S i).2.2.1]at D2;go_wp2_with fail;refine cn.mono ?_;intro e w8 hr;have hst:=D2.o _ _ hr;obtain rfl:=hr.1
    have aB:Hi (Rz w w8 sb (S.upF (i+1)) mb rb mn (λs=>Qag S.fns s) (QaG X0 (QeF S.fns (S.src.funcs.take (i+1))))):=by
     rw[Hi,JF (JiL S jA.o),JeV,Jt,Jt,C0.o];have e1:S.upF (i+1)=(S.upF i).setF i (QbK S.fns (fn.params.map (·.1)) fn.body):=by show (S.upF i).setF i _=_;rw[jA.o]
     rw[e1];exact hst
    go_wp2;go_roundg (S.funcs.length-(i+1))
    case measure=>have:=HG.o;omega
    case rel=>exact⟨i+1,by omega,by go_num,aB⟩
  ·have hil:¬(i:Int)<(S.funcs.length:Int):=zo
   obtain rfl:i=S.funcs.length:=zo
   have ht:S.src.funcs.take S.funcs.length=S.src.funcs:=take_of_length_le (by simp[Qak.src]);have xA:=hz.o;rw[ht]at xA;obtain⟨X2,iB⟩:∃X2,QaG X0 (QeF S.fns S.src.funcs)=X2:=⟨_,rfl⟩
   rw[iB]at xA;have Q2:=Zh iB;have qB:=KC S S.funcs.length;obtain⟨S2,kB⟩:∃S2,S.upF S.funcs.length=S2:=⟨_,rfl⟩
   rw[kB]at xA qB;have zC:=Zh kB;have nA:=Zh qB;have aA:Hi (Rz w wm sb (S2.upC S.fns 0) mb rb mn (λs=>Qag S.fns s) (QaG X2 (Qfh S.fns (S.src.clauses.take 0)))):=Zh (by simpa[Qak.upC,Qfh,QaG] using xA);have U0:=xA.ok.box;rw[nA.o.2.2.2,r8.o]at U0;have b1:=Ja U0 1;simp only[zW]at b1;go_wp2_with fail;go_loopg [105] S.clauses.length λg v105 wr=>∃i:Nat,g+i=S.clauses.length/\v105=Iv i/\Hi (Rz w wr sb (S2.upC S.fns i) mb rb mn (λs=>Qag S.fns s) (QaG X2 (Qfh S.fns (S.src.clauses.take i))))
   case atStart=>exact⟨0,rfl,rfl,aA⟩
   case round=>
   obtain⟨wc,rfl⟩:=zG wr
   obtain⟨i,hg,rfl,hz⟩:=hrel
   by_cases hi:i<S.clauses.length
   ·have hil:(i:Int)<(S.clauses.length:Int):=zo
    obtain⟨c,cA⟩:∃c,S.clauses[i]?=some c:=⟨S.clauses[i],List.getElem?_eq_getElem hi⟩
    have nB:(S2.upC S.fns i).clauses[i]?=some c:=(Jcd S2 S.fns i i zzl).trans (by rw[nA.o.1];exact cA);obtain⟨hwf,hsz⟩:=H4.o c (mem_of_getElem? cA);have bA:(S2.upC S.fns i).cv=S.cv:=(Yn S2 S.fns i).2.2.2.trans nA.o.2.2.2;have U0:=hz.o.ok.box;rw[bA,r8.o]at U0;have b1:=Ja U0 1;simp only[zW]at b1;have hA:=uC.o zo;have hp:=hz.o.preC (fs:=S.fns) nB hwf;rw[bA]at hp;have cn:=Jab S.fns rb 140 mb mn (by simp[Qak.fns];omega) (siz c.cond.nd) c.cond [] Nl 0 _ _ _ wc zzl zq hp;have D2:=Zh λe W' hr=>hz.o.resC (M0:=[]) (e:=e) (W':=W') nB hr;rw[bA]at D2;have N3:=Zh cA;have HG:=Zh hg;have wk:=zI i;subst hA;go_wp2_with fail;refine cn.mono ?_;intro e w8 hr;have hst:=D2.o _ _ hr;obtain rfl:=hr.1
    have aB:Hi (Rz w w8 sb (S2.upC S.fns (i+1)) mb rb mn (λs=>Qag S.fns s) (QaG X2 (Qfh S.fns (S.src.clauses.take (i+1))))):=by
     rw[Hi,JF (JiN S N3.o),JeW,Jt];have e1:S2.upC S.fns (i+1)=(S2.upC S.fns i).setC i (QbK S.fns [] c.cond):=by show (S2.upC S.fns i).setC i _=_;rw[nA.o.1,N3.o]
     rw[e1];exact hst
    go_wp2;go_roundg (S.clauses.length-(i+1))
    case measure=>have:=HG.o;omega
    case rel=>exact⟨i+1,by omega,by go_num,aB⟩
   ·have hil:¬(i:Int)<(S.clauses.length:Int):=zo
    obtain rfl:i=S.clauses.length:=zo
    have ht:S.src.clauses.take S.clauses.length=S.src.clauses:=take_of_length_le (by simp[Qak.src]);have xA:=hz.o;rw[ht,<-Q2.o,<-O7.o,Jhi,<-zC.o]at xA;have HS:=Zh (JiM S);have HZ:=Zh xA;have r0:=Ja HZ.o.flt 0;have r1:=Ja HZ.o.flt 1;simp only[zW]at r0 r1
    cases hL:Qbq (Qae S.src).2 with
    |none=>
     rw[hL]at r0 r1;simp only[Option.isSome,Option.getD]at r0 r1;have HL:=Zh hL;go_wp2;go_end0;rw[HR.o];unfold RsP;rw[HL.o];exact⟨rfl,HZ.o.bel,_,HS.o,HZ.o.ok⟩
    |some er=>
     rw[hL]at r0 r1;simp only[Option.isSome,Option.getD]at r0 r1;have HL:=Zh hL;go_wp2;refine⟨rfl,?_⟩;rw[HR.o];unfold RsP;rw[HL.o];exact⟨rfl,HZ.o.bel⟩
end Go.Proofs.YtncanmdgdflnpaaGreatDoor


