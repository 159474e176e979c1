import Derived.Test.YtfafpklefknomaaGreatDoorR14
open List(getElem?_map getElem?_set length_set map_cons map_nil mem_of_getElem?)
open Nat(le_trans mul_le_mul_right)
namespace Go.Proofs.YtfafpklefknomaaGreatDoor
open Go.ChangeShapes Go.WideShapes Go.ChangeAt Go.RowKit Go.Lib
open _root_.Go.Proofs.Tryz
set_option linter.all false
set_option maxRecDepth 100000
set_option maxHeartbeats 32000000
def JfW(g n vc:Nat)(h:n<=vc)(W:World):(Instr.slice 43 (.slice (some ⟨g,0,none⟩) n vc) none (some (Iv n)) (some (Iv n))).run prog W=.ok (.slice (some ⟨g,0,none⟩) n n) W:=by
 rw[run_slice_hm W 43 (some ⟨g,0,none⟩) n vc (show prog.underlying 43=some (.slice (prog.elem 43)) by kernel_rfl) .i64 .i64 n n zo zo zo];rw[show (sizeOf (prog.elem 43)).run prog W=.ok 1 W by kernel_rfl];simp[Result.andThen,sliced,Addr.add]
def JfX(W:World):(Instr.slice 43 Nl none (some (Iv 0)) (some (Iv 0))).run prog W=.ok Nl W:=zk
def QfV:(prog.info? 9).map (λi=>(i.zero,i.size,i.bytes))=some (some Em,1,16):=zk
def Vy{ops:Array Oper}{o:Oper}{ac:Act}{K:Act->World->Prop}{Q:Exit->Act->World->Prop}{E:Prop}(w:World)(hgd:o.guard=none)(s x:Operand)
  (ho:o.op=.call { callee:=.builtin .append,args:=#[s,x],argTypes:=#[43,43] }) (vars:List By) (g:Nat) (sv:Value) (hsv:(vars=[]/\sv=Nl)\/(vars≠[]/\sv=.slice (some ⟨g,0,none⟩) vars.length vars.length)) (hs:ac.eval s=sv)
  (hc:vars≠[]->∀i s,vars[i]?=some s->w.cell? ⟨g,i,none⟩=some (Sv s)) (rb:Nat) (nm:By) (hx:ac.eval x=.slice (some ⟨rb,0,none⟩) 1 1) (hrow:w.heap[rb]?=some (.cells #[Sv nm] 9 (0,0)))
  (hlen:vars.length<=1000000000)
  (h:∀w' cc,QcO w' (.slice (some ⟨w.heap.size,0,none⟩) (vars.length+1) cc) (vars++[nm]) w.heap.size->Below w.heap.size w w'->K (ac.put o.dst (.slice (some ⟨w.heap.size,0,none⟩) (vars.length+1) cc)) w') :
  if Region.wanted o (yielded ops ac.tmps)=true then Oper.wp prog o ac w K Q else E:=by
 have hw:Region.wanted o (yielded ops ac.tmps)=true:=by simp[Region.wanted,hgd]
 rw[if_pos hw];obtain⟨i0,hi,uA,yA,zA⟩:=info_parts QfV
 have xA:∀j u,[Value.string (bs nm)][j]?=some u->w.cell? ((⟨rb,0,none⟩:Addr).add j)=some u:=λj u hj=>by
  rw[show (⟨rb,0,none⟩:Addr).add j=⟨rb,j,none⟩ by unfold Addr.add;split<;>simp_all];exact KP hrow hj
 have hvar:∀(cs:Array Value) (cc:Nat),vars.length+1<=cc->(∀(i:Nat) (s:By),(vars++[nm])[i]?=some s->cs[i]?=some (Value.string (bs s)))->QcO (w.drew.alloc (.cells cs 9)) (.slice (some ⟨w.heap.size,0,none⟩) (vars.length+1) cc) (vars++[nm]) w.heap.size:=by
  intro cs cc h1 h2;refine⟨_,_,by rw[List.length_append];rfl,⟨by rw[List.length_append];exact h1,λe=>by simp at e⟩,λ_=>⟨rfl,λi s hs=>?_⟩⟩;exact(Ja (zQ w.drew (.cells cs 9)) i).trans (h2 i s hs)
 have hbel:∀cs:Array Value,Below w.heap.size w (w.drew.alloc (.cells cs 9)):=λcs=>((Below.refl w.heap.size w).drew).alloc (Nat.le_refl _) _
 unfold Oper.wp execOp
 rcases hsv with⟨hv,rfl⟩|⟨hv,rfl⟩
 ·subst hv;have hr:=run_append_nil (P:=prog) w 43 o.type 9 i0 _ underlying43 hi uA ⟨rb,0,none⟩ 1 1 [Sv nm] (by rw[yA];rfl) xA zp zp (by rw[zA];decide);simp only[ho,resolve,invoke,builtin,Sem.run_bind,Sem.run_pure,Result.andThen_ok,List.map_toArray,map_cons,map_nil,hs,hx,hr];refine h _ _ (hvar _ _ (grownCap_ge w 1 0 9) λi s hs=>?_) (hbel _);have:i=0:=by have:=(List.getElem?_eq_some_iff.1 hs).1;simp at this;exact this
  subst this;have hs':nm=s:=by simpa using hs
  subst hs';rw[Array.getElem?_append_left zq];rfl
 ·have hr:=run_append_grow (P:=prog) w 43 o.type 9 i0 _ underlying43 hi uA ⟨g,0,none⟩ vars.length vars.length (vars.map λs=>Sv s) (by rw[yA];simp) (λj u hj=>by
   rw[show (⟨g,0,none⟩:Addr).add j=⟨g,j,none⟩ by unfold Addr.add;split<;>simp_all];rw[List.getElem?_map]at hj;obtain⟨s,h1,rfl⟩:=Option.map_eq_some_iff.1 hj
   exact hc hv j s h1) ⟨rb,0,none⟩ 1 1 [Sv nm] (by rw[yA];rfl) xA zo zo (growslice_fits zo (by rw[zA];omega))
  simp only[ho,resolve,invoke,builtin,Sem.run_bind,Sem.run_pure,Result.andThen_ok,List.map_toArray,map_cons,map_nil,hs,hx,hr];refine h _ _ (hvar _ _ (grownCap_ge w (vars.length+1) vars.length 9) λi s hs=>?_) (hbel _);have hlt:=(List.getElem?_eq_some_iff.1 hs).1;rw[Array.getElem?_append_left (by simp at hlt |-;omega)];have e:(vars.map λs=>Value.string (bs s)).toArray++[Value.string (bs nm)].toArray=((vars++[nm]).map λs=>Value.string (bs s)).toArray:=zq;rw[e,List.getElem?_toArray,List.getElem?_map,hs];rfl
def Qdl.below{fs:List By}{rb:Nat}{t:TypeId}{mb mn:Nat}{w W W':World}{q o:Nat}{x1:Option Int}{vv:Value}{vars:List By}{g b:Nat}{l:List An}{pc:Array Value}{i:Nat}(h:Qdl fs rb t mb mn w W q o x1 vv vars g b l pc i)(hb:Below W.heap.size W W'):Qdl fs rb t mb mn w W' q o x1 vv vars g b l pc i:=by
 have hc:Qcj (λ_ _=>False) W W':=Qcj.of_below hb;refine⟨λj u hj=>(hc.cell q (o+j) h.lts.1 λh=>h).trans (h.par j u hj),λj=>(hc.frz q j h.lts.1).trans (h.pfr j),Jbq b _ 0 h.kids (λhne=>hb.block b (h.lts.2 ?_)) λq hq=>hb.block q (JeO b _ 0 h.kids q hq),λhne j=>(hc.frz b j (h.lts.2 hne)).trans (h.kfr hne j),h.flt.chgC hc λ_ h=>h,h.map.same (hb.block mb h.map.lt),h.vars.chgC hc λ_ _ h=>h,h.chg.trans (Qcj.of_below hb),Nat.lt_of_lt_of_le h.lts.1 hb.size,λhne=>Nat.lt_of_lt_of_le (h.lts.2 hne) hb.size⟩;intro e;subst e;simp at hne
def Qdl.fresh{fs:List By}{rb:Nat}{t:TypeId}{mb mn:Nat}{w W:World}{q o:Nat}{x1:Option Int}{vv:Value}{vars:List By}{g b:Nat}{y z:An}{pc:Array Value}(h:Qdl fs rb t mb mn w W q o x1 vv vars g b [y,z] pc 1):∀g',W.heap.size<=g'->g'∉foot z/\g'≠b/\g'≠rb:=by
 intro g' hg;have h1:=h.lts.2 zq;have h2:=Jb h.flt;refine⟨λhm=>?_,by omega,by omega⟩
 have:=JeO b _ 0 h.kids g' (by
  simp only[List.take_succ_cons,List.take_zero,map_cons,map_nil,List.drop_succ_cons,List.drop_zero,List.singleton_append,Qak,List.append_nil]
  exact List.mem_append_right _ hm)
 omega
def JnA{fs:List By}{rb:Nat}{t:TypeId}{mb mn:Nat}{w W W':World}{q o:Nat}{x1 x':Option Int}{vv:Value}{vars vars':List By}{g b c:Nat}{y z:An}{pc:Array Value}{e:Ending}{k n off:Int}{s:By}(h:Qdl fs rb t mb mn w W q o x1 vv vars g b [y,z] pc 1)(hpc:pc=Qaa (.mk k n s off b c [y,z]))(hA:QdT q rb g mb b vars [y,z])(hr:Qdp fs rb t mb W b (1*5) x' vars' z e W') :
  HdI fs rb t mb mn w W' q o (QaG x' (QcQ fs vars' z.nd).2) vv vars g b c [QbA fs vars y,QbA fs vars' z] k off n s:=by
 obtain⟨_,hn,hf,hc⟩:=hr;have hsub:∀d,d∈foot z->d∈Qak [y,z]:=λd hd=>JC zq d hd
 have hbl:=h.lts.2 zq
 have hq:∀j,¬Qej b (1*5) rb (foot z) q j:=λj hj=>by
  rcases hj with⟨e,_⟩|hj|e
  ·exact hA.qa.2 zq e
  ·exact hA.qa.1 (hsub _ hj)
  ·exact hA.ra.2.2 e.symm
 have yA:([y,z].take 1).map (QbA fs vars)++[y,z].drop 1=[QbA fs vars y,z]:=rfl;have xA:=h.kids;rw[yA]at xA;obtain⟨k1,k2⟩:=JW (i:=0) xA rfl;have hfl:Qak [QbA fs vars y,QbA fs vars' z]=Qak [y,z]:=by simp only[Qak,J7]
 have hkv:Qaz b c [QbA fs vars y,QbA fs vars' z]=Qaz b c [y,z]:=by simp[Qaz]
 refine⟨⟨λj u hj=>?_,λj=>(hc.frz q j h.lts.1).trans (h.pfr j),?_⟩,hf,h.map.same (hc.block mb h.map.lt λj hj=>?_),h.vars.chgC hc λhv j hj=>?_,?_⟩
 ·refine(hc.cell q (o+j) h.lts.1 (hq _)).trans (h.par j u ?_);rw[hpc]
  show (#[_,_,_,_,Qaz b c [y,z]]:Array Value).toList[j]?=some u
  rw[<- hkv];exact hj
 ·unfold An.At;refine⟨λ_ j=>(hc.frz b j hbl).trans (h.kfr zq j),?_⟩;unfold AtL;refine⟨λj u hj=>?_,?_,?_⟩
  ·have zA:j<5:=by have:=(List.getElem?_eq_some_iff.1 hj).1;rw[Array.length_toList,J3]at this;exact this
   refine(hc.cell b (0*5+j) hbl λhp=>?_).trans (k1 j u hj)
   rcases hp with⟨_,h1,h2⟩|h1|h1
   ·omega
   ·exact hA.nod.2 zq (hsub _ h1)
   ·exact hA.ra.2.1 zq h1.symm
  ·refine YQ hc _ k2 λd hd j hj=>?_
   rw[J7]at hd
   rcases hj with⟨e,_⟩|hj|e
   ·subst e;exact hA.nod.2 zq (JC zq _ hd)
   ·exact YR (l:=[y,z]) (i:=1) (m:=0) hA.nod.1 rfl rfl zp hd hj
   ·subst e;exact hA.ra.1 (JC zq _ hd)
  ·unfold AtL;exact⟨hn.cells,hn.at',by unfold AtL;trivial⟩
 ·rcases hj with⟨e,_⟩|hj|e
  ·exact hA.ma.2.1 zq e
  ·exact hA.ma.1 (hsub _ hj)
  ·exact hA.ma.2.2.2 e
 ·rcases hj with⟨e,_⟩|hj|e
  ·exact(hA.ga hv).2.1 zq e
  ·exact(hA.ga hv).1 (hsub _ hj)
  ·exact(hA.ga hv).2.2.2 e
 ·have h3:=h.chg;rw[if_neg zq]at h3 |-;rw[hfl];refine h3.step hc λd j hj=>.inl ?_
  exact QhD
def Jhl{q rb g mb b:Nat}{vars:List By}{l l':List An}(h:QdT q rb g mb b vars l)(hf:Qak l'=Qak l)(hl:l≠[])(hl':l'≠[]):QdT q rb g mb b vars l':=
 ⟨⟨by rw[hf];exact h.nod.1,λ_=>by rw[hf];exact h.nod.2 hl⟩,⟨by rw[hf];exact h.qa.1,λ_=>h.qa.2 hl⟩,⟨by rw[hf];exact h.ra.1,λ_=>h.ra.2.1 hl,h.ra.2.2⟩,λhv=>⟨by rw[hf];exact(h.ga hv).1,λ_=>(h.ga hv).2.1 hl,(h.ga hv).2.2⟩,⟨by rw[hf];exact h.ma.1,λ_=>h.ma.2.1 hl,h.ma.2.2⟩⟩
theorem ux8{P:Prop}(h:P:=by
  try simp only[Act.put,ZA,ZB,ZC]
  refine ZS 18 rfl (λK hK=>?_);have hz:=HK.o.pre HA.o rfl HWL.o;have hl5:(vars++[s]).length=vars.length+1:=by simp
  have cz:=IH z (vars++[s]) (.slice (some ⟨g5,0,none⟩) (vars.length+1) cc5) g5 b (1*5) _ w5 hsz (by rw[hl5];omega) ⟨hz.node,hz.nod,hz.qf,hz.rf,λ_=>HF5.o,hz.mf,hz.flt,hz.map,HV5.o,hz.wf⟩
  (go_simp;go_at_call 98;refine cz.mono ?_;intro e w6 hr6)
  have hh:=JnA HK.o (HCS.o nn s).symm HA.o hr6;obtain rfl:=hr6.1;have HI:=Zh hh;clear hz cz hr6 hh HK HV5 HF5;refine hK.out _ _ trivial (λhH=>?_);clear hK K
  try simp only[Act.put,ZA,ZB,ZC]
  refine wpAnyH_done (by kernel_rfl) ?_ _;have HA2:=Zh (Jhl HA.o (by simp only[Qak,J7]:Qak [QbA fs vars y,QbA fs (vars++[s]) z]=Qak [y,z]) (by simp) (by simp));have c1:=HI.o.node.cells 1 (Value.int .i64 nn) rfl;have f1:=HI.o.node.frz (o+1);have c2:=HI.o.node.cells 2 (Value.string (bs s)) rfl;have f2:=HI.o.node.frz (o+2);have hlq:=HI.o.node.lt;have HS:=Zh ((HI.o.setN HA2.o (vars.length:Int)).setS HA2.o []);clear HI;go_wp2;go_end0;rw[HR.o];have e5:(QbS fs vars (ndL ([y,z].take 1))).2=(QcQ fs vars y.nd).2:=by simp[ndL,QbS]
  have hfl:=HS.o.flt;rw[e5]at hfl
  exact HFIN.o _ HS.o.node hfl HS.o.chg):P:=h
theorem Qkd{P:Prop}(h:P:=by
  try simp only[Act.put,ZA,ZB,ZC]
  refine ZS 17 rfl (λK hK=>?_)
  (refine Vy (w3.alloc (.cells #[Sv s] 9)) (by rfl) (.tmp 115) (.tmp 120) (by rfl) vars g _ HSV.o (by rfl) (HCV.o _ HBW.o) w3.heap.size s (by rfl) HRW.o hvl ?_;intro w5 cc5 hv5 hb5)
  replace HK:=Zh (HK.o.below hb5);have HV5:=Zh hv5;have HF5:=Zh (HFR.o (w3.alloc (.cells #[Sv s] 9)).heap.size (by simp));generalize (w3.alloc (.cells #[Sv s] 9)).heap.size=g5 at *;clear hv5 hb5 HRW HBW HCV HSV;refine hK.out _ _ trivial (λhH=>?_);clear hK K
  exact ux8):P:=h
theorem QjL{P:Prop}(h:P:=by
  try simp only[Act.put,ZA,ZB,ZC]
  refine ZS 16 rfl (λK hK=>?_);go_simp;refine hK.out _ _ trivial (λhH=>?_);have hb6:Below w3.heap.size w3 (w3.alloc (.cells #[Sv s] 9)):=zO.alloc (Nat.le_refl _) _;replace HK:=Zh (HK.o.below hb6);have HRW:=Zh (zQ w3 (.cells #[Sv s] 9));have HBW:=Zh hb6;clear hb6;clear hK K
  exact Qkd):P:=h
def JjL(fs:List By)(rb:Nat)(t:TypeId)(mb mn:Nat)(hfs:fs.length<=1000000000)(n:Nat)
  (IH:∀(y:An) (vars':List By) (vv':Value) (g' q' o':Nat) (x':Option Int) (W:World),siz y.nd<=n->n+vars'.length<=1000000000->QbW fs rb t mb mn W q' o' x' vv' vars' g' y->Calls prog 98 #[Pt rb,.pointer (some ⟨q',o',none⟩),vv'] W (Qdp fs rb t mb W q' o' x' vars' y))
  (a:An) (vars:List By) (vv:Value) (g q o:Nat) (x:Option Int) (w:World) (hn:siz a.nd<=n+1) (hb:n+1+vars.length<=1000000000) (hpre:QbW fs rb t mb mn w q o x vv vars g a) (hk:a.kind=19) :
  Calls prog 98 #[Pt rb,.pointer (some ⟨q,o,none⟩),vv] w (Qdp fs rb t mb w q o x vars a):=by
 obtain⟨k,nn,s,off,b,c,l⟩:=a;simp only[An.kind]at hk;obtain⟨R,hR⟩:∃R,Qdp fs rb t mb w q o x vars (.mk k nn s off b c l)=R:=⟨_,rfl⟩
 rw[hR];have HR:Hi (R=Qdp fs rb t mb w q o x vars (.mk k nn s off b c l)):=hR.symm;have hA:=Zo hpre;have hH:=hpre.hd;rw[ZV]at hn;have hwf:=hpre.wf;unfold An.nd WfN at hwf;obtain⟨h19,_,_,vA,kA⟩:=hwf;obtain⟨ad,cc,hkv,iA⟩:=Jp b c l
 have aA:∀n' s',Qaa (.mk k n' s' off b c l)=#[Iv k,Iv n',Sv s',Iv off,.slice ad l.length cc]:=λn' s'=>by
  show #[_,_,_,_,Qaz b c l]=_
  rw[hkv]
 have pA:∀n' s',Qaa (.mk k n' s' off b c (QaX fs vars l))=#[Iv k,Iv n',Sv s',Iv off,.slice ad l.length cc]:=λn' s'=>by
  exact QfN
 obtain⟨va,vc,rfl,cA,mA⟩:=hpre.vars;have zB:=Zh mA;have HAD:=Zh iA;have HCS:=Zh aA;have HCR:=Zh pA;have HWL:=Zh kA;have tA:=Zh vA;have HH:=Zh hH;have HA:=Zh hA;have HSZ:Hi (Qbd (ndL l)<=n):=by rw[Hi];omega
 have rA:l.length<=n:=by have:=Jy l;omega
 have eA:Hi (k=19->l.length=2):=λe=>by have:=h19 e;rwa [Kk,List.length_map]at this
 have bA:rb≠q:=hA.ra.2.2;have hne2:q≠rb:=Ne.symm bA;have nA:Hi (foot (.mk k nn s off b c l)=if l=[] then [] else b::Qak l):=KQ k nn s off b c l;have hc:=hH.node.cells;rw[aA]at hc;have d0:=hc 0 _ rfl;simp only[Nat.add_zero]at d0;clear hpre hR hA hH h19 vA kA hkv iA aA pA mA hc hn;subst hk;have e2:((19:Int)==2)=false:=zp;have aB:((19:Int)==20)=false:=zp;have uB:((19:Int)==19)=true:=zp
 obtain⟨y,z,xB⟩:∃y z,l=[y,z]:=by
  have:=eA.o rfl
  match l,this with
  |[y,z],_=>exact⟨y,z,rfl⟩
 subst xB;have hadd:ad=some ⟨b,0,none⟩:=HAD.o zq;subst hadd
 have HFIN:Hi (∀W,Qcd W q o (.mk 19 vars.length [] off b c [QbA fs vars y,QbA fs (vars++[s]) z])->QaW W rb t (QaG (QaG x (QcQ fs vars y.nd).2) (QcQ fs (vars++[s]) z.nd).2) (.map (some mb))->Qcj (Qej q o rb (if [QbA fs vars y,QbA fs (vars++[s]) z]=[] then [] else b::Qak [QbA fs vars y,QbA fs (vars++[s]) z])) w W->Qdp fs rb t mb w q o x vars (.mk 19 nn s off b c [y,z]) (.returned (.tuple #[])) W):=by
  intro W h1 h2 h3;have hr:QbA fs vars (.mk 19 nn s off b c [y,z])=.mk 19 vars.length [] off b c [QbA fs vars y,QbA fs (vars++[s]) z]:=by rw[Jby,if_neg zp,if_neg zp,if_pos rfl]
  refine⟨rfl,by rw[hr];exact h1,?_,?_⟩
  ·rw[An.nd,Vx,if_neg zp,if_neg zp,if_pos rfl];simp only[ndL];rw[Jw];exact h2
  ·rw[nA.o,if_neg zq];rw[if_neg zq]at h3;simp only[Qak,J7]at h3 |-;exact h3
 have K0:=HH.o.kid (HCS.o nn s).symm;have jA:siz y.nd<=n:=Nat.le_trans (JM (by simp:y∈[y,z])) HSZ.o;have hsz:siz z.nd<=n:=Nat.le_trans (JM (by simp:z∈[y,z])) HSZ.o;have cy:=IH y vars (.slice va vars.length vc) g b (0*5) (QaG x (QbS fs vars (ndL ([y,z].take 0))).2) w jA zo (K0.pre HA.o rfl HWL.o);have c4:=K0.par 4 _ rfl;have gA:=Zh K0;have yB:=Zh cA;clear K0 HH eA HAD nA tA cA;go_enter func98,ntmps98;go_wp2_with fail;refine cy.mono ?_;intro e w2 hr;have dA:=Zh (gA.o.step HA.o rfl hr);obtain rfl:=hr.1;clear cy hr gA c4 d0 jA;go_upto_region 15 with fail;have HK:Hi (Qdl fs rb t mb mn w w2.drew q o x (.slice va vars.length vc) vars g b [y,z] #[Iv 19,Iv nn,Sv s,Iv off,.slice (some ⟨b,0,none⟩) [y,z].length cc] 1):=dA.o.below (Below.refl w2.heap.size w2).drew;clear dA;obtain⟨bB,vB,sA,zA,xA⟩:=HK.o.vars;injection sA with hva hvn hvcc;subst hva hvcc
 obtain⟨sv,yA,vA⟩:∃sv,((vars=[]/\sv=Nl)\/(vars≠[]/\sv=.slice (some ⟨g,0,none⟩) vars.length vars.length))/\∀W:World,(Instr.slice 43 (.slice va vars.length vc) none (some (Iv vars.length)) (some (Iv vars.length))).run prog W=.ok sv W:=by
  by_cases hv0:vars=[]
  ·obtain⟨rfl,rfl⟩:=zA.2 hv0;subst hv0;exact⟨_,.inl ⟨rfl,rfl⟩,JfX⟩
  ·obtain⟨rfl,_⟩:=xA hv0;exact⟨_,.inr ⟨hv0,rfl⟩,JfW g vars.length vc zA.1⟩
 have HSV:=Zh yA;have HFR:=Zh HK.o.fresh;have qA:∀W':World,Below w2.drew.heap.size w2.drew W'->vars≠[]->∀i s,vars[i]?=some s->W'.cell? ⟨g,i,none⟩=some (Sv s):=λW' hb hv i s hs=>(hb.cell (World.block_lt_of_cell? _ _ ((xA hv).2 i s hs))).trans ((xA hv).2 i s hs)
 have HCV:=Zh qA;have uA:∃a m c',sv=.slice a m c':=by rcases yA with⟨_,rfl⟩|⟨_,rfl⟩<;>exact⟨_,_,_,rfl⟩
 obtain⟨sa,sm,sc,rfl⟩:=uA;have hvl:vars.length<=1000000000:=zo;clear zA xA hvn yA qA;refine wp_region_held_drew (S:=λ_=>True) zk (trivial) λhH=>?_;generalize w2.drew=w3 at *;refine zK 0 ?_
 try simp only[zX]
 refine zK 1 ?_;try simp only[zX]
 refine zK 2 ?_;try simp only[zX]
 refine zK 3 ?_;try simp only[zX]
 refine zK 6 ?_;try simp only[zX]
 refine zK 7 ?_;try simp only[zX]
 refine zK 8 ?_;try simp only[zX]
 refine zK 9 ?_;try simp only[zX]
 refine zK 10 ?_;try simp only[zX]
 refine zK 11 ?_;try simp only[zX]
 refine zK 12 ?_;try simp only[zX]
 refine zK 13 ?_;try simp only[zX]
 refine zK 14 ?_;try simp only[zX]
 refine ZR (rs:=[4,15]) (AllReadyH.cons rfl (λK hK=>?_) (AllReadyH.cons rfl (λK hK=>?_) AllReadyH.nil))
 ·have c4:=HK.o.par 4 _ rfl;go_simp;clear c4;refine zU hK trivial λhH=>?_;clear hK K
  try simp only[zX]
  refine zK 5 ?_;try simp only[zX]
  refine ZS 15 rfl λK hK=>?_;have c2:=HK.o.par 2 _ rfl;go_simp;clear c2;refine zU hK trivial λhH=>?_;clear hK K;exact QjL
 ·have c2:=HK.o.par 2 _ rfl;go_simp;clear c2;refine zU hK trivial λhH=>?_;clear hK K
  try simp only[zX]
  refine ZR (rs:=[4,16]) (AllReadyH.cons rfl (λK hK=>?_) (AllReadyH.cons rfl (λK hK=>?_) AllReadyH.nil))
  ·have c4:=HK.o.par 4 _ rfl;go_simp;clear c4;refine zU hK trivial λhH=>?_;clear hK K
   try simp only[zX]
   refine zK 5 ?_
   exact QjL
  ·go_simp;refine zU hK trivial λhH=>?_;have hb6:Below w3.heap.size w3 (w3.alloc (.cells #[Sv s] 9)):=zO.alloc (Nat.le_refl _) _;replace HK:=Zh (HK.o.below hb6);have HRW:=Zh (zQ w3 (.cells #[Sv s] 9));have HBW:=Zh hb6;clear hb6;clear hK K
   try simp only[zX]
   refine ZR (rs:=[4,17]) (AllReadyH.cons rfl (λK hK=>?_) (AllReadyH.cons rfl (λK hK=>?_) AllReadyH.nil))
   ·have c4:=HK.o.par 4 _ rfl;go_simp;clear c4;refine zU hK trivial λhH=>?_;clear hK K
    try simp only[zX]
    refine zK 5 ?_
    exact Qkd
   ·(refine Vy (w3.alloc (.cells #[Sv s] 9)) zt (.tmp 115) (.tmp 120) zt vars g _ HSV.o zt (HCV.o _ HBW.o) w3.heap.size s zt HRW.o hvl ?_;intro w5 cc5 hv5 hb5)
    replace HK:=Zh (HK.o.below hb5);have HV5:=Zh hv5;have HF5:=Zh (HFR.o (w3.alloc (.cells #[Sv s] 9)).heap.size zq);generalize (w3.alloc (.cells #[Sv s] 9)).heap.size=g5 at *;clear hv5 hb5 HRW HBW HCV HSV;refine zU hK trivial λhH=>?_;clear hK K
    try simp only[zX]
    refine ZS 4 rfl λK hK=>?_;have c4:=HK.o.par 4 _ rfl;go_simp;clear c4;refine zU hK trivial λhH=>?_;clear hK K
    try simp only[zX]
    refine zK 5 ?_
    exact ux8
def Jbz(fs:List By)(rb:Nat)(t:TypeId)(mb mn:Nat)(hfs:fs.length<=1000000000):∀(n:Nat) (a:An) (vars:List By) (vv:Value) (g q o:Nat) (x:Option Int) (w:World),siz a.nd<=n->n+vars.length<=1000000000->QbW fs rb t mb mn w q o x vv vars g a->Calls prog 98 #[Pt rb,.pointer (some ⟨q,o,none⟩),vv] w (Qdp fs rb t mb w q o x vars a)
 |0,a,vars,vv,g,q,o,x,w,hn,_,_=>by
  have:=Vh a.nd;omega
 |n+1,a,vars,vv,g,q,o,x,w,hn,hb,hpre=>by
  have IH:=λ(y:An) vars' vv' g' q' o' x' W h1 h2 h3=>Jbz fs rb t mb mn hfs n y vars' vv' g' q' o' x' W h1 h2 h3
  by_cases h2:a.kind=2
  ·exact JjK fs rb t mb mn hfs n IH a vars vv g q o x w hn hb hpre h2
  by_cases h20:a.kind=20
  ·exact Jhk fs rb t mb mn hfs n IH a vars vv g q o x w hn hb hpre h20
  by_cases h19:a.kind=19
  ·exact JjL fs rb t mb mn hfs n IH a vars vv g q o x w hn hb hpre h19
  exact Jhj fs rb t mb mn hfs n IH a vars vv g q o x w hn hb hpre h2 h20 h19
def Z0(l:List By)(v s:By):Qal (l++[v]) s=match Qal l s with|some k=>some k|none=>if v=s then some l.length else none:=by
 unfold Qal;rw[List.findIdx?_append]
 cases h:List.findIdx? (λv=>decide (v=s)) l with
 |some k=>simp
 |none=>by_cases e:v=s<;>simp[e]
def Z1(l:List By)(s:By):(Qal l s).isSome=decide (s∈l):=by
 unfold Qal;rw[List.findIdx?_isSome]
 induction l with
 |nil=>simp
 |cons a r ih=>
  simp only[List.any_cons,ih,List.mem_cons]
  by_cases e:a=s
  ·simp[e]
  ·have e':¬s=a:=λh=>e h.symm
   simp[e,e']
def Ys:∀(l:List (By × Int)) (x:By × Int) (seen:List By),Qdk (l++[x]) seen=Qdk l seen++if x.1∈seen++l.map (·.1) then [x.2] else []
 |[],(s,o),seen=>by simp[Qdk]
 |(s,o)::l,x,seen=>by
  simp only[List.cons_append,Qdk,Ys l x,List.map_cons,List.append_assoc]
  congr 2
def Vi{W W':World}{base e size n:Nat}{v:Value}{xs:List Value}(h:W.ownsRow base e size v n xs)(hb:∀g,v.ownBlock=some g->W'.heap[g]?=W.heap[g]?):W'.ownsRow base e size v n xs:=by
 refine⟨h.1,h.2.imp id ?_⟩;rintro⟨g,cap,cur,rfl,h2,h3,h4⟩;exact⟨g,cap,cur,rfl,h2,(hb g rfl).trans h3,h4⟩
def Jhm{P:Nat->Nat->Prop}{W W':World}{base e size n:Nat}{v:Value}{xs xs':List Value}(h:W.ownsRow base e size v n xs)(hl:xs'.length=xs.length)(hs:Qcj P W W')(hc:∀k u,xs'[k]?=some u->W'.cell? ⟨Value.blk v,k,none⟩=some u):W'.ownsRow base e size v n xs':=by
 refine⟨hl.trans h.1,?_⟩
 rcases h.2 with⟨rfl,rfl⟩|⟨g,cap,cur,rfl,h2,h3,h4,h5,h6,h7⟩
 ·exact .inl ⟨rfl,rfl⟩
 ·obtain⟨xA,c1,c2⟩:=hs.shape g cur e (0,0) h3;refine .inr ⟨g,cap,xA,rfl,h2,c1,h4,h5,c2.trans h6,List.ext_getElem? λk=>?_⟩;rw[List.getElem?_take];have hx:xs'.length=n*size:=hl.trans h.1
  by_cases hk:k<n*size
  ·rw[if_pos hk];have hu:xs'[k]?=some (xs'[k]'(by omega)):=List.getElem?_eq_getElem zo;have:=hc k _ hu;rw[show Value.blk (.slice (some ⟨g,0,none⟩) n cap)=g from rfl,Ja c1]at this;rw[hu,<- this];simp
  ·rw[if_neg hk,List.getElem?_eq_none zo]
def JbA{α:Type}{cells:α->List Value}{size:Nat}(hs:∀x,(cells x).length=size):∀(l:List α) (k:Nat) (u:Value),(l.flatMap cells)[k]?=some u->∃m j x,k=m*size+j/\j<size/\l[m]?=some x/\(cells x)[j]?=some u
 |[],k,u,h=>by simp at h
 |a::l,k,u,h=>by
  rw[List.flatMap_cons]at h
  by_cases hk:k<size
  ·rw[List.getElem?_append_left (by rw[hs];exact hk)]at h;exact⟨0,k,a,by omega,hk,rfl,h⟩
  ·rw[List.getElem?_append_right (by rw[hs];omega),hs]at h;obtain⟨m,j,x,h1,h2,h3,h4⟩:=JbA hs l _ u h;exact⟨m+1,j,x,by rw[Nat.succ_mul];omega,h2,by simpa using h3,h4⟩
def Zp{α:Type}{cells:α->List Value}{size:Nat}(hs:∀x,(cells x).length=size)(l:List α):(l.flatMap cells).length=l.length*size:=by
 induction l with
 |nil=>simp
 |cons a l ih=>rw[List.flatMap_cons,List.length_append,hs,ih,List.length_cons,Nat.succ_mul];omega
def FnA.Ok.chgC{P:Nat->Nat->Prop}{W W':World}{f:FnA}(h:f.Ok W)(hc:Qcj P W W')(hp:∀b j,f.lo<=b->b<f.hi->¬P b j):f.Ok W':=by
 obtain⟨m,m1,m2,m3,m4,m5⟩:=h.bmd;exact⟨Vi h.pown λg hg=>hc.block g (h.pown.lt g hg).2 λj=>hp g j (h.pown.lt g hg).1 (zu (m3 g hg)),Vi h.town λg hg=>hc.block g (h.town.lt g hg).2 λj=>hp g j (h.town.lt g hg).1 (zu (m4 g hg)),YQ hc _ h.bat λb hb j=>hp b j (zu (m5.2 b hb)) (m5.2 b hb).2,⟨m,m1,m2,m3,m4,m5⟩,le_trans h.hle hc.size⟩
def ClA.Ok.chgC{P:Nat->Nat->Prop}{W W':World}{c:ClA}(h:c.Ok W)(hc:Qcj P W W')(hp:∀b j,c.lo<=b->b<c.hi->¬P b j):c.Ok W':=
 ⟨YQ hc _ h.at' λb hb j=>hp b j (h.made.2 b hb).1 (h.made.2 b hb).2,h.made,h.hle.1,le_trans h.hle.2 hc.size⟩
def Zq{l:List (Nat × Nat)}(h:l.Pairwise λa b=>a.2<=b.1){i j:Nat}{a b:Nat × Nat}(hi:l[i]?=some a)(hj:l[j]?=some b)(hne:i≠j):a.2<=b.1\/b.2<=a.1:=by
 obtain⟨h1,e1⟩:=List.getElem?_eq_some_iff.1 hi;obtain⟨h2,e2⟩:=List.getElem?_eq_some_iff.1 hj;have hp:=List.pairwise_iff_getElem.1 h
 rcases Nat.lt_or_gt_of_ne hne with hl|hl
 ·have:=hp i j h1 h2 hl;rw[e1,e2]at this;exact .inl this
 ·have:=hp j i h2 h1 hl;rw[e1,e2]at this;exact .inr this
def Yt(S:Qap){i:Nat}{f:FnA}(h:S.funcs[i]?=some f):S.ivs[i]?=some (f.lo,f.hi):=by
 unfold Qap.ivs;rw[List.getElem?_append_left (by rw[List.length_map];exact(List.getElem?_eq_some_iff.1 h).1),getElem?_map,h];rfl
def Yu(S:Qap){i:Nat}{c:ClA}(h:S.clauses[i]?=some c):S.ivs[S.funcs.length+i]?=some (c.lo,c.hi):=by
 unfold Qap.ivs;rw[List.getElem?_append_right (by rw[List.length_map];omega),List.length_map,Nat.add_sub_cancel_left,getElem?_map,h];rfl
def Qap.setF(S:Qap)(i:Nat)(a:An):Qap:={ S with funcs:=match S.funcs[i]? with|none=>S.funcs|some f=>S.funcs.set i { f with body:=a } }
def Qap.setC(S:Qap)(i:Nat)(a:An):Qap:={ S with clauses:=match S.clauses[i]? with|none=>S.clauses|some c=>S.clauses.set i { c with cond:=a } }
def JbB{W:World}{f:FnA}(h:f.Ok W):∀b∈foot f.body,f.lo<=b/\b<f.hi:=by
 obtain⟨m,m1,m2,m3,m4,m5⟩:=h.bmd;exact λb hb=>⟨by have:=(m5.2 b hb).1;omega,(m5.2 b hb).2⟩
def Vz{W:World}{base e size n:Nat}{v:Value}{xs:List Value}(h:W.ownsRow base e size v n xs)(hn:0<n):v.ownBlock=some (Value.blk v):=by
 rcases h.2 with⟨rfl,rfl⟩|⟨g,cap,cur,rfl,_⟩
 ·omega
 ·rfl
theorem Qjt{P:Prop}(h:P:=by
  rw[hsf];unfold Qap.ivs;dsimp only
  congr 1
  refine List.ext_getElem? λk=>?_
  rw[List.getElem?_map,List.getElem?_map,List.getElem?_set]
  by_cases hk:i=k
  ·subst hk;rw[if_pos rfl,if_pos hlt,hf];rfl
  ·rw[if_neg hk]):P:=h
theorem Qhg{P:Prop}(h:P:=by
  refine(hc.block sb (Jb h.box) λj hj=>?_).trans h.box
  rcases hP sb j hj with e|e|e<;>omega):P:=h
theorem QgY{P:Prop}(h:P:=by
  rcases hj with⟨e,_⟩|hj|e
  ·exact .inl e
  ·exact .inr (.inl (hfo b hj))
  ·exact .inr (.inr e)):P:=h
def QaH.resF{fs:List By}{rb:Nat}{t:TypeId}{mb:Nat}{W W':World}{sb:Nat}{S:Qap}{i:Nat}{f:FnA}{x:Option Int}{vars:List By}{e:Ending}(h:QaH W sb S)(hf:S.funcs[i]?=some f)(hr:Qdp fs rb t mb W (Value.blk S.fv) (i*10+5) x vars f.body e W')
  (hrb:sb<rb/\(∀iv∈S.ivs,iv.2<=rb)/\S.fv.ownBlock≠some rb/\S.cv.ownBlock≠some rb):QaH W' sb (S.setF i (QbA fs vars f.body)):=by
 obtain⟨_,hn,_,hc⟩:=hr;obtain⟨r1,r2,r3,r4⟩:=hrb;have hlt:=(List.getElem?_eq_some_iff.1 hf).1;have hmem:=mem_of_getElem? hf;obtain⟨fo,eA,dA⟩:=h.fok f hmem;have hfo:=JbB fo;have xA:(f.lo,f.hi)∈S.ivs:=mem_of_getElem? (Yt S hf);have uA:=Vz h.fown (by omega:0<S.funcs.length);have gA:=(h.fown.lt _ uA).1;have iA:=h.fout _ uA (f.lo,f.hi) xA;have cA:Value.blk S.fv≠rb:=λe=>r3 (by rw[uA,e])
 have hsf:S.setF i (QbA fs vars f.body)={ S with funcs:=S.funcs.set i { f with body:=QbA fs vars f.body } }:=by unfold Qap.setF;rw[hf]
 have yA:(S.setF i (QbA fs vars f.body)).ivs=S.ivs:=by
  exact Qjt
 have hP:∀b j,Qej (Value.blk S.fv) (i*10+5) rb (foot f.body) b j->b=Value.blk S.fv\/(f.lo<=b/\b<f.hi)\/b=rb:=λb j hj=>by
  exact QgY
 have zA:∀b j (iv:Nat × Nat),iv∈S.ivs->(f.hi<=iv.1\/iv.2<=f.lo)->iv.1<=b->b<iv.2->¬Qej (Value.blk S.fv) (i*10+5) rb (foot f.body) b j:=λb j iv hiv hd h1 h2 hj=>by
  have h3:=h.fout _ uA iv hiv;have h4:=r2 iv hiv
  rcases hP b j hj with e|e|e
  ·omega
  ·omega
  ·omega
 have hA:(i*10+5)=i*10+5:=rfl;refine⟨?_,?_,?_,?_,?_,by rw[yA];exact h.pair,by rw[yA,hsf];exact h.fout,by rw[yA,hsf];exact h.cout⟩
 ·rw[hsf];exact Qhg
 ·rw[hsf];dsimp only;rw[length_set];refine Jhm h.fown (by rw[Zp FnA.cells_length,Zp FnA.cells_length,length_set]) hc λk u hk=>?_
  obtain⟨m,j,y,rfl,hj,hy,hu⟩:=JbA FnA.cells_length _ k u hk;rw[getElem?_set]at hy
  have aA:∀y',S.funcs[m]?=some y'->y'.cells[j]?=some u->(m≠i\/j<5)->W'.cell? ⟨Value.blk S.fv,m*10+j,none⟩=some u:=λy' hy' hu' hmj=>by
   have h1:=J0 h.fown (Kq FnA.cells_length S.funcs m j y' u hy' hu');refine(hc.cell _ _ (World.block_lt_of_cell? _ _ h1) λhp=>?_).trans h1
   rcases hp with⟨_,h2,h3⟩|hp|hp
   ·rcases hmj with h4|h4
    ·rcases Nat.lt_or_gt_of_ne h4 with h5|h5
     ·have:(m+1)*10<=i*10:=mul_le_mul_right 10 h5;omega
     ·have:(i+1)*10<=m*10:=mul_le_mul_right 10 h5;omega
    ·by_cases h5:m=i
     ·subst h5;omega
     ·rcases Nat.lt_or_gt_of_ne h5 with h6|h6
      ·have:(m+1)*10<=i*10:=mul_le_mul_right 10 h6;omega
      ·have:(i+1)*10<=m*10:=mul_le_mul_right 10 h6;omega
   ·have:=hfo (Value.blk S.fv) hp;omega
   ·exact cA hp
  by_cases hmi:i=m
  ·subst hmi;rw[if_pos rfl,if_pos hlt]at hy;injection hy with hy;subst hy
   by_cases hj5:j<5
   ·refine aA f hf ?_ (.inr hj5);unfold FnA.cells at hu |-;rw[List.getElem?_append_left (by simpa using hj5)]at hu |-;exact hu
   ·unfold FnA.cells at hu;rw[List.getElem?_append_right zr]at hu;have:=hn.cells (j-5) u (by simpa using hu);rw[show i*10+j=i*10+5+(j-5) by omega];exact this
  ·rw[if_neg hmi]at hy;exact aA y hy hu (.inl λe=>hmi e.symm)
 ·rw[hsf];refine Vi h.cown λg hg=>hc.block g (h.cown.lt g hg).2 λj hj=>?_
  have h1:=h.cout g hg (f.lo,f.hi) xA
  rcases hP g j hj with e|e|e
  ·rcases VP h.cown h.fown zp with h2|h2
   ·rw[hg]at h2;cases h2
   ·exact h2 (by rw[hg,uA,e])
  ·omega
  ·exact r4 (by rw[hg,e])
 ·rw[hsf];intro y hy;dsimp only at hy;obtain⟨m,hm⟩:=List.getElem?_of_mem hy;rw[getElem?_set]at hm
  by_cases hmi:i=m
  ·subst hmi;rw[if_pos rfl,if_pos hlt]at hm;injection hm with hm;subst hm;obtain⟨m,m1,m2,m3,m4,m5⟩:=fo.bmd
   have vA:∀g,f.lo<=g->g<m->∀j,¬Qej (Value.blk S.fv) (i*10+5) rb (foot f.body) g j:=λg h1 h2 j hj=>by
    have h3:=r2 _ xA
    rcases hj with⟨e,_⟩|hj|e
    ·omega
    ·have:=(m5.2 g hj).1;omega
    ·omega
   refine⟨⟨Vi fo.pown λg hg=>hc.block g (fo.pown.lt g hg).2 (vA g (fo.pown.lt g hg).1 (m3 g hg)),Vi fo.town λg hg=>hc.block g (fo.town.lt g hg).2 (vA g (fo.town.lt g hg).1 (m4 g hg)),hn.at',⟨m,m1,m2,m3,m4,?_⟩,le_trans fo.hle hc.size⟩,eA,dA⟩;unfold Qce;rw[J7];exact m5
  ·rw[if_neg hmi]at hm;obtain⟨g1,g2,g3⟩:=h.fok y (mem_of_getElem? hm);refine⟨g1.chgC hc λb j h1 h2=>zA b j (y.lo,y.hi) (mem_of_getElem? (Yt S hm)) (Zq h.pair (Yt S hf) (Yt S hm) hmi) h1 h2,g2,g3⟩
 ·rw[hsf];intro c bA;obtain⟨m,hm⟩:=List.getElem?_of_mem (show c∈S.clauses from bA);obtain⟨g1,g2⟩:=h.cok c bA;exact⟨g1.chgC hc λb j h1 h2=>zA b j (c.lo,c.hi) (mem_of_getElem? (Yu S hm)) (Zq h.pair (Yt S hf) (Yu S hm) zo) h1 h2,g2⟩
def QaH.resC{fs:List By}{rb:Nat}{t:TypeId}{mb:Nat}{W W':World}{sb:Nat}{S:Qap}{i:Nat}{f:ClA}{x:Option Int}{vars:List By}{e:Ending}(h:QaH W sb S)(hf:S.clauses[i]?=some f)(hr:Qdp fs rb t mb W (Value.blk S.cv) (i*7) x vars f.cond e W')
  (hrb:sb<rb/\(∀iv∈S.ivs,iv.2<=rb)/\S.fv.ownBlock≠some rb/\S.cv.ownBlock≠some rb):QaH W' sb (S.setC i (QbA fs vars f.cond)):=by
 obtain⟨_,hn,_,hc⟩:=hr;obtain⟨r1,r2,r3,r4⟩:=hrb;have hlt:=(List.getElem?_eq_some_iff.1 hf).1;have hmem:=mem_of_getElem? hf;obtain⟨fo,aA⟩:=h.cok f hmem;have hfo:∀b∈foot f.cond,f.lo<=b/\b<f.hi:=fo.made.2;have zA:(f.lo,f.hi)∈S.ivs:=mem_of_getElem? (Yu S hf);have uA:=Vz h.cown (by omega:0<S.clauses.length);have cA:=(h.cown.lt _ uA).1;have dA:=h.cout _ uA (f.lo,f.hi) zA;have bA:Value.blk S.cv≠rb:=λe=>r4 (by rw[uA,e])
 have hsf:S.setC i (QbA fs vars f.cond)={ S with clauses:=S.clauses.set i { f with cond:=QbA fs vars f.cond } }:=by unfold Qap.setC;rw[hf]
 have xA:(S.setC i (QbA fs vars f.cond)).ivs=S.ivs:=by
  exact Qjt
 have hP:∀b j,Qej (Value.blk S.cv) (i*7) rb (foot f.cond) b j->b=Value.blk S.cv\/(f.lo<=b/\b<f.hi)\/b=rb:=λb j hj=>by
  exact QgY
 have yA:∀b j (iv:Nat × Nat),iv∈S.ivs->(f.hi<=iv.1\/iv.2<=f.lo)->iv.1<=b->b<iv.2->¬Qej (Value.blk S.cv) (i*7) rb (foot f.cond) b j:=λb j iv hiv hd h1 h2 hj=>by
  have h3:=h.cout _ uA iv hiv;have h4:=r2 iv hiv
  rcases hP b j hj with e|e|e
  ·omega
  ·omega
  ·omega
 refine⟨?_,?_,?_,?_,?_,by rw[xA];exact h.pair,by rw[xA,hsf];exact h.fout,by rw[xA,hsf];exact h.cout⟩
 ·rw[hsf];exact Qhg
 ·rw[hsf];refine Vi h.fown λg hg=>hc.block g (h.fown.lt g hg).2 λj hj=>?_
  have h1:=h.fout g hg (f.lo,f.hi) zA
  rcases hP g j hj with e|e|e
  ·rcases VP h.fown h.cown zp with h2|h2
   ·rw[hg]at h2;cases h2
   ·exact h2 (by rw[hg,uA,e])
  ·omega
  ·exact r3 (by rw[hg,e])
 ·rw[hsf];dsimp only;rw[length_set];refine Jhm h.cown (by rw[Zp ClA.cells_length,Zp ClA.cells_length,length_set]) hc λk u hk=>?_
  obtain⟨m,j,y,rfl,hj,hy,hu⟩:=JbA ClA.cells_length _ k u hk;rw[getElem?_set]at hy
  have vA:∀y',S.clauses[m]?=some y'->y'.cells[j]?=some u->(m≠i\/5<=j)->W'.cell? ⟨Value.blk S.cv,m*7+j,none⟩=some u:=λy' hy' hu' hmj=>by
   have h1:=J0 h.cown (Kq ClA.cells_length S.clauses m j y' u hy' hu');refine(hc.cell _ _ (World.block_lt_of_cell? _ _ h1) λhp=>?_).trans h1
   rcases hp with⟨_,h2,h3⟩|hp|hp
   ·by_cases h5:m=i
    ·subst h5
     rcases hmj with h4|h4
     ·exact h4 rfl
     ·omega
    ·rcases Nat.lt_or_gt_of_ne h5 with h6|h6
     ·have:(m+1)*7<=i*7:=mul_le_mul_right 7 h6;omega
     ·have:(i+1)*7<=m*7:=mul_le_mul_right 7 h6;omega
   ·have:=hfo (Value.blk S.cv) hp;omega
   ·exact bA hp
  by_cases hmi:i=m
  ·subst hmi;rw[if_pos rfl,if_pos hlt]at hy;injection hy with hy;subst hy
   by_cases hj5:j<5
   ·unfold ClA.cells at hu;rw[List.getElem?_append_left (by rw[Array.length_toList,J3];exact hj5)]at hu;exact hn.cells j u hu
   ·refine vA f hf ?_ (.inr zo);unfold ClA.cells at hu |-;rw[List.getElem?_append_right (by rw[Array.length_toList,J3];omega),Array.length_toList,J3]at hu |-;exact hu
  ·rw[if_neg hmi]at hy;exact vA y hy hu (.inl λe=>hmi e.symm)
 ·rw[hsf];intro y hy;obtain⟨m,hm⟩:=List.getElem?_of_mem (show y∈S.funcs from hy);obtain⟨g1,g2⟩:=h.fok y hy;exact⟨g1.chgC hc λb j h1 h2=>yA b j (y.lo,y.hi) (mem_of_getElem? (Yt S hm)) (Zq h.pair (Yu S hf) (Yt S hm) (zu ((List.getElem?_eq_some_iff.1 hm).1))) h1 h2,g2⟩
 ·rw[hsf];intro y hy;dsimp only at hy;obtain⟨m,hm⟩:=List.getElem?_of_mem hy;rw[getElem?_set]at hm
  by_cases hmi:i=m
  ·subst hmi;rw[if_pos rfl,if_pos hlt]at hm;injection hm with hm;subst hm;refine⟨⟨hn.at',?_,fo.hle.1,le_trans fo.hle.2 hc.size⟩,aA⟩;unfold Qce;rw[J7];exact fo.made
  ·rw[if_neg hmi]at hm;obtain⟨g1,g2⟩:=h.cok y (mem_of_getElem? hm);exact⟨g1.chgC hc λb j h1 h2=>yA b j (y.lo,y.hi) (mem_of_getElem? (Yu S hm)) (Zq h.pair (Yu S hf) (Yu S hm) zo) h1 h2,g2⟩
end Go.Proofs.YtfafpklefknomaaGreatDoor
