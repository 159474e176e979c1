
import Derived.Test.YtncanmdgdflnpaaGreatDoorW15
namespace Go.Proofs.YtncanmdgdflnpaaGreatDoor
open Go.ChangeShapes Go.WideShapes Go.ChangeAt Go.RowKit Go.Lib
open _root_.Go.Proofs.Tryz
set_option linter.all false
set_option maxRecDepth 100000
set_option maxHeartbeats 32000000
theorem JdN (g n vc:Nat) (h:n≤vc) (W:World):(Instr.slice 23 (.slice (some ⟨g,0,none⟩) n vc) none (some (.int .i64 n)) (some (.int .i64 n))).run prog W=.ok (.slice (some ⟨g,0,none⟩) n n) W:=by
 rw[run_slice_hm W 23 (some ⟨g,0,none⟩) n vc (show prog.underlying 23=some (.slice (prog.elem 23)) by kernel_rfl) .i64 .i64 n n (by omega) (by omega) (by omega)];rw[show (sizeOf (prog.elem 23)).run prog W=.ok 1 W by kernel_rfl];simp[Result.andThen,sliced,Addr.add]
theorem JdO (W:World):(Instr.slice 23 (.slice none 0 0) none (some (.int .i64 0)) (some (.int .i64 0))).run prog W=.ok (.slice none 0 0) W:=by kernel_rfl
theorem infoStrP:(prog.info? 9).map (fun i=>(i.zero,i.size,i.bytes))=some (some (.string ⟨#[]⟩),1,16):=by kernel_rfl
theorem K3 {ops:Array Oper} {o:Oper} {ac:Act} {K:Act→World→Prop} {Q:Exit→Act→World→Prop} {E:Prop} (w:World) (hgd:o.guard=none) (s x:Operand)
  (ho:o.op=.call { callee:=.builtin .append,args:=#[s,x],argTypes:=#[23,23] }) (vars:List (List UInt8)) (g:Nat) (sv:Value) (hsv:(vars=[]∧sv=.slice none 0 0)∨(vars≠[]∧sv=.slice (some ⟨g,0,none⟩) vars.length vars.length)) (hs:ac.eval s=sv)
  (hc:vars≠[]→∀ i s,vars[i]?=some s→w.cell? ⟨g,i,none⟩=some (.string (bs s))) (rb:Nat) (nm:List UInt8) (hx:ac.eval x=.slice (some ⟨rb,0,none⟩) 1 1) (hrow:w.heap[rb]?=some (.cells #[.string (bs nm)] 9 (0,0)))
  (hlen:vars.length≤1000000000)
  (h:∀ w' cc,VarsAt w' (.slice (some ⟨w.heap.size,0,none⟩) (vars.length+1) cc) (vars++[nm]) w.heap.size→Below w.heap.size w w'→K (ac.put o.dst (.slice (some ⟨w.heap.size,0,none⟩) (vars.length+1) cc)) w') :
  if Region.wanted o (yielded ops ac.tmps)=true then Oper.wp prog o ac w K Q else E:=by
 have hw:Region.wanted o (yielded ops ac.tmps)=true:=by simp[Region.wanted,hgd]
 rw[if_pos hw];obtain ⟨i0,hi,hz0,hz1,hz2⟩:=info_parts infoStrP
 have hnews:∀ j u,[Value.string (bs nm)][j]?=some u→w.cell? ((⟨rb,0,none⟩:Addr).add j)=some u:=fun j u hj=>by
  rw[show (⟨rb,0,none⟩:Addr).add j=⟨rb,j,none⟩ by unfold Addr.add; split <;> simp_all];exact Ks hrow hj
 have hvar:∀ (cs:Array Value) (cc:Nat),vars.length+1≤cc→(∀ (i:Nat) (s:List UInt8),(vars++[nm])[i]?=some s→cs[i]?=some (Value.string (bs s)))→VarsAt (w.drew.alloc (.cells cs 9)) (.slice (some ⟨w.heap.size,0,none⟩) (vars.length+1) cc) (vars++[nm]) w.heap.size:=by
  intro cs cc h1 h2;refine ⟨_,_,by rw[List.length_append]; rfl,⟨by rw[List.length_append]; exact h1,fun e=>by simp at e⟩,fun _=>⟨rfl,fun i s hs=>?_⟩⟩;exact (Ja (zzw w.drew (.cells cs 9)) i).trans (h2 i s hs)
 have hbel:∀ cs:Array Value,Below w.heap.size w (w.drew.alloc (.cells cs 9)):=fun cs=>((Below.refl w.heap.size w).drew).alloc zzl _
 unfold Oper.wp execOp
 rcases hsv with ⟨hv,rfl⟩ | ⟨hv,rfl⟩
 ·subst hv;have hr:=run_append_nil (P:=prog) w 23 o.type 9 i0 _ underlying23 hi hz0 ⟨rb,0,none⟩ 1 1 [.string (bs nm)] (by rw[hz1]; rfl) hnews (by decide) (by decide) (by rw[hz2]; decide);simp only[ho,resolve,invoke,builtin,Sem.run_bind,Sem.run_pure,Result.andThen_ok,List.map_toArray,List.map_cons,List.map_nil,hs,hx,hr];refine h _ _ (hvar _ _ (grownCap_ge w 1 0 9) fun i s hs=>?_) (hbel _);have:i=0:=by have:=(List.getElem?_eq_some_iff.1 hs).1; simp at this; exact this
  subst this;have hs':nm=s:=by simpa using hs
  subst hs';rw[Array.getElem?_append_left (by simp)];rfl
 ·have hr:=run_append_grow (P:=prog) w 23 o.type 9 i0 _ underlying23 hi hz0 ⟨g,0,none⟩ vars.length vars.length (vars.map fun s=>.string (bs s)) (by rw[hz1]; simp) (fun j u hj=>by
   rw[show (⟨g,0,none⟩:Addr).add j=⟨g,j,none⟩ by unfold Addr.add; split <;> simp_all];rw[List.getElem?_map] at hj;obtain ⟨s,h1,rfl⟩:=Option.map_eq_some_iff.1 hj
   exact hc hv j s h1) ⟨rb,0,none⟩ 1 1 [.string (bs nm)] (by rw[hz1]; rfl) hnews (by omega) (by omega) (growslice_fits (by omega) (by rw[hz2]; omega))
  simp only[ho,resolve,invoke,builtin,Sem.run_bind,Sem.run_pure,Result.andThen_ok,List.map_toArray,List.map_cons,List.map_nil,hs,hx,hr];refine h _ _ (hvar _ _ (grownCap_ge w (vars.length+1) vars.length 9) fun i s hs=>?_) (hbel _);have hlt:=(List.getElem?_eq_some_iff.1 hs).1;rw[Array.getElem?_append_left (by simp at hlt ⊢; omega)];have e:(vars.map fun s=>Value.string (bs s)).toArray++[Value.string (bs nm)].toArray=((vars++[nm]).map fun s=>Value.string (bs s)).toArray:=by simp
  rw[e,List.getElem?_toArray,List.getElem?_map,hs];rfl
theorem KidI.below {fs:List (List UInt8)} {rb:Nat} {t:TypeId} {mb mn:Nat} {w W W':World} {q o:Nat} {x1:Option Int} {vv:Value} {vars:List (List UInt8)} {g b:Nat} {l:List An} {pc:Array Value} {i:Nat} (h:KidI fs rb t mb mn w W q o x1 vv vars g b l pc i) (hb:Below W.heap.size W W'):KidI fs rb t mb mn w W' q o x1 vv vars g b l pc i:=by
 have hc:ChgC (fun _ _=>False) W W':=ChgC.of_below hb;refine ⟨fun j u hj=>(hc.cell q (o+j) h.lts.1 (fun h=>h)).trans (h.par j u hj),fun j=>(hc.frz q j h.lts.1).trans (h.pfr j),Z2 b _ 0 h.kids (fun hne=>hb.block b (h.lts.2 ?_)) (fun q hq=>hb.block q (JcM b _ 0 h.kids q hq)),fun hne j=>(hc.frz b j (h.lts.2 hne)).trans (h.kfr hne j),h.flt.chgC hc (fun _ h=>h),h.map.same (hb.block mb h.map.lt),h.vars.chgC hc (fun _ _ h=>h),h.chg.trans (ChgC.of_below hb),Nat.lt_of_lt_of_le h.lts.1 hb.size,fun hne=>Nat.lt_of_lt_of_le (h.lts.2 hne) hb.size⟩;intro e;subst e;simp at hne
theorem KidI.fresh {fs:List (List UInt8)} {rb:Nat} {t:TypeId} {mb mn:Nat} {w W:World} {q o:Nat} {x1:Option Int} {vv:Value} {vars:List (List UInt8)} {g b:Nat} {y z:An} {pc:Array Value} (h:KidI fs rb t mb mn w W q o x1 vv vars g b [y,z] pc 1):∀ g',W.heap.size≤g'→g'∉foot z∧g'≠b∧g'≠rb:=by
 intro g' hg;have h1:=h.lts.2 (by simp);have h2:=Jb h.flt;refine ⟨fun hm=>?_,by omega,by omega⟩
 have:=JcM b _ 0 h.kids g' (by
  simp only[List.take_succ_cons,List.take_zero,List.map_cons,List.map_nil,List.drop_succ_cons,List.drop_zero,List.singleton_append,footL,List.append_nil]
  exact List.mem_append_right _ hm)
 omega
theorem JjV {fs:List (List UInt8)} {rb:Nat} {t:TypeId} {mb mn:Nat} {w W W':World} {q o:Nat} {x1 x':Option Int} {vv:Value} {vars vars':List (List UInt8)} {g b c:Nat} {y z:An} {pc:Array Value} {e:Ending} {k n off:Int} {s:List UInt8} (h:KidI fs rb t mb mn w W q o x1 vv vars g b [y,z] pc 1) (hpc:pc=cellsN (.mk k n s off b c [y,z])) (hA:Apart q rb g mb b vars [y,z]) (hr:ResP fs rb t mb W b (1*5) x' vars' z e W') :
  HdI fs rb t mb mn w W' q o (addL x' (resN fs vars' z.nd).2) vv vars g b c [resA fs vars y,resA fs vars' z] k off n s:=by
 obtain ⟨_,hn,hf,hc⟩:=hr;have hsub:∀ d,d∈foot z→d∈footL [y,z]:=fun d hd=>Jz (by simp) d hd
 have hbl:=h.lts.2 (by simp)
 have hq:∀ j,¬ ResC b (1*5) rb (foot z) q j:=fun j hj=>by
  rcases hj with ⟨e,_⟩ | hj | e
  ·exact hA.qa.2 (by simp) e
  ·exact hA.qa.1 (hsub _ hj)
  ·exact hA.ra.2.2 e.symm
 have hks:([y,z].take 1).map (resA fs vars)++[y,z].drop 1=[resA fs vars y,z]:=rfl;have hkids:=h.kids;rw[hks] at hkids;obtain ⟨k1,k2⟩:=JO (i:=0) hkids rfl;have hfl:footL [resA fs vars y,resA fs vars' z]=footL [y,z]:=by simp only[footL,JY]
 have hkv:kidsV b c [resA fs vars y,resA fs vars' z]=kidsV b c [y,z]:=by simp[kidsV]
 refine ⟨⟨fun j u hj=>?_,fun j=>(hc.frz q j h.lts.1).trans (h.pfr j),?_⟩,hf,h.map.same (hc.block mb h.map.lt fun j hj=>?_),h.vars.chgC hc (fun hv j hj=>?_),?_⟩
 ·refine (hc.cell q (o+j) h.lts.1 (hq _)).trans (h.par j u ?_);rw[hpc]
  show (#[_,_,_,_,kidsV b c [y,z]]:Array Value).toList[j]?=some u
  rw[← hkv];exact hj
 ·unfold An.At;refine ⟨fun _ j=>(hc.frz b j hbl).trans (h.kfr (by simp) j),?_⟩;unfold AtL;refine ⟨fun j u hj=>?_,?_,?_⟩
  ·have hj5:j<5:=by have:=(List.getElem?_eq_some_iff.1 hj).1; rw[Array.length_toList,JV] at this; exact this
   refine (hc.cell b (0*5+j) hbl fun hp=>?_).trans (k1 j u hj)
   rcases hp with ⟨_,h1,h2⟩ | h1 | h1
   ·omega
   ·exact hA.nod.2 (by simp) (hsub _ h1)
   ·exact hA.ra.2.1 (by simp) h1.symm
  ·refine VW hc _ k2 fun d hd j hj=>?_
   rw[JY] at hd
   rcases hj with ⟨e,_⟩ | hj | e
   ·subst e; exact hA.nod.2 (by simp) (Jz (by simp) _ hd)
   ·exact VX (l:=[y,z]) (i:=1) (m:=0) hA.nod.1 rfl rfl (by decide) hd hj
   ·subst e; exact hA.ra.1 (Jz (by simp) _ hd)
  ·unfold AtL;exact ⟨hn.cells,hn.at',by unfold AtL; trivial⟩
 ·rcases hj with ⟨e,_⟩ | hj | e
  ·exact hA.ma.2.1 (by simp) e
  ·exact hA.ma.1 (hsub _ hj)
  ·exact hA.ma.2.2.2 e
 ·rcases hj with ⟨e,_⟩ | hj | e
  ·exact (hA.ga hv).2.1 (by simp) e
  ·exact (hA.ga hv).1 (hsub _ hj)
  ·exact (hA.ga hv).2.2.2 e
 ·have h3:=h.chg;rw[if_neg (by simp)] at h3 ⊢;rw[hfl];refine h3.step hc fun d j hj=>.inl ?_
  exact wx106
theorem JeT {q rb g mb b:Nat} {vars:List (List UInt8)} {l l':List An} (h:Apart q rb g mb b vars l) (hf:footL l'=footL l) (hl:l≠[]) (hl':l'≠[]):Apart q rb g mb b vars l':=
 ⟨⟨by rw[hf]; exact h.nod.1,fun _=>by rw[hf]; exact h.nod.2 hl⟩,⟨by rw[hf]; exact h.qa.1,fun _=>h.qa.2 hl⟩,⟨by rw[hf]; exact h.ra.1,fun _=>h.ra.2.1 hl,h.ra.2.2⟩,fun hv=>⟨by rw[hf]; exact (h.ga hv).1,fun _=>(h.ga hv).2.1 hl,(h.ga hv).2.2⟩,⟨by rw[hf]; exact h.ma.1,fun _=>h.ma.2.1 hl,h.ma.2.2⟩⟩
theorem wx8 {P:Prop}(h:P:=by
  try simp only[Act.put,ZA,ZB,ZC]
  refine ZS 18 rfl (fun K hK=>?_);have hz:=HK.out.pre HA.out rfl HWL.out;have hl5:(vars++[s]).length=vars.length+1:=by simp
  have cz:=IH z (vars++[s]) (.slice (some ⟨g5,0,none⟩) (vars.length+1) cc5) g5 b (1*5) _ w5 hsz (by rw[hl5]; omega) ⟨hz.node,hz.nod,hz.qf,hz.rf,fun _=>HF5.out,hz.mf,hz.flt,hz.map,HV5.out,hz.wf⟩
  (go_simp; go_at_call 75; refine cz.mono ?_; intro e w6 hr6)
  have hh:=JjV HK.out (HCS.out nn s).symm HA.out hr6;obtain rfl:=hr6.1;have HI:=Zh hh;clear hz cz hr6 hh HK HV5 HF5;refine hK.out _ _ trivial (fun hH=>?_);clear hK K
  try simp only[Act.put,ZA,ZB,ZC]
  refine wpAnyH_done (by kernel_rfl) ?_ _;have HA2:=Zh (JeT HA.out (by simp only[footL,JY]:footL [resA fs vars y,resA fs (vars++[s]) z]=footL [y,z]) (by simp) (by simp));have c1:=HI.out.node.cells 1 (Value.int .i64 nn) rfl;have f1:=HI.out.node.frz (o+1);have c2:=HI.out.node.cells 2 (Value.string (bs s)) rfl;have f2:=HI.out.node.frz (o+2);have hlq:=HI.out.node.lt;have HS:=Zh ((HI.out.setN HA2.out (vars.length:Int)).setS HA2.out []);clear HI;go_wp2;go_end0;rw[HR.out];have e5:(resL fs vars (ndL ([y,z].take 1))).2=(resN fs vars y.nd).2:=by simp[ndL,resL]
  have hfl:=HS.out.flt;rw[e5] at hfl
  exact HFIN.out _ HS.out.node hfl HS.out.chg):P:=h
theorem wx26 {P:Prop}(h:P:=by
  try simp only[Act.put,ZA,ZB,ZC]
  refine ZS 17 rfl (fun K hK=>?_)
  (refine K3 (w3.alloc (.cells #[.string (bs s)] 9)) (by rfl) (.tmp 115) (.tmp 120) (by rfl) vars g _ HSV.out (by rfl) (HCV.out _ HBW.out) w3.heap.size s (by rfl) HRW.out hvl ?_; intro w5 cc5 hv5 hb5)
  replace HK:=Zh (HK.out.below hb5);have HV5:=Zh hv5;have HF5:=Zh (HFR.out (w3.alloc (.cells #[.string (bs s)] 9)).heap.size (by simp));generalize (w3.alloc (.cells #[.string (bs s)] 9)).heap.size=g5 at *;clear hv5 hb5 HRW HBW HCV HSV;refine hK.out _ _ trivial (fun hH=>?_);clear hK K
  exact wx8):P:=h
theorem wx50 {P:Prop}(h:P:=by
  try simp only[Act.put,ZA,ZB,ZC]
  refine ZS 16 rfl (fun K hK=>?_);go_simp;refine hK.out _ _ trivial (fun hH=>?_);have hb6:Below w3.heap.size w3 (w3.alloc (.cells #[.string (bs s)] 9)):=zzb.alloc zzl _;replace HK:=Zh (HK.out.below hb6);have HRW:=Zh (zzw w3 (.cells #[.string (bs s)] 9));have HBW:=Zh hb6;clear hb6;clear hK K
  exact wx26):P:=h
theorem JgZ (fs:List (List UInt8)) (rb:Nat) (t:TypeId) (mb mn:Nat) (hfs:fs.length≤1000000000) (n:Nat)
  (IH:∀ (y:An) (vars':List (List UInt8)) (vv':Value) (g' q' o':Nat) (x':Option Int) (W:World),siz y.nd≤n→n+vars'.length≤1000000000→ResPre fs rb t mb mn W q' o' x' vv' vars' g' y→Calls prog 75 #[.pointer (some ⟨rb,0,none⟩),.pointer (some ⟨q',o',none⟩),vv'] W (ResP fs rb t mb W q' o' x' vars' y))
  (a:An) (vars:List (List UInt8)) (vv:Value) (g q o:Nat) (x:Option Int) (w:World) (hn:siz a.nd≤n+1) (hb:n+1+vars.length≤1000000000) (hpre:ResPre fs rb t mb mn w q o x vv vars g a) (hk:a.kind=19) :
  Calls prog 75 #[.pointer (some ⟨rb,0,none⟩),.pointer (some ⟨q,o,none⟩),vv] w (ResP fs rb t mb w q o x vars a):=by
 obtain ⟨k,nn,s,off,b,c,l⟩:=a;simp only[An.kind] at hk;obtain ⟨R,hR⟩:∃ R,ResP fs rb t mb w q o x vars (.mk k nn s off b c l)=R:=⟨_,rfl⟩
 rw[hR];have HR:Hid (R=ResP fs rb t mb w q o x vars (.mk k nn s off b c l)):=hR.symm;have hA:=Yk hpre;have hH:=hpre.hd;rw[YK] at hn;have hwf:=hpre.wf;unfold An.nd WfN at hwf;obtain ⟨h19,_,_,hsl,hwl⟩:=hwf;obtain ⟨ad,cc,hkv,had⟩:=Jn b c l
 have hcs:∀ n' s',cellsN (.mk k n' s' off b c l)=#[.int .i64 k,.int .i64 n',.string (bs s'),.int .i64 off,.slice ad l.length cc]:=fun n' s'=>by
  show #[_,_,_,_,kidsV b c l]=_
  rw[hkv]
 have hcr:∀ n' s',cellsN (.mk k n' s' off b c (resAL fs vars l))=#[.int .i64 k,.int .i64 n',.string (bs s'),.int .i64 off,.slice ad l.length cc]:=fun n' s'=>by
  exact wx95
 obtain ⟨va,vc,rfl,hvc,hvr⟩:=hpre.vars;have HVR:=Zh hvr;have HAD:=Zh had;have HCS:=Zh hcs;have HCR:=Zh hcr;have HWL:=Zh hwl;have HSL:=Zh hsl;have HH:=Zh hH;have HA:=Zh hA;have HSZ:Hid (sizL (ndL l)≤n):=by rw[Hid]; omega
 have hlen:l.length≤n:=by have:=Jw l; omega
 have H19:Hid (k=19→l.length=2):=fun e=>by have:=h19 e; rwa [J7,List.length_map] at this
 have hne1:rb≠q:=hA.ra.2.2;have hne2:q≠rb:=Ne.symm hne1;have HFN:Hid (foot (.mk k nn s off b c l)=if l=[] then [] else b::footL l):=Kt k nn s off b c l;have hc:=hH.node.cells;rw[hcs] at hc;have d0:=hc 0 _ rfl;simp only[Nat.add_zero] at d0;clear hpre hR hA hH h19 hsl hwl hkv had hcs hcr hvr hc hn;subst hk;have e2:((19:Int)==2)=false:=by decide
 have e20:((19:Int)==20)=false:=by decide
 have e19:((19:Int)==19)=true:=by decide
 obtain ⟨y,z,hyz⟩:∃ y z,l=[y,z]:=by
  have:=H19.out rfl
  match l,this with
  | [y,z],_=>exact ⟨y,z,rfl⟩
 subst hyz;have hadd:ad=some ⟨b,0,none⟩:=HAD.out (by simp);subst hadd
 have HFIN:Hid (∀ W,NodeAt W q o (.mk 19 vars.length [] off b c [resA fs vars y,resA fs (vars++[s]) z])→FltAt W rb t (addL (addL x (resN fs vars y.nd).2) (resN fs (vars++[s]) z.nd).2) (.map (some mb))→ChgC (ResC q o rb (if [resA fs vars y,resA fs (vars++[s]) z]=[] then [] else b::footL [resA fs vars y,resA fs (vars++[s]) z])) w W→ResP fs rb t mb w q o x vars (.mk 19 nn s off b c [y,z]) (.returned (.tuple #[])) W):=by
  intro W h1 h2 h3;have hr:resA fs vars (.mk 19 nn s off b c [y,z])=.mk 19 vars.length [] off b c [resA fs vars y,resA fs (vars++[s]) z]:=by rw[Jaa,if_neg (by decide),if_neg (by decide),if_pos rfl]
  refine ⟨rfl,by rw[hr]; exact h1,?_,?_⟩
  ·rw[An.nd,K2,if_neg (by decide),if_neg (by decide),if_pos rfl];simp only[ndL];rw[Jt];exact h2
  ·rw[HFN.out,if_neg (by simp)];rw[if_neg (by simp)] at h3;simp only[footL,JY] at h3 ⊢;exact h3
 have K0:=HH.out.kid (HCS.out nn s).symm;have hsy:siz y.nd≤n:=Nat.le_trans (JH (by simp:y∈[y,z])) HSZ.out;have hsz:siz z.nd≤n:=Nat.le_trans (JH (by simp:z∈[y,z])) HSZ.out;have cy:=IH y vars (.slice va vars.length vc) g b (0*5) (addL x (resL fs vars (ndL ([y,z].take 0))).2) w hsy (by omega) (K0.pre HA.out rfl HWL.out);have c4:=K0.par 4 _ rfl;have HK0:=Zh K0;have HVC:=Zh hvc;clear K0 HH H19 HAD HFN HSL hvc;go_enter func75,ntmps75;go_wp2_with fail;refine cy.mono ?_;intro e w2 hr;have HK1:=Zh (HK0.out.step HA.out rfl hr);obtain rfl:=hr.1;clear cy hr HK0 c4 d0 hsy;go_upto_region 15 with fail;have HK:Hid (KidI fs rb t mb mn w w2.drew q o x (.slice va vars.length vc) vars g b [y,z] #[.int .i64 19,.int .i64 nn,.string (bs s),.int .i64 off,.slice (some ⟨b,0,none⟩) [y,z].length cc] 1):=HK1.out.below (Below.refl w2.heap.size w2).drew;clear HK1;obtain ⟨va',vc',hv1,hv2,hv3⟩:=HK.out.vars;injection hv1 with hva hvn hvcc;subst hva hvcc
 obtain ⟨sv,hsv,hsl⟩:∃ sv,((vars=[]∧sv=.slice none 0 0)∨(vars≠[]∧sv=.slice (some ⟨g,0,none⟩) vars.length vars.length))∧∀ W:World,(Instr.slice 23 (.slice va vars.length vc) none (some (.int .i64 vars.length)) (some (.int .i64 vars.length))).run prog W=.ok sv W:=by
  by_cases hv0:vars=[]
  ·obtain ⟨rfl,rfl⟩:=hv2.2 hv0;subst hv0;exact ⟨_,.inl ⟨rfl,rfl⟩,JdO⟩
  ·obtain ⟨rfl,_⟩:=hv3 hv0;exact ⟨_,.inr ⟨hv0,rfl⟩,JdN g vars.length vc hv2.1⟩
 have HSV:=Zh hsv;have HFR:=Zh HK.out.fresh;have hcv:∀ W':World,Below w2.drew.heap.size w2.drew W'→vars≠[]→∀ i s,vars[i]?=some s→W'.cell? ⟨g,i,none⟩=some (.string (bs s)):=fun W' hb hv i s hs=>(hb.cell (World.block_lt_of_cell? _ _ ((hv3 hv).2 i s hs))).trans ((hv3 hv).2 i s hs)
 have HCV:=Zh hcv;have hsvs:∃ a m c',sv=.slice a m c':=by rcases hsv with ⟨_,rfl⟩ | ⟨_,rfl⟩ <;> exact ⟨_,_,_,rfl⟩
 obtain ⟨sa,sm,sc,rfl⟩:=hsvs;have hvl:vars.length≤1000000000:=by omega
 clear hv2 hv3 hvn hsv hcv;refine wp_region_held_drew (S:=fun _=>True) (by kernel_rfl) (trivial) (fun hH=>?_);generalize w2.drew=w3 at *;refine ZT (i:=0) (v:=?vT7_0) rfl (Or.inl ⟨by rfl,?yT7_0⟩) ?_
 case yT7_0=>exact ZyQ
 try simp only[Act.put,ZA,ZB,ZC]
 refine ZT (i:=1) (v:=?vT7_1) rfl (Or.inl ⟨by rfl,?yT7_1⟩) ?_
 case yT7_1=>exact ZyQ
 try simp only[Act.put,ZA,ZB,ZC]
 refine ZT (i:=2) (v:=?vT7_2) rfl (Or.inl ⟨by rfl,?yT7_2⟩) ?_
 case yT7_2=>exact ZyQ
 try simp only[Act.put,ZA,ZB,ZC]
 refine ZT (i:=3) (v:=?vT7_3) rfl (Or.inl ⟨by rfl,?yT7_3⟩) ?_
 case yT7_3=>exact ZyQ
 try simp only[Act.put,ZA,ZB,ZC]
 refine ZT (i:=6) (v:=?vT7_6) rfl (Or.inl ⟨by rfl,?yT7_6⟩) ?_
 case yT7_6=>exact ZyQ
 try simp only[Act.put,ZA,ZB,ZC]
 refine ZT (i:=7) (v:=?vT7_7) rfl (Or.inl ⟨by rfl,?yT7_7⟩) ?_
 case yT7_7=>exact ZyQ
 try simp only[Act.put,ZA,ZB,ZC]
 refine ZT (i:=8) (v:=?vT7_8) rfl (Or.inl ⟨by rfl,?yT7_8⟩) ?_
 case yT7_8=>exact ZyQ
 try simp only[Act.put,ZA,ZB,ZC]
 refine ZT (i:=9) (v:=?vT7_9) rfl (Or.inl ⟨by rfl,?yT7_9⟩) ?_
 case yT7_9=>exact ZyQ
 try simp only[Act.put,ZA,ZB,ZC]
 refine ZT (i:=10) (v:=?vT7_10) rfl (Or.inl ⟨by rfl,?yT7_10⟩) ?_
 case yT7_10=>exact ZyQ
 try simp only[Act.put,ZA,ZB,ZC]
 refine ZT (i:=11) (v:=?vT7_11) rfl (Or.inl ⟨by rfl,?yT7_11⟩) ?_
 case yT7_11=>exact ZyQ
 try simp only[Act.put,ZA,ZB,ZC]
 refine ZT (i:=12) (v:=?vT7_12) rfl (Or.inl ⟨by rfl,?yT7_12⟩) ?_
 case yT7_12=>exact ZyQ
 try simp only[Act.put,ZA,ZB,ZC]
 refine ZT (i:=13) (v:=?vT7_13) rfl (Or.inl ⟨by rfl,?yT7_13⟩) ?_
 case yT7_13=>exact ZyQ
 try simp only[Act.put,ZA,ZB,ZC]
 refine ZT (i:=14) (v:=?vT7_14) rfl (Or.inl ⟨by rfl,?yT7_14⟩) ?_
 case yT7_14=>exact ZyQ
 try simp only[Act.put,ZA,ZB,ZC]
 refine ZR (rs:=[4,15]) (AllReadyH.cons rfl (fun K hK=>?_) (AllReadyH.cons rfl (fun K hK=>?_) AllReadyH.nil))
 ·have c4:=HK.out.par 4 _ rfl;go_simp;clear c4;refine hK.out _ _ trivial (fun hH=>?_);clear hK K
  try simp only[Act.put,ZA,ZB,ZC]
  refine ZT (i:=5) (v:=?vT8_5) rfl (Or.inl ⟨by rfl,?yT8_5⟩) ?_
  case yT8_5=>exact ZyQ
  try simp only[Act.put,ZA,ZB,ZC]
  refine ZS 15 rfl (fun K hK=>?_);have c2:=HK.out.par 2 _ rfl;go_simp;clear c2;refine hK.out _ _ trivial (fun hH=>?_);clear hK K;exact wx50
 ·have c2:=HK.out.par 2 _ rfl;go_simp;clear c2;refine hK.out _ _ trivial (fun hH=>?_);clear hK K
  try simp only[Act.put,ZA,ZB,ZC]
  refine ZR (rs:=[4,16]) (AllReadyH.cons rfl (fun K hK=>?_) (AllReadyH.cons rfl (fun K hK=>?_) AllReadyH.nil))
  ·have c4:=HK.out.par 4 _ rfl;go_simp;clear c4;refine hK.out _ _ trivial (fun hH=>?_);clear hK K
   try simp only[Act.put,ZA,ZB,ZC]
   refine ZT (i:=5) (v:=?vT14_5) rfl (Or.inl ⟨by rfl,?yT14_5⟩) ?_
   case yT14_5=>exact ZyQ
   exact wx50
  ·go_simp;refine hK.out _ _ trivial (fun hH=>?_);have hb6:Below w3.heap.size w3 (w3.alloc (.cells #[.string (bs s)] 9)):=zzb.alloc zzl _;replace HK:=Zh (HK.out.below hb6);have HRW:=Zh (zzw w3 (.cells #[.string (bs s)] 9));have HBW:=Zh hb6;clear hb6;clear hK K
   try simp only[Act.put,ZA,ZB,ZC]
   refine ZR (rs:=[4,17]) (AllReadyH.cons rfl (fun K hK=>?_) (AllReadyH.cons rfl (fun K hK=>?_) AllReadyH.nil))
   ·have c4:=HK.out.par 4 _ rfl;go_simp;clear c4;refine hK.out _ _ trivial (fun hH=>?_);clear hK K
    try simp only[Act.put,ZA,ZB,ZC]
    refine ZT (i:=5) (v:=?vT19_5) rfl (Or.inl ⟨by rfl,?yT19_5⟩) ?_
    case yT19_5=>exact ZyQ
    exact wx26
   ·(refine K3 (w3.alloc (.cells #[.string (bs s)] 9)) (by rfl) (.tmp 115) (.tmp 120) (by rfl) vars g _ HSV.out (by rfl) (HCV.out _ HBW.out) w3.heap.size s (by rfl) HRW.out hvl ?_; intro w5 cc5 hv5 hb5)
    replace HK:=Zh (HK.out.below hb5);have HV5:=Zh hv5;have HF5:=Zh (HFR.out (w3.alloc (.cells #[.string (bs s)] 9)).heap.size (by simp));generalize (w3.alloc (.cells #[.string (bs s)] 9)).heap.size=g5 at *;clear hv5 hb5 HRW HBW HCV HSV;refine hK.out _ _ trivial (fun hH=>?_);clear hK K
    try simp only[Act.put,ZA,ZB,ZC]
    refine ZS 4 rfl (fun K hK=>?_);have c4:=HK.out.par 4 _ rfl;go_simp;clear c4;refine hK.out _ _ trivial (fun hH=>?_);clear hK K
    try simp only[Act.put,ZA,ZB,ZC]
    refine ZT (i:=5) (v:=?vT23_5) rfl (Or.inl ⟨by rfl,?yT23_5⟩) ?_
    case yT23_5=>exact ZyQ
    exact wx8
theorem Jab (fs:List (List UInt8)) (rb:Nat) (t:TypeId) (mb mn:Nat) (hfs:fs.length≤1000000000):∀ (n:Nat) (a:An) (vars:List (List UInt8)) (vv:Value) (g q o:Nat) (x:Option Int) (w:World),siz a.nd≤n→n+vars.length≤1000000000→ResPre fs rb t mb mn w q o x vv vars g a→Calls prog 75 #[.pointer (some ⟨rb,0,none⟩),.pointer (some ⟨q,o,none⟩),vv] w (ResP fs rb t mb w q o x vars a)
 | 0,a,vars,vv,g,q,o,x,w,hn,_,_=>by
  have:=KN a.nd;omega
 | n+1,a,vars,vv,g,q,o,x,w,hn,hb,hpre=>by
  have IH:=fun (y:An) vars' vv' g' q' o' x' W h1 h2 h3=>Jab fs rb t mb mn hfs n y vars' vv' g' q' o' x' W h1 h2 h3
  by_cases h2:a.kind=2
  ·exact JgY fs rb t mb mn hfs n IH a vars vv g q o x w hn hb hpre h2
  by_cases h20:a.kind=20
  ·exact JeS fs rb t mb mn hfs n IH a vars vv g q o x w hn hb hpre h20
  by_cases h19:a.kind=19
  ·exact JgZ fs rb t mb mn hfs n IH a vars vv g q o x w hn hb hpre h19
  exact JeR fs rb t mb mn hfs n IH a vars vv g q o x w hn hb hpre h2 h20 h19
theorem YP (l:List (List UInt8)) (v s:List UInt8):firstIx (l++[v]) s=match firstIx l s with | some k=>some k | none=>if v=s then some l.length else none:=by
 unfold firstIx;rw[List.findIdx?_append]
 cases h:List.findIdx? (fun v=>decide (v=s)) l with
 | some k=>simp
 | none=>by_cases e:v=s <;> simp[e]
theorem YQ (l:List (List UInt8)) (s:List UInt8):(firstIx l s).isSome=decide (s∈l):=by
 unfold firstIx;rw[List.findIdx?_isSome]
 induction l with
 | nil=>simp
 | cons a r ih=>
  simp only[List.any_cons,ih,List.mem_cons]
  by_cases e:a=s
  ·simp[e]
  ·have e':¬ s=a:=fun h=>e h.symm
   simp[e,e']
theorem VD:∀ (l:List (List UInt8 × Int)) (x:List UInt8 × Int) (seen:List (List UInt8)),dupl (l++[x]) seen=dupl l seen++if x.1∈seen++l.map (·.1) then [x.2] else []
 | [],(s,o),seen=>by simp[dupl]
 | (s,o)::l,x,seen=>by
  simp only[List.cons_append,dupl,VD l x,List.map_cons,List.append_assoc]
  congr 2
theorem KO {W W':World} {base e size n:Nat} {v:Value} {xs:List Value} (h:W.ownsRow base e size v n xs) (hb:∀ g,v.ownBlock=some g→W'.heap[g]?=W.heap[g]?):W'.ownsRow base e size v n xs:=by
 refine ⟨h.1,h.2.imp id ?_⟩;rintro ⟨g,cap,cur,rfl,h2,h3,h4⟩;exact ⟨g,cap,cur,rfl,h2,(hb g rfl).trans h3,h4⟩
theorem JeU {P:Nat→Nat→Prop} {W W':World} {base e size n:Nat} {v:Value} {xs xs':List Value} (h:W.ownsRow base e size v n xs) (hl:xs'.length=xs.length) (hs:ChgC P W W') (hc:∀ k u,xs'[k]?=some u→W'.cell? ⟨Value.blk v,k,none⟩=some u):W'.ownsRow base e size v n xs':=by
 refine ⟨hl.trans h.1,?_⟩
 rcases h.2 with ⟨rfl,rfl⟩ | ⟨g,cap,cur,rfl,h2,h3,h4,h5,h6,h7⟩
 ·exact .inl ⟨rfl,rfl⟩
 ·obtain ⟨cs',c1,c2⟩:=hs.shape g cur e (0,0) h3;refine .inr ⟨g,cap,cs',rfl,h2,c1,h4,h5,c2.trans h6,List.ext_getElem? fun k=>?_⟩;rw[List.getElem?_take];have hx:xs'.length=n*size:=hl.trans h.1
  by_cases hk:k<n*size
  ·rw[if_pos hk];have hu:xs'[k]?=some (xs'[k]'(by omega)):=List.getElem?_eq_getElem (by omega);have:=hc k _ hu;rw[show Value.blk (.slice (some ⟨g,0,none⟩) n cap)=g from rfl,Ja c1] at this;rw[hu,← this];simp
  ·rw[if_neg hk,List.getElem?_eq_none (by omega)]
theorem Jac {α:Type} {cells:α→List Value} {size:Nat} (hs:∀ x,(cells x).length=size):∀ (l:List α) (k:Nat) (u:Value),(l.flatMap cells)[k]?=some u→∃ m j x,k=m*size+j∧j<size∧l[m]?=some x∧(cells x)[j]?=some u
 | [],k,u,h=>by simp at h
 | a::l,k,u,h=>by
  rw[List.flatMap_cons] at h
  by_cases hk:k<size
  ·rw[List.getElem?_append_left (by rw[hs]; exact hk)] at h;exact ⟨0,k,a,by omega,hk,rfl,h⟩
  ·rw[List.getElem?_append_right (by rw[hs]; omega),hs] at h;obtain ⟨m,j,x,h1,h2,h3,h4⟩:=Jac hs l _ u h;exact ⟨m+1,j,x,by rw[Nat.succ_mul]; omega,h2,by simpa using h3,h4⟩
theorem Yl {α:Type} {cells:α→List Value} {size:Nat} (hs:∀ x,(cells x).length=size) (l:List α):(l.flatMap cells).length=l.length*size:=by
 induction l with
 | nil=>simp
 | cons a l ih=>rw[List.flatMap_cons,List.length_append,hs,ih,List.length_cons,Nat.succ_mul]; omega
theorem FnA.Ok.chgC {P:Nat→Nat→Prop} {W W':World} {f:FnA} (h:f.Ok W) (hc:ChgC P W W') (hp:∀ b j,f.lo≤b→b<f.hi→¬ P b j):f.Ok W':=by
 obtain ⟨m,m1,m2,m3,m4,m5⟩:=h.bmd;exact ⟨KO h.pown fun g hg=>hc.block g (h.pown.lt g hg).2 fun j=>hp g j (h.pown.lt g hg).1 (by have:=m3 g hg; omega),KO h.town fun g hg=>hc.block g (h.town.lt g hg).2 fun j=>hp g j (h.town.lt g hg).1 (by have:=m4 g hg; omega),VW hc _ h.bat fun b hb j=>hp b j (by have:=m5.2 b hb; omega) (m5.2 b hb).2,⟨m,m1,m2,m3,m4,m5⟩,Nat.le_trans h.hle hc.size⟩
theorem ClA.Ok.chgC {P:Nat→Nat→Prop} {W W':World} {c:ClA} (h:c.Ok W) (hc:ChgC P W W') (hp:∀ b j,c.lo≤b→b<c.hi→¬ P b j):c.Ok W':=
 ⟨VW hc _ h.at' fun b hb j=>hp b j (h.made.2 b hb).1 (h.made.2 b hb).2,h.made,h.hle.1,Nat.le_trans h.hle.2 hc.size⟩
theorem Ym {l:List (Nat × Nat)} (h:l.Pairwise fun a b=>a.2≤b.1) {i j:Nat} {a b:Nat × Nat} (hi:l[i]?=some a) (hj:l[j]?=some b) (hne:i≠j):a.2≤b.1∨b.2≤a.1:=by
 obtain ⟨h1,e1⟩:=List.getElem?_eq_some_iff.1 hi;obtain ⟨h2,e2⟩:=List.getElem?_eq_some_iff.1 hj;have hp:=List.pairwise_iff_getElem.1 h
 rcases Nat.lt_or_gt_of_ne hne with hl | hl
 ·have:=hp i j h1 h2 hl;rw[e1,e2] at this;exact .inl this
 ·have:=hp j i h2 h1 hl;rw[e1,e2] at this;exact .inr this
theorem VE (S:SrcA) {i:Nat} {f:FnA} (h:S.funcs[i]?=some f):S.ivs[i]?=some (f.lo,f.hi):=by
 unfold SrcA.ivs;rw[List.getElem?_append_left (by rw[List.length_map]; exact (List.getElem?_eq_some_iff.1 h).1),List.getElem?_map,h];rfl
theorem VF (S:SrcA) {i:Nat} {c:ClA} (h:S.clauses[i]?=some c):S.ivs[S.funcs.length+i]?=some (c.lo,c.hi):=by
 unfold SrcA.ivs;rw[List.getElem?_append_right (by rw[List.length_map]; omega),List.length_map,Nat.add_sub_cancel_left,List.getElem?_map,h];rfl
def SrcA.setF (S:SrcA) (i:Nat) (a:An):SrcA:={ S with funcs:=match S.funcs[i]? with | none=>S.funcs | some f=>S.funcs.set i { f with body:=a } }
def SrcA.setC (S:SrcA) (i:Nat) (a:An):SrcA:={ S with clauses:=match S.clauses[i]? with | none=>S.clauses | some c=>S.clauses.set i { c with cond:=a } }
theorem Jad {W:World} {f:FnA} (h:f.Ok W):∀ b∈foot f.body,f.lo≤b∧b<f.hi:=by
 obtain ⟨m,m1,m2,m3,m4,m5⟩:=h.bmd;exact fun b hb=>⟨by have:=(m5.2 b hb).1; omega,(m5.2 b hb).2⟩
theorem K4 {W:World} {base e size n:Nat} {v:Value} {xs:List Value} (h:W.ownsRow base e size v n xs) (hn:0<n):v.ownBlock=some (Value.blk v):=by
 rcases h.2 with ⟨rfl,rfl⟩ | ⟨g,cap,cur,rfl,_⟩
 ·omega
 ·rfl
theorem wx77 {P:Prop}(h:P:=by
  rw[hsf];unfold SrcA.ivs;dsimp only
  congr 1
  refine List.ext_getElem? fun k=>?_
  rw[List.getElem?_map,List.getElem?_map,List.getElem?_set]
  by_cases hk:i=k
  ·subst hk;rw[if_pos rfl,if_pos hlt,hf];rfl
  ·rw[if_neg hk]):P:=h
theorem wx136 {P:Prop}(h:P:=by
  refine (hc.block sb (Jb h.box) fun j hj=>?_).trans h.box
  rcases hP sb j hj with e | e | e <;> omega):P:=h
theorem wx144 {P:Prop}(h:P:=by
  rcases hj with ⟨e,_⟩ | hj | e
  ·exact .inl e
  ·exact .inr (.inl (hfo b hj))
  ·exact .inr (.inr e)):P:=h
theorem SrcOk.resF {fs:List (List UInt8)} {rb:Nat} {t:TypeId} {mb:Nat} {W W':World} {sb:Nat} {S:SrcA} {i:Nat} {f:FnA} {x:Option Int} {vars:List (List UInt8)} {e:Ending} (h:SrcOk W sb S) (hf:S.funcs[i]?=some f) (hr:ResP fs rb t mb W (Value.blk S.fv) (i*10+5) x vars f.body e W')
  (hrb:sb<rb∧(∀ iv∈S.ivs,iv.2≤rb)∧S.fv.ownBlock≠some rb∧S.cv.ownBlock≠some rb):SrcOk W' sb (S.setF i (resA fs vars f.body)):=by
 obtain ⟨_,hn,_,hc⟩:=hr;obtain ⟨r1,r2,r3,r4⟩:=hrb;have hlt:=(List.getElem?_eq_some_iff.1 hf).1;have hmem:=List.mem_of_getElem? hf;obtain ⟨fo,fs1,fs2⟩:=h.fok f hmem;have hfo:=Jad fo;have hivf:(f.lo,f.hi)∈S.ivs:=List.mem_of_getElem? (VE S hf);have hob:=K4 h.fown (by omega:0<S.funcs.length);have hfb:=(h.fown.lt _ hob).1;have hfi:=h.fout _ hob (f.lo,f.hi) hivf;have hne:Value.blk S.fv≠rb:=fun e=>r3 (by rw[hob,e])
 have hsf:S.setF i (resA fs vars f.body)={ S with funcs:=S.funcs.set i { f with body:=resA fs vars f.body } }:=by unfold SrcA.setF; rw[hf]
 have hivs:(S.setF i (resA fs vars f.body)).ivs=S.ivs:=by
  exact wx77
 have hP:∀ b j,ResC (Value.blk S.fv) (i*10+5) rb (foot f.body) b j→b=Value.blk S.fv∨(f.lo≤b∧b<f.hi)∨b=rb:=fun b j hj=>by
  exact wx144
 have hoth:∀ b j (iv:Nat × Nat),iv∈S.ivs→(f.hi≤iv.1∨iv.2≤f.lo)→iv.1≤b→b<iv.2→¬ ResC (Value.blk S.fv) (i*10+5) rb (foot f.body) b j:=fun b j iv hiv hd h1 h2 hj=>by
  have h3:=h.fout _ hob iv hiv;have h4:=r2 iv hiv
  rcases hP b j hj with e | e | e
  ·omega
  ·omega
  ·omega
 have hfn:(i*10+5)=i*10+5:=rfl;refine ⟨?_,?_,?_,?_,?_,by rw[hivs]; exact h.pair,by rw[hivs,hsf]; exact h.fout,by rw[hivs,hsf]; exact h.cout⟩
 ·rw[hsf];exact wx136
 ·rw[hsf];dsimp only;rw[List.length_set];refine JeU h.fown (by rw[Yl FnA.cells_length,Yl FnA.cells_length,List.length_set]) hc fun k u hk=>?_
  obtain ⟨m,j,y,rfl,hj,hy,hu⟩:=Jac FnA.cells_length _ k u hk;rw[List.getElem?_set] at hy
  have hold:∀ y',S.funcs[m]?=some y'→y'.cells[j]?=some u→(m≠i∨j<5)→W'.cell? ⟨Value.blk S.fv,m*10+j,none⟩=some u:=fun y' hy' hu' hmj=>by
   have h1:=JT h.fown (Kd FnA.cells_length S.funcs m j y' u hy' hu');refine (hc.cell _ _ (World.block_lt_of_cell? _ _ h1) fun hp=>?_).trans h1
   rcases hp with ⟨_,h2,h3⟩ | hp | hp
   ·rcases hmj with h4 | h4
    ·rcases Nat.lt_or_gt_of_ne h4 with h5 | h5
     ·have:(m+1)*10≤i*10:=Nat.mul_le_mul_right 10 h5;omega
     ·have:(i+1)*10≤m*10:=Nat.mul_le_mul_right 10 h5;omega
    ·by_cases h5:m=i
     ·subst h5; omega
     ·rcases Nat.lt_or_gt_of_ne h5 with h6 | h6
      ·have:(m+1)*10≤i*10:=Nat.mul_le_mul_right 10 h6;omega
      ·have:(i+1)*10≤m*10:=Nat.mul_le_mul_right 10 h6;omega
   ·have:=hfo (Value.blk S.fv) hp; omega
   ·exact hne hp
  by_cases hmi:i=m
  ·subst hmi;rw[if_pos rfl,if_pos hlt] at hy;injection hy with hy;subst hy
   by_cases hj5:j<5
   ·refine hold f hf ?_ (.inr hj5);unfold FnA.cells at hu ⊢;rw[List.getElem?_append_left (by simpa using hj5)] at hu ⊢;exact hu
   ·unfold FnA.cells at hu;rw[List.getElem?_append_right (by simp; omega)] at hu;have:=hn.cells (j-5) u (by simpa using hu);rw[show i*10+j=i*10+5+(j-5) by omega];exact this
  ·rw[if_neg hmi] at hy;exact hold y hy hu (.inl fun e=>hmi e.symm)
 ·rw[hsf];refine KO h.cown fun g hg=>hc.block g (h.cown.lt g hg).2 fun j hj=>?_
  have h1:=h.cout g hg (f.lo,f.hi) hivf
  rcases hP g j hj with e | e | e
  ·rcases Ve h.cown h.fown (by decide) with h2 | h2
   ·rw[hg] at h2; cases h2
   ·exact h2 (by rw[hg,hob,e])
  ·omega
  ·exact r4 (by rw[hg,e])
 ·rw[hsf];intro y hy;dsimp only at hy;obtain ⟨m,hm⟩:=List.getElem?_of_mem hy;rw[List.getElem?_set] at hm
  by_cases hmi:i=m
  ·subst hmi;rw[if_pos rfl,if_pos hlt] at hm;injection hm with hm;subst hm;obtain ⟨m,m1,m2,m3,m4,m5⟩:=fo.bmd
   have hnot:∀ g,f.lo≤g→g<m→∀ j,¬ ResC (Value.blk S.fv) (i*10+5) rb (foot f.body) g j:=fun g h1 h2 j hj=>by
    have h3:=r2 _ hivf
    rcases hj with ⟨e,_⟩ | hj | e
    ·omega
    ·have:=(m5.2 g hj).1; omega
    ·omega
   refine ⟨⟨KO fo.pown fun g hg=>hc.block g (fo.pown.lt g hg).2 (hnot g (fo.pown.lt g hg).1 (m3 g hg)),KO fo.town fun g hg=>hc.block g (fo.town.lt g hg).2 (hnot g (fo.town.lt g hg).1 (m4 g hg)),hn.at',⟨m,m1,m2,m3,m4,?_⟩,Nat.le_trans fo.hle hc.size⟩,fs1,fs2⟩;unfold Made;rw[JY];exact m5
  ·rw[if_neg hmi] at hm;obtain ⟨g1,g2,g3⟩:=h.fok y (List.mem_of_getElem? hm);refine ⟨g1.chgC hc fun b j h1 h2=>hoth b j (y.lo,y.hi) (List.mem_of_getElem? (VE S hm)) (Ym h.pair (VE S hf) (VE S hm) hmi) h1 h2,g2,g3⟩
 ·rw[hsf];intro c hcm;obtain ⟨m,hm⟩:=List.getElem?_of_mem (show c∈S.clauses from hcm);obtain ⟨g1,g2⟩:=h.cok c hcm;exact ⟨g1.chgC hc fun b j h1 h2=>hoth b j (c.lo,c.hi) (List.mem_of_getElem? (VF S hm)) (Ym h.pair (VE S hf) (VF S hm) (by omega)) h1 h2,g2⟩
theorem SrcOk.resC {fs:List (List UInt8)} {rb:Nat} {t:TypeId} {mb:Nat} {W W':World} {sb:Nat} {S:SrcA} {i:Nat} {f:ClA} {x:Option Int} {vars:List (List UInt8)} {e:Ending} (h:SrcOk W sb S) (hf:S.clauses[i]?=some f) (hr:ResP fs rb t mb W (Value.blk S.cv) (i*7) x vars f.cond e W')
  (hrb:sb<rb∧(∀ iv∈S.ivs,iv.2≤rb)∧S.fv.ownBlock≠some rb∧S.cv.ownBlock≠some rb):SrcOk W' sb (S.setC i (resA fs vars f.cond)):=by
 obtain ⟨_,hn,_,hc⟩:=hr;obtain ⟨r1,r2,r3,r4⟩:=hrb;have hlt:=(List.getElem?_eq_some_iff.1 hf).1;have hmem:=List.mem_of_getElem? hf;obtain ⟨fo,fs1⟩:=h.cok f hmem;have hfo:∀ b∈foot f.cond,f.lo≤b∧b<f.hi:=fo.made.2;have hivf:(f.lo,f.hi)∈S.ivs:=List.mem_of_getElem? (VF S hf);have hob:=K4 h.cown (by omega:0<S.clauses.length);have hfb:=(h.cown.lt _ hob).1;have hfi:=h.cout _ hob (f.lo,f.hi) hivf;have hne:Value.blk S.cv≠rb:=fun e=>r4 (by rw[hob,e])
 have hsf:S.setC i (resA fs vars f.cond)={ S with clauses:=S.clauses.set i { f with cond:=resA fs vars f.cond } }:=by unfold SrcA.setC; rw[hf]
 have hivs:(S.setC i (resA fs vars f.cond)).ivs=S.ivs:=by
  exact wx77
 have hP:∀ b j,ResC (Value.blk S.cv) (i*7) rb (foot f.cond) b j→b=Value.blk S.cv∨(f.lo≤b∧b<f.hi)∨b=rb:=fun b j hj=>by
  exact wx144
 have hoth:∀ b j (iv:Nat × Nat),iv∈S.ivs→(f.hi≤iv.1∨iv.2≤f.lo)→iv.1≤b→b<iv.2→¬ ResC (Value.blk S.cv) (i*7) rb (foot f.cond) b j:=fun b j iv hiv hd h1 h2 hj=>by
  have h3:=h.cout _ hob iv hiv;have h4:=r2 iv hiv
  rcases hP b j hj with e | e | e
  ·omega
  ·omega
  ·omega
 refine ⟨?_,?_,?_,?_,?_,by rw[hivs]; exact h.pair,by rw[hivs,hsf]; exact h.fout,by rw[hivs,hsf]; exact h.cout⟩
 ·rw[hsf];exact wx136
 ·rw[hsf];refine KO h.fown fun g hg=>hc.block g (h.fown.lt g hg).2 fun j hj=>?_
  have h1:=h.fout g hg (f.lo,f.hi) hivf
  rcases hP g j hj with e | e | e
  ·rcases Ve h.fown h.cown (by decide) with h2 | h2
   ·rw[hg] at h2; cases h2
   ·exact h2 (by rw[hg,hob,e])
  ·omega
  ·exact r3 (by rw[hg,e])
 ·rw[hsf];dsimp only;rw[List.length_set];refine JeU h.cown (by rw[Yl ClA.cells_length,Yl ClA.cells_length,List.length_set]) hc fun k u hk=>?_
  obtain ⟨m,j,y,rfl,hj,hy,hu⟩:=Jac ClA.cells_length _ k u hk;rw[List.getElem?_set] at hy
  have hold:∀ y',S.clauses[m]?=some y'→y'.cells[j]?=some u→(m≠i∨5≤j)→W'.cell? ⟨Value.blk S.cv,m*7+j,none⟩=some u:=fun y' hy' hu' hmj=>by
   have h1:=JT h.cown (Kd ClA.cells_length S.clauses m j y' u hy' hu');refine (hc.cell _ _ (World.block_lt_of_cell? _ _ h1) fun hp=>?_).trans h1
   rcases hp with ⟨_,h2,h3⟩ | hp | hp
   ·by_cases h5:m=i
    ·subst h5
     rcases hmj with h4 | h4
     ·exact h4 rfl
     ·omega
    ·rcases Nat.lt_or_gt_of_ne h5 with h6 | h6
     ·have:(m+1)*7≤i*7:=Nat.mul_le_mul_right 7 h6;omega
     ·have:(i+1)*7≤m*7:=Nat.mul_le_mul_right 7 h6;omega
   ·have:=hfo (Value.blk S.cv) hp; omega
   ·exact hne hp
  by_cases hmi:i=m
  ·subst hmi;rw[if_pos rfl,if_pos hlt] at hy;injection hy with hy;subst hy
   by_cases hj5:j<5
   ·unfold ClA.cells at hu;rw[List.getElem?_append_left (by rw[Array.length_toList,JV]; exact hj5)] at hu;exact hn.cells j u hu
   ·refine hold f hf ?_ (.inr (by omega));unfold ClA.cells at hu ⊢;rw[List.getElem?_append_right (by rw[Array.length_toList,JV]; omega),Array.length_toList,JV] at hu ⊢;exact hu
  ·rw[if_neg hmi] at hy;exact hold y hy hu (.inl fun e=>hmi e.symm)
 ·rw[hsf];intro y hy;obtain ⟨m,hm⟩:=List.getElem?_of_mem (show y∈S.funcs from hy);obtain ⟨g1,g2⟩:=h.fok y hy;exact ⟨g1.chgC hc fun b j h1 h2=>hoth b j (y.lo,y.hi) (List.mem_of_getElem? (VE S hm)) (Ym h.pair (VF S hf) (VE S hm) (by have:=(List.getElem?_eq_some_iff.1 hm).1; omega)) h1 h2,g2⟩
 ·rw[hsf];intro y hy;dsimp only at hy;obtain ⟨m,hm⟩:=List.getElem?_of_mem hy;rw[List.getElem?_set] at hm
  by_cases hmi:i=m
  ·subst hmi;rw[if_pos rfl,if_pos hlt] at hm;injection hm with hm;subst hm;refine ⟨⟨hn.at',?_,fo.hle.1,Nat.le_trans fo.hle.2 hc.size⟩,fs1⟩;unfold Made;rw[JY];exact fo.made
  ·rw[if_neg hmi] at hm;obtain ⟨g1,g2⟩:=h.cok y (List.mem_of_getElem? hm);exact ⟨g1.chgC hc fun b j h1 h2=>hoth b j (y.lo,y.hi) (List.mem_of_getElem? (VF S hm)) (Ym h.pair (VF S hf) (VF S hm) (by omega)) h1 h2,g2⟩
end Go.Proofs.YtncanmdgdflnpaaGreatDoor
