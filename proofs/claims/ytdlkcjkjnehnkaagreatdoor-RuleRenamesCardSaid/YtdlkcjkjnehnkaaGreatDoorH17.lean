import Derived.Test.YtdlkcjkjnehnkaaGreatDoorH16
open List(map_cons map_nil)
namespace Go.Proofs.YtdlkcjkjnehnkaaGreatDoor
open Go.ChangeShapes Go.WideShapes Go.ChangeAt Go.RowKit Go.Lib
open _root_.Go.Proofs.Tryz
set_option linter.all false
set_option maxRecDepth 100000
set_option maxHeartbeats 32000000
theorem JfN(fs:List (List UInt8))(rb:Nat)(t:TypeId)(mb mn:Nat)(hfs:fs.length<=1000000000)(n:Nat)
  (IH:∀ (y:An) (vars':List (List UInt8)) (vv':Value) (g' q' o':Nat) (x':Option Int) (W:World),siz y.nd<=n->n+vars'.length<=1000000000->QbS fs rb t mb mn W q' o' x' vv' vars' g' y->Calls prog 77 #[.pointer (some ⟨rb,0,none⟩),.pointer (some ⟨q',o',none⟩),vv'] W (Qdr fs rb t mb W q' o' x' vars' y))
  (a:An) (vars:List (List UInt8)) (vv:Value) (g q o:Nat) (x:Option Int) (w:World) (hn:siz a.nd<=n+1) (hb:n+1+vars.length<=1000000000) (hpre:QbS fs rb t mb mn w q o x vv vars g a) (hk:a.kind=20) :
  Calls prog 77 #[.pointer (some ⟨rb,0,none⟩),.pointer (some ⟨q,o,none⟩),vv] w (Qdr fs rb t mb w q o x vars a):=by
 obtain⟨k,nn,s,off,b,c,l⟩:=a;simp only[An.kind]at hk;obtain⟨R,hR⟩:∃ R,Qdr fs rb t mb w q o x vars (.mk k nn s off b c l)=R:=⟨_,rfl⟩
 rw[hR];have HR:Hid (R=Qdr fs rb t mb w q o x vars (.mk k nn s off b c l)):=hR.symm;have hA:=YD hpre;have hH:=hpre.hd;rw[Y8]at hn;have hwf:=hpre.wf;unfold An.nd WfN at hwf;obtain⟨h19,_,_,hsl,hwl⟩:=hwf;obtain⟨ad,cc,hkv,had⟩:=Jo b c l
 have hcs:∀ n' s',Qaa (.mk k n' s' off b c l)=#[.int .i64 k,.int .i64 n',.string (bs s'),.int .i64 off,.slice ad l.length cc]:=fun n' s'=>by
  show #[_,_,_,_,QaB b c l]=_
  rw[hkv]
 have hcr:∀ n' s',Qaa (.mk k n' s' off b c (Qbb fs vars l))=#[.int .i64 k,.int .i64 n',.string (bs s'),.int .i64 off,.slice ad l.length cc]:=fun n' s'=>by
  exact QkN
 obtain⟨va,vc,rfl,hvc,hvr⟩:=hpre.vars;have HVR:=Zh hvr;have HAD:=Zh had;have HCS:=Zh hcs;have HCR:=Zh hcr;have HWL:=Zh hwl;have HSL:=Zh hsl;have HH:=Zh hH;have HA:=Zh hA;have HSZ:Hid (Qbq (ndL l)<=n):=by rw[Hid];omega
 have hlen:l.length<=n:=by have:=Jx l;omega
 have H19:Hid (k=19->l.length=2):=fun e=>by have:=h19 e;rwa [Kj,List.length_map]at this
 have hne1:rb≠q:=hA.ra.2.2;have hne2:q≠rb:=Ne.symm hne1;have HFN:Hid (foot (.mk k nn s off b c l)=if l=[] then [] else b::Qah l):=KP k nn s off b c l;have hc:=hH.node.cells;rw[hcs]at hc;have d0:=hc 0 _ rfl;simp only[Nat.add_zero]at d0;clear hpre hR hA hH h19 hsl hwl hkv had hcs hcr hvr hc hn;subst hk;have e2:((20:Int)==2)=false:=by decide
 have e20:((20:Int)==20)=true:=by decide
 have HFIN:Hid (∀ W,QbX W q o (.mk 20 ((Qai fs s).getD 0:Nat) [] off b c (Qbb fs vars l))->Qba W rb t (QaK (QaK x (if (Qai fs s).isNone=true then [off] else [])) (QbE fs vars (ndL l)).2) (.map (some mb))->Qca (Qez q o rb (if l=[] then [] else b::Qah l)) w W->Qdr fs rb t mb w q o x vars (.mk 20 nn s off b c l) (.returned (.tuple #[])) W):=by
  intro W h1 h2 h3;have hr:Qbu fs vars (.mk 20 nn s off b c l)=.mk 20 ((Qai fs s).getD 0:Nat) [] off b c (Qbb fs vars l):=by rw[JaC,if_neg (by decide),if_pos rfl]
  refine⟨rfl,by rw[hr];exact h1,?_,by rw[HFN.out];exact h3⟩;rw[An.nd,VE,if_neg (by decide),if_pos rfl];dsimp only;rw[Jv];exact h2
 have hlk:=HH.out.map.look HSL.out;have hlk2:=(HH.out.map.same (w':=w.drew) rfl).look HSL.out;have r2:=Ja HH.out.flt 2;simp only[ZD,ZE,ZF]at r2;have c2:=HH.out.node.cells 2 (Value.string (bs s)) rfl;have HI:=Zh (HH.out.below (Below.refl w.heap.size w).drew);clear HSL H19 HFN HH HVR hvc
 cases hfi:Qai fs s with
 |none=>
  rw[hfi]at hlk hlk2 HFIN;simp only[Option.getD,Option.isSome,Option.isNone,if_true,Int.ofNat_eq_natCast,Int.natCast_zero,Int.cast_ofNat_Int]at hlk hlk2 HFIN;clear hfi;go_enter func77,ntmps77;go_upto_region 9 with fail;go_region;go_upto_region 11 with fail;clear hlk hlk2 r2 c2;generalize w.drew=w2 at *;have hD2:Below w2.heap.size w2 w2.drew:=(Below.refl w2.heap.size w2).drew;replace HI:=Zh (HI.out.below hD2);clear hD2;refine wp_region_held_drew (S:=fun _=>True) (by kernel_rfl) (trivial) (fun hH=>?_);refine ZT (i:=0) (v:=?vT4_0) rfl (Or.inl ⟨by rfl,?yT4_0⟩) ?_
  case yT4_0=>exact ZyQ
  try simp only[Act.put,ZA,ZB,ZC]
  refine ZT (i:=1) (v:=?vT4_1) rfl (Or.inl ⟨by rfl,?yT4_1⟩) ?_
  case yT4_1=>exact ZyQ
  try simp only[Act.put,ZA,ZB,ZC]
  refine ZT (i:=2) (v:=?vT4_2) rfl (Or.inl ⟨by rfl,?yT4_2⟩) ?_
  case yT4_2=>exact ZyQ
  try simp only[Act.put,ZA,ZB,ZC]
  refine ZT (i:=3) (v:=?vT4_3) rfl (Or.inl ⟨by rfl,?yT4_3⟩) ?_
  case yT4_3=>exact ZyQ
  try simp only[Act.put,ZA,ZB,ZC]
  refine ZT (i:=4) (v:=?vT4_4) rfl (Or.inl ⟨by rfl,?yT4_4⟩) ?_
  case yT4_4=>exact ZyQ
  try simp only[Act.put,ZA,ZB,ZC]
  refine ZT (i:=5) (v:=?vT4_5) rfl (Or.inl ⟨by rfl,?yT4_5⟩) ?_
  case yT4_5=>exact ZyQ
  try simp only[Act.put,ZA,ZB,ZC]
  refine ZS 6 rfl (fun K hK=>?_);have c3:=HI.out.node.cells 3 (Value.int .i64 off) rfl;go_simp;clear c3;refine hK.out _ _ trivial (fun hH=>?_);clear hK K
  try simp only[Act.put,ZA,ZB,ZC]
  refine ZS 7 rfl (fun K hK=>?_)
  (go_simp;go_at_call 75;refine(VD _ rb t (x) (.map (some mb)) off HI.out.flt).mono ?_;intro e w3 h3)
  have hst:=HI.out.add HA.out h3;obtain rfl:=h3.1;replace HI:=Zh hst;clear h3 hst;refine hK.out _ _ trivial (fun hH=>?_);clear hK K
  try simp only[Act.put,ZA,ZB,ZC]
  refine wpAnyH_done (by kernel_rfl) ?_ _;have c1:=HI.out.node.cells 1 (Value.int .i64 nn) rfl;have f1:=HI.out.node.frz (o+1);have c2:=HI.out.node.cells 2 (Value.string (bs s)) rfl;have f2:=HI.out.node.frz (o+2);have hlq:=HI.out.node.lt;have HS:Hid (HdI fs rb t mb mn w ((w3.setCell ⟨q,o+1,none⟩ (.int .i64 0)).setCell ⟨q,o+2,none⟩ (.string ⟨#[]⟩)) q o (QaK x [off]) (.slice va vars.length vc) vars g b c l 20 off 0 []):=(HI.out.setN HA.out 0).setS HA.out [];clear HI;go_upto_region 17 with fail;clear c1 f1 c2 f2 hlq;generalize World.setCell (World.setCell w3 _ _) _ _=w4 at *;have HH:=HS;clear HS;have HK:Hid (Qdh fs rb t mb mn w w4 q o (QaK x [off]) (.slice va vars.length vc) vars g b l #[.int .i64 20,.int .i64 0,.string (bs []),.int .i64 off,.slice ad l.length cc] 0):=HH.out.kid (HCS.out _ _).symm;have c4:=HK.out.par 4 _ rfl;clear HH HCS;go_wp2_with fail;clear c4;go_loopg [136] l.length (fun gg v136 wr=>∃ i:Nat,gg+i=l.length/\v136=.int .i64 i/\Hid (Qdh fs rb t mb mn w wr q o (QaK x [off]) (.slice va vars.length vc) vars g b l #[.int .i64 20,.int .i64 0,.string (bs []),.int .i64 off,.slice ad l.length cc] i))
  case atStart=>exact⟨0,rfl,rfl,HK⟩
  case round=>
  exact bx6
 |some ix=>
  rw[hfi]at hlk hlk2 HFIN;simp only[Option.getD,Option.isSome,Option.isNone,Bool.false_eq_true,if_false,JdH]at hlk hlk2 HFIN;clear hfi;have c1:w.cell? ⟨q,o+1,none⟩=some (Value.int .i64 nn):=HI.out.node.cells 1 (Value.int .i64 nn) rfl;have f1:w.frozen? ⟨q,o+1,none⟩=false:=HI.out.node.frz (o+1);have f2:w.frozen? ⟨q,o+2,none⟩=false:=HI.out.node.frz (o+2);have hlq:q<w.heap.size:=HI.out.node.lt;have HS:Hid (HdI fs rb t mb mn w (((w.setCell ⟨q,o+1,none⟩ (.int .i64 (ix:Nat))).setCell ⟨q,o+2,none⟩ (.string ⟨#[]⟩)).drew) q o x (.slice va vars.length vc) vars g b c l 20 off (ix:Nat) []):=(HI.out.setN HA.out (ix:Nat)).setS HA.out [];go_enter func77,ntmps77;go_upto_region 9 with fail;go_region;go_upto_region 17 with fail;clear hlk hlk2 r2 c2 c1 f1 f2 hlq HI;generalize World.drew (World.setCell (World.setCell w _ _) _ _)=w2 at *;have HH:=HS;clear HS;have HK:Hid (Qdh fs rb t mb mn w w2 q o (x) (.slice va vars.length vc) vars g b l #[.int .i64 20,.int .i64 (ix:Nat),.string (bs []),.int .i64 off,.slice ad l.length cc] 0):=HH.out.kid (HCS.out _ _).symm;have c4:=HK.out.par 4 _ rfl;clear HH HCS;go_wp2_with fail;clear c4;go_loopg [136] l.length (fun gg v136 wr=>∃ i:Nat,gg+i=l.length/\v136=.int .i64 i/\Hid (Qdh fs rb t mb mn w wr q o (x) (.slice va vars.length vc) vars g b l #[.int .i64 20,.int .i64 (ix:Nat),.string (bs []),.int .i64 off,.slice ad l.length cc] i))
  case atStart=>exact⟨0,rfl,rfl,HK⟩
  case round=>
  exact bx6
theorem Jew(g n vc:Nat)(h:n<=vc)(W:World):(Instr.slice 47 (.slice (some ⟨g,0,none⟩) n vc) none (some (.int .i64 n)) (some (.int .i64 n))).run prog W=.ok (.slice (some ⟨g,0,none⟩) n n) W:=by
 rw[run_slice_hm W 47 (some ⟨g,0,none⟩) n vc (show prog.underlying 47=some (.slice (prog.elem 47)) by kernel_rfl) .i64 .i64 n n (by omega) (by omega) (by omega)];rw[show (sizeOf (prog.elem 47)).run prog W=.ok 1 W by kernel_rfl];simp[Result.andThen,sliced,Addr.add]
theorem Jex(W:World):(Instr.slice 47 (.slice none 0 0) none (some (.int .i64 0)) (some (.int .i64 0))).run prog W=.ok (.slice none 0 0) W:=by kernel_rfl
theorem QhP:(prog.info? 9).map (fun i=>(i.zero,i.size,i.bytes))=some (some (.string ⟨#[]⟩),1,16):=by kernel_rfl
theorem Vg{ops:Array Oper}{o:Oper}{ac:Act}{K:Act->World->Prop}{Q:Exit->Act->World->Prop}{E:Prop}(w:World)(hgd:o.guard=none)(s x:Operand)
  (ho:o.op=.call { callee:=.builtin .append,args:=#[s,x],argTypes:=#[47,47] }) (vars:List (List UInt8)) (g:Nat) (sv:Value) (hsv:(vars=[]/\sv=.slice none 0 0)\/(vars≠[]/\sv=.slice (some ⟨g,0,none⟩) vars.length vars.length)) (hs:ac.eval s=sv)
  (hc:vars≠[]->∀ i s,vars[i]?=some s->w.cell? ⟨g,i,none⟩=some (.string (bs s))) (rb:Nat) (nm:List UInt8) (hx:ac.eval x=.slice (some ⟨rb,0,none⟩) 1 1) (hrow:w.heap[rb]?=some (.cells #[.string (bs nm)] 9 (0,0)))
  (hlen:vars.length<=1000000000)
  (h:∀ w' cc,QcK w' (.slice (some ⟨w.heap.size,0,none⟩) (vars.length+1) cc) (vars++[nm]) w.heap.size->Below w.heap.size w w'->K (ac.put o.dst (.slice (some ⟨w.heap.size,0,none⟩) (vars.length+1) cc)) w') :
  if Region.wanted o (yielded ops ac.tmps)=true then Oper.wp prog o ac w K Q else E:=by
 have hw:Region.wanted o (yielded ops ac.tmps)=true:=by simp[Region.wanted,hgd]
 rw[if_pos hw];obtain⟨i0,hi,hz0,hz1,hz2⟩:=info_parts QhP
 have hnews:∀ j u,[Value.string (bs nm)][j]?=some u->w.cell? ((⟨rb,0,none⟩:Addr).add j)=some u:=fun j u hj=>by
  rw[show (⟨rb,0,none⟩:Addr).add j=⟨rb,j,none⟩ by unfold Addr.add;split<;>simp_all];exact KO hrow hj
 have hvar:∀ (cs:Array Value) (cc:Nat),vars.length+1<=cc->(∀ (i:Nat) (s:List UInt8),(vars++[nm])[i]?=some s->cs[i]?=some (Value.string (bs s)))->QcK (w.drew.alloc (.cells cs 9)) (.slice (some ⟨w.heap.size,0,none⟩) (vars.length+1) cc) (vars++[nm]) w.heap.size:=by
  intro cs cc h1 h2;refine⟨_,_,by rw[List.length_append];rfl,⟨by rw[List.length_append];exact h1,fun e=>by simp at e⟩,fun _=>⟨rfl,fun i s hs=>?_⟩⟩;exact(Ja (zzw w.drew (.cells cs 9)) i).trans (h2 i s hs)
 have hbel:∀ cs:Array Value,Below w.heap.size w (w.drew.alloc (.cells cs 9)):=fun cs=>((Below.refl w.heap.size w).drew).alloc zzl _
 unfold Oper.wp execOp
 rcases hsv with⟨hv,rfl⟩|⟨hv,rfl⟩
 ·subst hv;have hr:=run_append_nil (P:=prog) w 47 o.type 9 i0 _ underlying47 hi hz0 ⟨rb,0,none⟩ 1 1 [.string (bs nm)] (by rw[hz1];rfl) hnews (by decide) (by decide) (by rw[hz2];decide);simp only[ho,resolve,invoke,builtin,Sem.run_bind,Sem.run_pure,Result.andThen_ok,List.map_toArray,map_cons,map_nil,hs,hx,hr];refine h _ _ (hvar _ _ (grownCap_ge w 1 0 9) fun i s hs=>?_) (hbel _);have:i=0:=by have:=(List.getElem?_eq_some_iff.1 hs).1;simp at this;exact this
  subst this;have hs':nm=s:=by simpa using hs
  subst hs';rw[Array.getElem?_append_left (by simp)];rfl
 ·have hr:=run_append_grow (P:=prog) w 47 o.type 9 i0 _ underlying47 hi hz0 ⟨g,0,none⟩ vars.length vars.length (vars.map fun s=>.string (bs s)) (by rw[hz1];simp) (fun j u hj=>by
   rw[show (⟨g,0,none⟩:Addr).add j=⟨g,j,none⟩ by unfold Addr.add;split<;>simp_all];rw[List.getElem?_map]at hj;obtain⟨s,h1,rfl⟩:=Option.map_eq_some_iff.1 hj
   exact hc hv j s h1) ⟨rb,0,none⟩ 1 1 [.string (bs nm)] (by rw[hz1];rfl) hnews (by omega) (by omega) (growslice_fits (by omega) (by rw[hz2];omega))
  simp only[ho,resolve,invoke,builtin,Sem.run_bind,Sem.run_pure,Result.andThen_ok,List.map_toArray,map_cons,map_nil,hs,hx,hr];refine h _ _ (hvar _ _ (grownCap_ge w (vars.length+1) vars.length 9) fun i s hs=>?_) (hbel _);have hlt:=(List.getElem?_eq_some_iff.1 hs).1;rw[Array.getElem?_append_left (by simp at hlt |-;omega)];have e:(vars.map fun s=>Value.string (bs s)).toArray++[Value.string (bs nm)].toArray=((vars++[nm]).map fun s=>Value.string (bs s)).toArray:=by simp
  rw[e,List.getElem?_toArray,List.getElem?_map,hs];rfl
theorem Qdh.below{fs:List (List UInt8)}{rb:Nat}{t:TypeId}{mb mn:Nat}{w W W':World}{q o:Nat}{x1:Option Int}{vv:Value}{vars:List (List UInt8)}{g b:Nat}{l:List An}{pc:Array Value}{i:Nat}(h:Qdh fs rb t mb mn w W q o x1 vv vars g b l pc i)(hb:Below W.heap.size W W'):Qdh fs rb t mb mn w W' q o x1 vv vars g b l pc i:=by
 have hc:Qca (fun _ _=>False) W W':=Qca.of_below hb;refine⟨fun j u hj=>(hc.cell q (o+j) h.lts.1 (fun h=>h)).trans (h.par j u hj),fun j=>(hc.frz q j h.lts.1).trans (h.pfr j),Jau b _ 0 h.kids (fun hne=>hb.block b (h.lts.2 ?_)) (fun q hq=>hb.block q (JdD b _ 0 h.kids q hq)),fun hne j=>(hc.frz b j (h.lts.2 hne)).trans (h.kfr hne j),h.flt.chgC hc (fun _ h=>h),h.map.same (hb.block mb h.map.lt),h.vars.chgC hc (fun _ _ h=>h),h.chg.trans (Qca.of_below hb),Nat.lt_of_lt_of_le h.lts.1 hb.size,fun hne=>Nat.lt_of_lt_of_le (h.lts.2 hne) hb.size⟩;intro e;subst e;simp at hne
theorem Qdh.fresh{fs:List (List UInt8)}{rb:Nat}{t:TypeId}{mb mn:Nat}{w W:World}{q o:Nat}{x1:Option Int}{vv:Value}{vars:List (List UInt8)}{g b:Nat}{y z:An}{pc:Array Value}(h:Qdh fs rb t mb mn w W q o x1 vv vars g b [y,z] pc 1):∀ g',W.heap.size<=g'->g'∉foot z/\g'≠b/\g'≠rb:=by
 intro g' hg;have h1:=h.lts.2 (by simp);have h2:=Jb h.flt;refine⟨fun hm=>?_,by omega,by omega⟩
 have:=JdD b _ 0 h.kids g' (by
  simp only[List.take_succ_cons,List.take_zero,map_cons,map_nil,List.drop_succ_cons,List.drop_zero,List.singleton_append,Qah,List.append_nil]
  exact List.mem_append_right _ hm)
 omega
theorem Jlx{fs:List (List UInt8)}{rb:Nat}{t:TypeId}{mb mn:Nat}{w W W':World}{q o:Nat}{x1 x':Option Int}{vv:Value}{vars vars':List (List UInt8)}{g b c:Nat}{y z:An}{pc:Array Value}{e:Ending}{k n off:Int}{s:List UInt8}(h:Qdh fs rb t mb mn w W q o x1 vv vars g b [y,z] pc 1)(hpc:pc=Qaa (.mk k n s off b c [y,z]))(hA:Qef q rb g mb b vars [y,z])(hr:Qdr fs rb t mb W b (1*5) x' vars' z e W') :
  HdI fs rb t mb mn w W' q o (QaK x' (Qcl fs vars' z.nd).2) vv vars g b c [Qbu fs vars y,Qbu fs vars' z] k off n s:=by
 obtain⟨_,hn,hf,hc⟩:=hr;have hsub:∀ d,d∈foot z->d∈Qah [y,z]:=fun d hd=>JB (by simp) d hd
 have hbl:=h.lts.2 (by simp)
 have hq:∀ j,¬ Qez b (1*5) rb (foot z) q j:=fun j hj=>by
  rcases hj with⟨e,_⟩|hj|e
  ·exact hA.qa.2 (by simp) e
  ·exact hA.qa.1 (hsub _ hj)
  ·exact hA.ra.2.2 e.symm
 have hks:([y,z].take 1).map (Qbu fs vars)++[y,z].drop 1=[Qbu fs vars y,z]:=rfl;have hkids:=h.kids;rw[hks]at hkids;obtain⟨k1,k2⟩:=JT (i:=0) hkids rfl;have hfl:Qah [Qbu fs vars y,Qbu fs vars' z]=Qah [y,z]:=by simp only[Qah,J8]
 have hkv:QaB b c [Qbu fs vars y,Qbu fs vars' z]=QaB b c [y,z]:=by simp[QaB]
 refine⟨⟨fun j u hj=>?_,fun j=>(hc.frz q j h.lts.1).trans (h.pfr j),?_⟩,hf,h.map.same (hc.block mb h.map.lt fun j hj=>?_),h.vars.chgC hc (fun hv j hj=>?_),?_⟩
 ·refine(hc.cell q (o+j) h.lts.1 (hq _)).trans (h.par j u ?_);rw[hpc]
  show (#[_,_,_,_,QaB b c [y,z]]:Array Value).toList[j]?=some u
  rw[<- hkv];exact hj
 ·unfold An.At;refine⟨fun _ j=>(hc.frz b j hbl).trans (h.kfr (by simp) j),?_⟩;unfold AtL;refine⟨fun j u hj=>?_,?_,?_⟩
  ·have hj5:j<5:=by have:=(List.getElem?_eq_some_iff.1 hj).1;rw[Array.length_toList,J4]at this;exact this
   refine(hc.cell b (0*5+j) hbl fun hp=>?_).trans (k1 j u hj)
   rcases hp with⟨_,h1,h2⟩|h1|h1
   ·omega
   ·exact hA.nod.2 (by simp) (hsub _ h1)
   ·exact hA.ra.2.1 (by simp) h1.symm
  ·refine Yg hc _ k2 fun d hd j hj=>?_
   rw[J8]at hd
   rcases hj with⟨e,_⟩|hj|e
   ·subst e;exact hA.nod.2 (by simp) (JB (by simp) _ hd)
   ·exact Yh (l:=[y,z]) (i:=1) (m:=0) hA.nod.1 rfl rfl (by decide) hd hj
   ·subst e;exact hA.ra.1 (JB (by simp) _ hd)
  ·unfold AtL;exact⟨hn.cells,hn.at',by unfold AtL;trivial⟩
 ·rcases hj with⟨e,_⟩|hj|e
  ·exact hA.ma.2.1 (by simp) e
  ·exact hA.ma.1 (hsub _ hj)
  ·exact hA.ma.2.2.2 e
 ·rcases hj with⟨e,_⟩|hj|e
  ·exact(hA.ga hv).2.1 (by simp) e
  ·exact(hA.ga hv).1 (hsub _ hj)
  ·exact(hA.ga hv).2.2.2 e
 ·have h3:=h.chg;rw[if_neg (by simp)]at h3 |-;rw[hfl];refine h3.step hc fun d j hj=>.inl ?_
  exact QlW
theorem JfO{q rb g mb b:Nat}{vars:List (List UInt8)}{l l':List An}(h:Qef q rb g mb b vars l)(hf:Qah l'=Qah l)(hl:l≠[])(hl':l'≠[]):Qef q rb g mb b vars l':=
 ⟨⟨by rw[hf];exact h.nod.1,fun _=>by rw[hf];exact h.nod.2 hl⟩,⟨by rw[hf];exact h.qa.1,fun _=>h.qa.2 hl⟩,⟨by rw[hf];exact h.ra.1,fun _=>h.ra.2.1 hl,h.ra.2.2⟩,fun hv=>⟨by rw[hf];exact(h.ga hv).1,fun _=>(h.ga hv).2.1 hl,(h.ga hv).2.2⟩,⟨by rw[hf];exact h.ma.1,fun _=>h.ma.2.1 hl,h.ma.2.2⟩⟩
theorem bx7{P:Prop}(h:P:=by
  try simp only[Act.put,ZA,ZB,ZC]
  refine ZS 18 rfl (fun K hK=>?_);have hz:=HK.out.pre HA.out rfl HWL.out;have hl5:(vars++[s]).length=vars.length+1:=by simp
  have cz:=IH z (vars++[s]) (.slice (some ⟨g5,0,none⟩) (vars.length+1) cc5) g5 b (1*5) _ w5 hsz (by rw[hl5];omega) ⟨hz.node,hz.nod,hz.qf,hz.rf,fun _=>HF5.out,hz.mf,hz.flt,hz.map,HV5.out,hz.wf⟩
  (go_simp;go_at_call 77;refine cz.mono ?_;intro e w6 hr6)
  have hh:=Jlx HK.out (HCS.out nn s).symm HA.out hr6;obtain rfl:=hr6.1;have HI:=Zh hh;clear hz cz hr6 hh HK HV5 HF5;refine hK.out _ _ trivial (fun hH=>?_);clear hK K
  try simp only[Act.put,ZA,ZB,ZC]
  refine wpAnyH_done (by kernel_rfl) ?_ _;have HA2:=Zh (JfO HA.out (by simp only[Qah,J8]:Qah [Qbu fs vars y,Qbu fs (vars++[s]) z]=Qah [y,z]) (by simp) (by simp));have c1:=HI.out.node.cells 1 (Value.int .i64 nn) rfl;have f1:=HI.out.node.frz (o+1);have c2:=HI.out.node.cells 2 (Value.string (bs s)) rfl;have f2:=HI.out.node.frz (o+2);have hlq:=HI.out.node.lt;have HS:=Zh ((HI.out.setN HA2.out (vars.length:Int)).setS HA2.out []);clear HI;go_wp2;go_end0;rw[HR.out];have e5:(QbE fs vars (ndL ([y,z].take 1))).2=(Qcl fs vars y.nd).2:=by simp[ndL,QbE]
  have hfl:=HS.out.flt;rw[e5]at hfl
  exact HFIN.out _ HS.out.node hfl HS.out.chg):P:=h
theorem QmH{P:Prop}(h:P:=by
  try simp only[Act.put,ZA,ZB,ZC]
  refine ZS 17 rfl (fun K hK=>?_)
  (refine Vg (w3.alloc (.cells #[.string (bs s)] 9)) (by rfl) (.tmp 115) (.tmp 120) (by rfl) vars g _ HSV.out (by rfl) (HCV.out _ HBW.out) w3.heap.size s (by rfl) HRW.out hvl ?_;intro w5 cc5 hv5 hb5)
  replace HK:=Zh (HK.out.below hb5);have HV5:=Zh hv5;have HF5:=Zh (HFR.out (w3.alloc (.cells #[.string (bs s)] 9)).heap.size (by simp));generalize (w3.alloc (.cells #[.string (bs s)] 9)).heap.size=g5 at *;clear hv5 hb5 HRW HBW HCV HSV;refine hK.out _ _ trivial (fun hH=>?_);clear hK K
  exact bx7):P:=h
theorem Qmv{P:Prop}(h:P:=by
  try simp only[Act.put,ZA,ZB,ZC]
  refine ZS 16 rfl (fun K hK=>?_);go_simp;refine hK.out _ _ trivial (fun hH=>?_);have hb6:Below w3.heap.size w3 (w3.alloc (.cells #[.string (bs s)] 9)):=zzb.alloc zzl _;replace HK:=Zh (HK.out.below hb6);have HRW:=Zh (zzw w3 (.cells #[.string (bs s)] 9));have HBW:=Zh hb6;clear hb6;clear hK K
  exact QmH):P:=h
theorem Jia(fs:List (List UInt8))(rb:Nat)(t:TypeId)(mb mn:Nat)(hfs:fs.length<=1000000000)(n:Nat)
  (IH:∀ (y:An) (vars':List (List UInt8)) (vv':Value) (g' q' o':Nat) (x':Option Int) (W:World),siz y.nd<=n->n+vars'.length<=1000000000->QbS fs rb t mb mn W q' o' x' vv' vars' g' y->Calls prog 77 #[.pointer (some ⟨rb,0,none⟩),.pointer (some ⟨q',o',none⟩),vv'] W (Qdr fs rb t mb W q' o' x' vars' y))
  (a:An) (vars:List (List UInt8)) (vv:Value) (g q o:Nat) (x:Option Int) (w:World) (hn:siz a.nd<=n+1) (hb:n+1+vars.length<=1000000000) (hpre:QbS fs rb t mb mn w q o x vv vars g a) (hk:a.kind=19) :
  Calls prog 77 #[.pointer (some ⟨rb,0,none⟩),.pointer (some ⟨q,o,none⟩),vv] w (Qdr fs rb t mb w q o x vars a):=by
 obtain⟨k,nn,s,off,b,c,l⟩:=a;simp only[An.kind]at hk;obtain⟨R,hR⟩:∃ R,Qdr fs rb t mb w q o x vars (.mk k nn s off b c l)=R:=⟨_,rfl⟩
 rw[hR];have HR:Hid (R=Qdr fs rb t mb w q o x vars (.mk k nn s off b c l)):=hR.symm;have hA:=YD hpre;have hH:=hpre.hd;rw[Y8]at hn;have hwf:=hpre.wf;unfold An.nd WfN at hwf;obtain⟨h19,_,_,hsl,hwl⟩:=hwf;obtain⟨ad,cc,hkv,had⟩:=Jo b c l
 have hcs:∀ n' s',Qaa (.mk k n' s' off b c l)=#[.int .i64 k,.int .i64 n',.string (bs s'),.int .i64 off,.slice ad l.length cc]:=fun n' s'=>by
  show #[_,_,_,_,QaB b c l]=_
  rw[hkv]
 have hcr:∀ n' s',Qaa (.mk k n' s' off b c (Qbb fs vars l))=#[.int .i64 k,.int .i64 n',.string (bs s'),.int .i64 off,.slice ad l.length cc]:=fun n' s'=>by
  exact QkN
 obtain⟨va,vc,rfl,hvc,hvr⟩:=hpre.vars;have HVR:=Zh hvr;have HAD:=Zh had;have HCS:=Zh hcs;have HCR:=Zh hcr;have HWL:=Zh hwl;have HSL:=Zh hsl;have HH:=Zh hH;have HA:=Zh hA;have HSZ:Hid (Qbq (ndL l)<=n):=by rw[Hid];omega
 have hlen:l.length<=n:=by have:=Jx l;omega
 have H19:Hid (k=19->l.length=2):=fun e=>by have:=h19 e;rwa [Kj,List.length_map]at this
 have hne1:rb≠q:=hA.ra.2.2;have hne2:q≠rb:=Ne.symm hne1;have HFN:Hid (foot (.mk k nn s off b c l)=if l=[] then [] else b::Qah l):=KP k nn s off b c l;have hc:=hH.node.cells;rw[hcs]at hc;have d0:=hc 0 _ rfl;simp only[Nat.add_zero]at d0;clear hpre hR hA hH h19 hsl hwl hkv had hcs hcr hvr hc hn;subst hk;have e2:((19:Int)==2)=false:=by decide
 have e20:((19:Int)==20)=false:=by decide
 have e19:((19:Int)==19)=true:=by decide
 obtain⟨y,z,hyz⟩:∃ y z,l=[y,z]:=by
  have:=H19.out rfl
  match l,this with
  |[y,z],_=>exact⟨y,z,rfl⟩
 subst hyz;have hadd:ad=some ⟨b,0,none⟩:=HAD.out (by simp);subst hadd
 have HFIN:Hid (∀ W,QbX W q o (.mk 19 vars.length [] off b c [Qbu fs vars y,Qbu fs (vars++[s]) z])->Qba W rb t (QaK (QaK x (Qcl fs vars y.nd).2) (Qcl fs (vars++[s]) z.nd).2) (.map (some mb))->Qca (Qez q o rb (if [Qbu fs vars y,Qbu fs (vars++[s]) z]=[] then [] else b::Qah [Qbu fs vars y,Qbu fs (vars++[s]) z])) w W->Qdr fs rb t mb w q o x vars (.mk 19 nn s off b c [y,z]) (.returned (.tuple #[])) W):=by
  intro W h1 h2 h3;have hr:Qbu fs vars (.mk 19 nn s off b c [y,z])=.mk 19 vars.length [] off b c [Qbu fs vars y,Qbu fs (vars++[s]) z]:=by rw[JaC,if_neg (by decide),if_neg (by decide),if_pos rfl]
  refine⟨rfl,by rw[hr];exact h1,?_,?_⟩
  ·rw[An.nd,VE,if_neg (by decide),if_neg (by decide),if_pos rfl];simp only[ndL];rw[Jv];exact h2
  ·rw[HFN.out,if_neg (by simp)];rw[if_neg (by simp)]at h3;simp only[Qah,J8]at h3 |-;exact h3
 have K0:=HH.out.kid (HCS.out nn s).symm;have hsy:siz y.nd<=n:=Nat.le_trans (JL (by simp:y∈[y,z])) HSZ.out;have hsz:siz z.nd<=n:=Nat.le_trans (JL (by simp:z∈[y,z])) HSZ.out;have cy:=IH y vars (.slice va vars.length vc) g b (0*5) (QaK x (QbE fs vars (ndL ([y,z].take 0))).2) w hsy (by omega) (K0.pre HA.out rfl HWL.out);have c4:=K0.par 4 _ rfl;have HK0:=Zh K0;have HVC:=Zh hvc;clear K0 HH H19 HAD HFN HSL hvc;go_enter func77,ntmps77;go_wp2_with fail;refine cy.mono ?_;intro e w2 hr;have HK1:=Zh (HK0.out.step HA.out rfl hr);obtain rfl:=hr.1;clear cy hr HK0 c4 d0 hsy;go_upto_region 15 with fail;have HK:Hid (Qdh fs rb t mb mn w w2.drew q o x (.slice va vars.length vc) vars g b [y,z] #[.int .i64 19,.int .i64 nn,.string (bs s),.int .i64 off,.slice (some ⟨b,0,none⟩) [y,z].length cc] 1):=HK1.out.below (Below.refl w2.heap.size w2).drew;clear HK1;obtain⟨va',vc',hv1,hv2,hv3⟩:=HK.out.vars;injection hv1 with hva hvn hvcc;subst hva hvcc
 obtain⟨sv,hsv,hsl⟩:∃ sv,((vars=[]/\sv=.slice none 0 0)\/(vars≠[]/\sv=.slice (some ⟨g,0,none⟩) vars.length vars.length))/\∀ W:World,(Instr.slice 47 (.slice va vars.length vc) none (some (.int .i64 vars.length)) (some (.int .i64 vars.length))).run prog W=.ok sv W:=by
  by_cases hv0:vars=[]
  ·obtain⟨rfl,rfl⟩:=hv2.2 hv0;subst hv0;exact⟨_,.inl ⟨rfl,rfl⟩,Jex⟩
  ·obtain⟨rfl,_⟩:=hv3 hv0;exact⟨_,.inr ⟨hv0,rfl⟩,Jew g vars.length vc hv2.1⟩
 have HSV:=Zh hsv;have HFR:=Zh HK.out.fresh;have hcv:∀ W':World,Below w2.drew.heap.size w2.drew W'->vars≠[]->∀ i s,vars[i]?=some s->W'.cell? ⟨g,i,none⟩=some (.string (bs s)):=fun W' hb hv i s hs=>(hb.cell (World.block_lt_of_cell? _ _ ((hv3 hv).2 i s hs))).trans ((hv3 hv).2 i s hs)
 have HCV:=Zh hcv;have hsvs:∃ a m c',sv=.slice a m c':=by rcases hsv with⟨_,rfl⟩|⟨_,rfl⟩<;>exact⟨_,_,_,rfl⟩
 obtain⟨sa,sm,sc,rfl⟩:=hsvs;have hvl:vars.length<=1000000000:=by omega
 clear hv2 hv3 hvn hsv hcv;refine wp_region_held_drew (S:=fun _=>True) (by kernel_rfl) (trivial) (fun hH=>?_);generalize w2.drew=w3 at *;refine ZT (i:=0) (v:=?vT7_0) rfl (Or.inl ⟨by rfl,?yT7_0⟩) ?_
 case yT7_0=>exact ZyQ
 try simp only[Act.put,ZA,ZB,ZC]
 refine ZT (i:=1) (v:=?vT7_1) rfl (Or.inl ⟨by rfl,?yT7_1⟩) ?_
 case yT7_1=>exact ZyQ
 try simp only[Act.put,ZA,ZB,ZC]
 refine ZT (i:=2) (v:=?vT7_2) rfl (Or.inl ⟨by rfl,?yT7_2⟩) ?_
 case yT7_2=>exact ZyQ
 try simp only[Act.put,ZA,ZB,ZC]
 refine ZT (i:=3) (v:=?vT7_3) rfl (Or.inl ⟨by rfl,?yT7_3⟩) ?_
 case yT7_3=>exact ZyQ
 try simp only[Act.put,ZA,ZB,ZC]
 refine ZT (i:=6) (v:=?vT7_6) rfl (Or.inl ⟨by rfl,?yT7_6⟩) ?_
 case yT7_6=>exact ZyQ
 try simp only[Act.put,ZA,ZB,ZC]
 refine ZT (i:=7) (v:=?vT7_7) rfl (Or.inl ⟨by rfl,?yT7_7⟩) ?_
 case yT7_7=>exact ZyQ
 try simp only[Act.put,ZA,ZB,ZC]
 refine ZT (i:=8) (v:=?vT7_8) rfl (Or.inl ⟨by rfl,?yT7_8⟩) ?_
 case yT7_8=>exact ZyQ
 try simp only[Act.put,ZA,ZB,ZC]
 refine ZT (i:=9) (v:=?vT7_9) rfl (Or.inl ⟨by rfl,?yT7_9⟩) ?_
 case yT7_9=>exact ZyQ
 try simp only[Act.put,ZA,ZB,ZC]
 refine ZT (i:=10) (v:=?vT7_10) rfl (Or.inl ⟨by rfl,?yT7_10⟩) ?_
 case yT7_10=>exact ZyQ
 try simp only[Act.put,ZA,ZB,ZC]
 refine ZT (i:=11) (v:=?vT7_11) rfl (Or.inl ⟨by rfl,?yT7_11⟩) ?_
 case yT7_11=>exact ZyQ
 try simp only[Act.put,ZA,ZB,ZC]
 refine ZT (i:=12) (v:=?vT7_12) rfl (Or.inl ⟨by rfl,?yT7_12⟩) ?_
 case yT7_12=>exact ZyQ
 try simp only[Act.put,ZA,ZB,ZC]
 refine ZT (i:=13) (v:=?vT7_13) rfl (Or.inl ⟨by rfl,?yT7_13⟩) ?_
 case yT7_13=>exact ZyQ
 try simp only[Act.put,ZA,ZB,ZC]
 refine ZT (i:=14) (v:=?vT7_14) rfl (Or.inl ⟨by rfl,?yT7_14⟩) ?_
 case yT7_14=>exact ZyQ
 try simp only[Act.put,ZA,ZB,ZC]
 refine ZR (rs:=[4,15]) (AllReadyH.cons rfl (fun K hK=>?_) (AllReadyH.cons rfl (fun K hK=>?_) AllReadyH.nil))
 ·have c4:=HK.out.par 4 _ rfl;go_simp;clear c4;refine hK.out _ _ trivial (fun hH=>?_);clear hK K
  try simp only[Act.put,ZA,ZB,ZC]
  refine ZT (i:=5) (v:=?vT8_5) rfl (Or.inl ⟨by rfl,?yT8_5⟩) ?_
  case yT8_5=>exact ZyQ
  try simp only[Act.put,ZA,ZB,ZC]
  refine ZS 15 rfl (fun K hK=>?_);have c2:=HK.out.par 2 _ rfl;go_simp;clear c2;refine hK.out _ _ trivial (fun hH=>?_);clear hK K;exact Qmv
 ·have c2:=HK.out.par 2 _ rfl;go_simp;clear c2;refine hK.out _ _ trivial (fun hH=>?_);clear hK K
  try simp only[Act.put,ZA,ZB,ZC]
  refine ZR (rs:=[4,16]) (AllReadyH.cons rfl (fun K hK=>?_) (AllReadyH.cons rfl (fun K hK=>?_) AllReadyH.nil))
  ·have c4:=HK.out.par 4 _ rfl;go_simp;clear c4;refine hK.out _ _ trivial (fun hH=>?_);clear hK K
   try simp only[Act.put,ZA,ZB,ZC]
   refine ZT (i:=5) (v:=?vT14_5) rfl (Or.inl ⟨by rfl,?yT14_5⟩) ?_
   case yT14_5=>exact ZyQ
   exact Qmv
  ·go_simp;refine hK.out _ _ trivial (fun hH=>?_);have hb6:Below w3.heap.size w3 (w3.alloc (.cells #[.string (bs s)] 9)):=zzb.alloc zzl _;replace HK:=Zh (HK.out.below hb6);have HRW:=Zh (zzw w3 (.cells #[.string (bs s)] 9));have HBW:=Zh hb6;clear hb6;clear hK K
   try simp only[Act.put,ZA,ZB,ZC]
   refine ZR (rs:=[4,17]) (AllReadyH.cons rfl (fun K hK=>?_) (AllReadyH.cons rfl (fun K hK=>?_) AllReadyH.nil))
   ·have c4:=HK.out.par 4 _ rfl;go_simp;clear c4;refine hK.out _ _ trivial (fun hH=>?_);clear hK K
    try simp only[Act.put,ZA,ZB,ZC]
    refine ZT (i:=5) (v:=?vT19_5) rfl (Or.inl ⟨by rfl,?yT19_5⟩) ?_
    case yT19_5=>exact ZyQ
    exact QmH
   ·(refine Vg (w3.alloc (.cells #[.string (bs s)] 9)) (by rfl) (.tmp 115) (.tmp 120) (by rfl) vars g _ HSV.out (by rfl) (HCV.out _ HBW.out) w3.heap.size s (by rfl) HRW.out hvl ?_;intro w5 cc5 hv5 hb5)
    replace HK:=Zh (HK.out.below hb5);have HV5:=Zh hv5;have HF5:=Zh (HFR.out (w3.alloc (.cells #[.string (bs s)] 9)).heap.size (by simp));generalize (w3.alloc (.cells #[.string (bs s)] 9)).heap.size=g5 at *;clear hv5 hb5 HRW HBW HCV HSV;refine hK.out _ _ trivial (fun hH=>?_);clear hK K
    try simp only[Act.put,ZA,ZB,ZC]
    refine ZS 4 rfl (fun K hK=>?_);have c4:=HK.out.par 4 _ rfl;go_simp;clear c4;refine hK.out _ _ trivial (fun hH=>?_);clear hK K
    try simp only[Act.put,ZA,ZB,ZC]
    refine ZT (i:=5) (v:=?vT23_5) rfl (Or.inl ⟨by rfl,?yT23_5⟩) ?_
    case yT23_5=>exact ZyQ
    exact bx7
theorem JaD(fs:List (List UInt8))(rb:Nat)(t:TypeId)(mb mn:Nat)(hfs:fs.length<=1000000000):∀ (n:Nat) (a:An) (vars:List (List UInt8)) (vv:Value) (g q o:Nat) (x:Option Int) (w:World),siz a.nd<=n->n+vars.length<=1000000000->QbS fs rb t mb mn w q o x vv vars g a->Calls prog 77 #[.pointer (some ⟨rb,0,none⟩),.pointer (some ⟨q,o,none⟩),vv] w (Qdr fs rb t mb w q o x vars a)
 |0,a,vars,vv,g,q,o,x,w,hn,_,_=>by
  have:=VC a.nd;omega
 |n+1,a,vars,vv,g,q,o,x,w,hn,hb,hpre=>by
  have IH:=fun (y:An) vars' vv' g' q' o' x' W h1 h2 h3=>JaD fs rb t mb mn hfs n y vars' vv' g' q' o' x' W h1 h2 h3
  by_cases h2:a.kind=2
  ·exact JhZ fs rb t mb mn hfs n IH a vars vv g q o x w hn hb hpre h2
  by_cases h20:a.kind=20
  ·exact JfN fs rb t mb mn hfs n IH a vars vv g q o x w hn hb hpre h20
  by_cases h19:a.kind=19
  ·exact Jia fs rb t mb mn hfs n IH a vars vv g q o x w hn hb hpre h19
  exact JfM fs rb t mb mn hfs n IH a vars vv g q o x w hn hb hpre h2 h20 h19
end Go.Proofs.YtdlkcjkjnehnkaaGreatDoor
