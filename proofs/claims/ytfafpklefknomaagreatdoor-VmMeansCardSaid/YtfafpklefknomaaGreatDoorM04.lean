import Derived.Test.YtfafpklefknomaaGreatDoorM03
open List(getElem?_map getElem?_set length_set map_cons map_map map_nil map_take mem_of_getElem? nil_append take_of_length_le)
open Nat(add_zero le_refl le_trans mul_le_mul_right)
namespace Go.Proofs.YtfafpklefknomaaGreatDoor
open Go.ChangeShapes Go.WideShapes Go.ChangeAt Go.RowKit Go.Lib
open _root_.Go.Proofs.Tryz
set_option linter.all false
set_option maxRecDepth 100000
set_option maxHeartbeats 32000000
def zAj{P:Prop}(h:P:=by
  show #[_,_,_,_,Qaz b c l]=_
  rw[S3]):P:=h
def JjK(fs:List By)(rb:Nat)(t:TypeId)(mb mn:Nat)(I8:fs.length<=1000000000)(n:Nat)
  (IH:∀(y:An)(vars':List By)(vv':Value)(g' q' o':Nat)(x':Option Int)(W:World),siz y.nd<=n->n+vars'.length<=1000000000->QbW fs rb t mb mn W q' o' x' vv' vars' g' y->Calls prog 98 #[Pt rb,.pointer (some ⟨q',o',none⟩),vv'] W (Qdp fs rb t mb W q' o' x' vars' y))
  (a:An) (M0:List By) (vv:Value) (g q o:Nat) (x:Option Int) (w:World) (hn:siz a.nd<=n+1) (hb:n+1+M0.length<=1000000000) (hpre:QbW fs rb t mb mn w q o x vv M0 g a) (hk:a.kind=2):
  Calls prog 98 #[Pt rb,.pointer (some ⟨q,o,none⟩),vv] w (Qdp fs rb t mb w q o x M0 a):=by
 obtain⟨k,nn,s,off,b,c,l⟩:=a;simp only[An.kind]at hk;obtain⟨R,hR⟩:=yt (Qdp fs rb t mb w q o x M0 (.mk k nn s off b c l))
 rw[hR];have HR:Hi (R=Qdp fs rb t mb w q o x M0 (.mk k nn s off b c l)):=hR.symm;have hA:=Zo hpre;have hH:=hpre.hd;rw[ZV]at hn;have hwf:=hpre.wf;unfold An.nd WfN at hwf;obtain⟨M3,_,_,gA,dA⟩:=hwf;obtain⟨ad,cc,S3,cA⟩:=Jp b c l
 have yA:∀n' s',Qaa (.mk k n' s' off b c l)=(za k n' s' off ad l.length cc):=λn' s'=>by
  exact zAj
 have mA:∀n' s',Qaa (.mk k n' s' off b c (QaX fs M0 l))=(za k n' s' off ad l.length cc):=λn' s'=>by
  exact QfN
 obtain⟨va,vc,rfl,yB,iA⟩:=hpre.vars;have zB:=Zh iA;have HAD:=Zh cA;have N4:=Zh yA;have F5:=Zh mA;have A8:=Zh dA;have sA:=Zh gA;have HH:=Zh hH;have HA:=Zh hA;have Q6:Hi (Qbd (ndL l)<=n):=by rw[Hi];omega
 have pA:l.length<=n:=by have:=Jy l;omega
 have qA:Hi (k=19->l.length=2):=λe=>by have:=M3 e;rwa [Kk,List.length_map]at this
 have zA:rb≠q:=hA.ra.2.2;have D4:q≠rb:=Ne.symm zA;have kA:Hi (foot (.mk k nn s off b c l)=if l=[] then [] else b::Qak l):=KQ k nn s off b c l;have hc:=hH.node.cells;rw[yA]at hc;have d0:=hc 0 _ rfl;simp only[Nat.add_zero]at d0;clear hpre hR hA hH M3 gA dA S3 cA yA mA iA hc hn;subst hk;have e2:((2:Int)==2)=true:=zp
 have C0:Hi (∀W,Qcd W q o (.mk 2 (QaY M0 s) [] off b c (QaX fs M0 l))->QaW W rb t (QaG (QaG x (if QaY M0 s<0 then [off] else [])) (QbS fs M0 (ndL l)).2) (.map (some mb))->Qcj (Qej q o rb (if l=[] then [] else b::Qak l)) w W->Qdp fs rb t mb w q o x M0 (.mk 2 nn s off b c l) (.returned (.tuple #[])) W):=by
  intro W h1 h2 h3;have hr:QbA fs M0 (.mk 2 nn s off b c l)=.mk 2 (QaY M0 s) [] off b c (QaX fs M0 l):=by rw[Jby,if_pos rfl]
  refine⟨rfl,by rw[hr];exact h1,?_,by rw[kA.o];exact h3⟩;rw[An.nd,Vx,if_pos rfl];dsimp only;rw[Jw];exact h2
 clear sA qA kA;have vA:=Yr s M0.length M0 rfl;have wv:IntKind.i64.wrap ((M0.length:Int)-1)=(M0.length:Int)-1:=IntWalk.i64_in _ zo;have eA:=Zh (HH.o.setN HA.o ((M0.length:Int)-1));have hc1:=HH.o.node.cells 1 (Iv nn) rfl;have xB:=HH.o.node.frz (o+1);have BA:=HH.o.node.lt;have uA:Hi (QaY M0 s=QaY (M0.take M0.length) s):=by rw[Hi,List.take_length]
 clear HH;go_enter func98,ntmps98;go_wp2_with fail;clear hc1 xB BA;generalize World.setCell w _ _=w1 at*;go_loopg [] M0.length λm wr=>m<=M0.length/\Hi (HdI fs rb t mb mn w wr q o x (.slice va M0.length vc) M0 g b c l 2 off ((m:Int)-1) s)/\Hi (QaY M0 s=QaY (M0.take m) s)
 case atStart=>exact⟨Nat.le_refl _,eA,uA⟩
 case round=>
 clear eA uA;obtain⟨wl,rfl⟩:=zJ wr;obtain⟨hm,hI,hx⟩:=hrel;have hD:yr wl wl.drew:=(Below.refl wl.heap.size wl).drew;have HI:=Zh (hI.o.below hD);clear hD;have c1:wl.cell? ⟨q,o+1,none⟩=some (Iv ((gk:Int)-1)):=hI.o.node.cells 1 _ rfl;have c2:wl.cell? ⟨q,o+2,none⟩=some (Sv s):=hI.o.node.cells 2 _ rfl;have c3:wl.cell? ⟨q,o+3,none⟩=some (Iv off):=hI.o.node.cells 3 _ rfl;have f1:=hI.o.node.frz (o+1);have f2:=hI.o.node.frz (o+2);have BA:=hI.o.node.lt;have hv:=hI.o.vars;have HX:=Zh hx.o
 cases gk with
 |zero=>
  have dn:((((0:Nat):Int)-1):Int) = -1:=zo;rw[dn]at c1 HI;have HL:Hi (QaY M0 s = -1):=by rw[Hi,HX.o];rfl
  rw[HL.o,if_pos zp]at C0;clear HX dn hI hx hv vA HL;go_upto_region 3 with fail;go_region;go_upto_region 6 with fail;clear c1 c2 c3 f1 f2 BA;generalize wl.drew=w2 at*;have bA:yr w2 w2.drew:=(Below.refl w2.heap.size w2).drew;replace HI:=Zh (HI.o.below bA);clear bA;refine wp_region_held_drew (S:=λ_=>True) zk (trivial) λhH=>?_;refine zK 0 ?_
  refine zK 1 ?_;refine zK 2 ?_;refine zK 3 ?_;refine zK 4 ?_;refine zK 5 ?_;try simp only[zX]
  refine ZS 6 rfl λK hK=>?_;have c3:=HI.o.node.cells 3 (Value.int .i64 off) rfl;go_simp;clear c3;refine zU hK trivial λhH=>?_;clear hK K
  try simp only[zX]
  refine ZS 7 rfl λK hK=>?_
  (go_simp;go_at_call 96;refine(V7 _ rb t (x) (.map (some mb)) off HI.o.flt).mono ?_;intro e w3 h3)
  have hst:=HI.o.add HA.o h3;obtain rfl:=h3.1;replace HI:=Zh hst;clear h3 hst;refine zU hK trivial λhH=>?_;clear hK K
  try simp only[zX]
  refine wpAnyH_done zk ?_ _;have c2:=HI.o.node.cells 2 (Value.string (bs s)) rfl;have f2:=HI.o.node.frz (o+2);have BA:=HI.o.node.lt;have HS:Hi (HdI fs rb t mb mn w (w3.setCell ⟨q,o+2,none⟩ Em) q o (QaG x [off]) (.slice va M0.length vc) M0 g b c l 2 off (-1) []):=HI.o.setS HA.o [];clear HI;go_upto_region 17 with fail;clear c2 f2 BA;generalize World.setCell w3 _ _=w4 at*;have HH:=HS;clear HS;have HK:Hi (Qdl fs rb t mb mn w w4 q o (QaG x [off]) (.slice va M0.length vc) M0 g b l (yk 2 (-1) (.string (bs [])) off ad l.length cc) 0):=HH.o.kid (N4.o _ _).symm;have c4:=HK.o.par 4 _ rfl;clear HH N4;go_wp2_with fail;clear c4;go_loopg [136] l.length λgg v136 wr=>∃i:Nat,gg+i=l.length/\v136=Iv i/\Hi (Qdl fs rb t mb mn w wr q o (QaG x [off]) (.slice va M0.length vc) M0 g b l (yk 2 (-1) (.string (bs [])) off ad l.length cc) i)
  case atStart=>exact⟨0,rfl,rfl,HK⟩
  case round=>
  exact ux6
 |succ m=>
  have dm:(((m+1:Nat):Int)-1)=(m:Int):=zo;rw[dm]at c1 HI;have wk:IntKind.i64.wrap ((m:Int)-1)=(m:Int)-1:=IntWalk.i64_in _ zo;have xA:m<M0.length:=zo;have uB:(m:Int)<(M0.length:Int):=zo;have bB:(m:Int)>=0:=zo;obtain⟨u,hu⟩:∃u,M0[m]?=some u:=⟨M0[m],List.getElem?_eq_getElem xA⟩
  obtain⟨aB,vB,rA,nA,aA⟩:=hv;injection rA with qF _ FC;have jA:M0≠[]:=by intro e;rw[e]at xA;exact absurd xA zq
  obtain⟨g1,g2⟩:=aA jA;have cg:=g2 m u hu;rw[<-qF]at g1;subst g1;have hlx:=JdO s hu;rw[<-HX.o]at hlx;have HN:=Zh (HI.o.setN HA.o ((m:Int)-1));have t1:=Jj u;have t2:=Jj s;clear HX hI hx qF FC nA aA g2 hu jA dm
  by_cases PE:u=s
  ·subst PE;rw[if_pos rfl]at hlx;rw[hlx,if_neg zo,JeS]at C0;have q1:(u==u)=true:=zq;have q2:(u !=u)=false:=zq;have tA:¬((m:Int)<0):=zo;have HS:Hi (HdI fs rb t mb mn w ((wl.setCell ⟨q,o+2,none⟩ Em).drew) q o x (.slice (some ⟨g,0,none⟩) M0.length vc) M0 g b c l 2 off (m:Int) []):=HI.o.setS HA.o [];clear hlx HN vA HI;go_upto_region 3 with fail;go_region;go_upto_region 7 with fail;go_upto_region 17 with fail;clear c1 c2 c3 f1 f2 BA cg t1 t2 q1 q2;generalize World.drew (World.setCell wl _ _)=w2 at*;have HH:=HS;clear HS;have HK:Hi (Qdl fs rb t mb mn w w2 q o (x) (.slice (some ⟨g,0,none⟩) M0.length vc) M0 g b l (yk 2 (m:Int) (.string (bs [])) off ad l.length cc) 0):=HH.o.kid (N4.o _ _).symm;have c4:=HK.o.par 4 _ rfl;clear HH N4;go_wp2_with fail;clear c4;go_loopg [136] l.length λgg v136 wr=>∃i:Nat,gg+i=l.length/\v136=Iv i/\Hi (Qdl fs rb t mb mn w wr q o (x) (.slice (some ⟨g,0,none⟩) M0.length vc) M0 g b l (yk 2 (m:Int) (.string (bs [])) off ad l.length cc) i)
   case atStart=>exact⟨0,rfl,rfl,HK⟩
   case round=>
   exact ux6
  ·rw[if_neg PE]at hlx;have HL:=Zh hlx;have q1:(u==s)=false:=zM PE;have q2:(u !=s)=true:=bne_iff_ne.2 PE;clear hlx PE;go_upto_region 3 with fail;go_region;go_wp2_with fail;go_roundg m
   case measure=>exact Nat.lt_succ_self _
   case rel=>exact⟨by omega,HN,HL⟩
def Jhk(fs:List By)(rb:Nat)(t:TypeId)(mb mn:Nat)(I8:fs.length<=1000000000)(n:Nat)
  (IH:∀(y:An)(vars':List By)(vv':Value)(g' q' o':Nat)(x':Option Int)(W:World),siz y.nd<=n->n+vars'.length<=1000000000->QbW fs rb t mb mn W q' o' x' vv' vars' g' y->Calls prog 98 #[Pt rb,.pointer (some ⟨q',o',none⟩),vv'] W (Qdp fs rb t mb W q' o' x' vars' y))
  (a:An) (M0:List By) (vv:Value) (g q o:Nat) (x:Option Int) (w:World) (hn:siz a.nd<=n+1) (hb:n+1+M0.length<=1000000000) (hpre:QbW fs rb t mb mn w q o x vv M0 g a) (hk:a.kind=20):
  Calls prog 98 #[Pt rb,.pointer (some ⟨q,o,none⟩),vv] w (Qdp fs rb t mb w q o x M0 a):=by
 obtain⟨k,nn,s,off,b,c,l⟩:=a;simp only[An.kind]at hk;obtain⟨R,hR⟩:=yt (Qdp fs rb t mb w q o x M0 (.mk k nn s off b c l))
 rw[hR];have HR:Hi (R=Qdp fs rb t mb w q o x M0 (.mk k nn s off b c l)):=hR.symm;have hA:=Zo hpre;have hH:=hpre.hd;rw[ZV]at hn;have hwf:=hpre.wf;unfold An.nd WfN at hwf;obtain⟨M3,_,_,cA,aA⟩:=hwf;obtain⟨ad,cc,S3,bA⟩:=Jp b c l
 have uA:∀n' s',Qaa (.mk k n' s' off b c l)=(za k n' s' off ad l.length cc):=λn' s'=>by
  exact zAj
 have iA:∀n' s',Qaa (.mk k n' s' off b c (QaX fs M0 l))=(za k n' s' off ad l.length cc):=λn' s'=>by
  exact QfN
 obtain⟨va,vc,rfl,jA,dA⟩:=hpre.vars;have nA:=Zh dA;have HAD:=Zh bA;have N4:=Zh uA;have F5:=Zh iA;have A8:=Zh aA;have zA:=Zh cA;have HH:=Zh hH;have HA:=Zh hA;have Q6:Hi (Qbd (ndL l)<=n):=by rw[Hi];omega
 have kA:l.length<=n:=by have:=Jy l;omega
 have mA:Hi (k=19->l.length=2):=λe=>by have:=M3 e;rwa [Kk,List.length_map]at this
 have vA:rb≠q:=hA.ra.2.2;have D4:q≠rb:=Ne.symm vA;have gA:Hi (foot (.mk k nn s off b c l)=if l=[] then [] else b::Qak l):=KQ k nn s off b c l;have hc:=hH.node.cells;rw[uA]at hc;have d0:=hc 0 _ rfl;simp only[Nat.add_zero]at d0;clear hpre hR hA hH M3 cA aA S3 bA uA iA dA hc hn;subst hk;have e2:((20:Int)==2)=false:=zp;have pA:((20:Int)==20)=true:=zp
 have C0:Hi (∀W,Qcd W q o (.mk 20 ((Qal fs s).getD 0:Nat) [] off b c (QaX fs M0 l))->QaW W rb t (QaG (QaG x (if (Qal fs s).isNone=true then [off] else [])) (QbS fs M0 (ndL l)).2) (.map (some mb))->Qcj (Qej q o rb (if l=[] then [] else b::Qak l)) w W->Qdp fs rb t mb w q o x M0 (.mk 20 nn s off b c l) (.returned (.tuple #[])) W):=by
  intro W h1 h2 h3;have hr:QbA fs M0 (.mk 20 nn s off b c l)=.mk 20 ((Qal fs s).getD 0:Nat) [] off b c (QaX fs M0 l):=by rw[Jby,if_neg zp,if_pos rfl]
  refine⟨rfl,by rw[hr];exact h1,?_,by rw[gA.o];exact h3⟩;rw[An.nd,Vx,if_neg zp,if_pos rfl];dsimp only;rw[Jw];exact h2
 have yA:=HH.o.map.look zA.o;have xA:=(HH.o.map.same (w':=w.drew) rfl).look zA.o;have r2:=Ja HH.o.flt 2;simp only[zW]at r2;have c2:=HH.o.node.cells 2 (Value.string (bs s)) rfl;have HI:=Zh (HH.o.below (Below.refl w.heap.size w).drew);clear zA mA gA HH nA jA
 cases hfi:Qal fs s with
 |none=>
  rw[hfi]at yA xA C0;simp only[Option.getD,Option.isSome,Option.isNone,if_true,Int.ofNat_eq_natCast,Int.natCast_zero,Int.cast_ofNat_Int]at yA xA C0;clear hfi;go_enter func98,ntmps98;go_upto_region 9 with fail;go_region;go_upto_region 11 with fail;clear yA xA r2 c2;generalize w.drew=w2 at*;have eA:yr w2 w2.drew:=(Below.refl w2.heap.size w2).drew;replace HI:=Zh (HI.o.below eA);clear eA;refine wp_region_held_drew (S:=λ_=>True) zk (trivial) λhH=>?_;refine zK 0 ?_
  refine zK 1 ?_;refine zK 2 ?_;refine zK 3 ?_;refine zK 4 ?_;refine zK 5 ?_;try simp only[zX]
  refine ZS 6 rfl λK hK=>?_;have c3:=HI.o.node.cells 3 (Value.int .i64 off) rfl;go_simp;clear c3;refine zU hK trivial λhH=>?_;clear hK K
  try simp only[zX]
  refine ZS 7 rfl λK hK=>?_
  (go_simp;go_at_call 96;refine(V7 _ rb t (x) (.map (some mb)) off HI.o.flt).mono ?_;intro e w3 h3)
  have hst:=HI.o.add HA.o h3;obtain rfl:=h3.1;replace HI:=Zh hst;clear h3 hst;refine zU hK trivial λhH=>?_;clear hK K
  try simp only[zX]
  refine wpAnyH_done zk ?_ _;have c1:=HI.o.node.cells 1 (Value.int .i64 nn) rfl;have f1:=HI.o.node.frz (o+1);have c2:=HI.o.node.cells 2 (Value.string (bs s)) rfl;have f2:=HI.o.node.frz (o+2);have BA:=HI.o.node.lt;have HS:Hi (HdI fs rb t mb mn w ((w3.setCell ⟨q,o+1,none⟩ (Iv 0)).setCell ⟨q,o+2,none⟩ Em) q o (QaG x [off]) (.slice va M0.length vc) M0 g b c l 20 off 0 []):=(HI.o.setN HA.o 0).setS HA.o [];clear HI;go_upto_region 17 with fail;clear c1 f1 c2 f2 BA;generalize World.setCell (World.setCell w3 _ _) _ _=w4 at*;have HH:=HS;clear HS;have HK:Hi (Qdl fs rb t mb mn w w4 q o (QaG x [off]) (.slice va M0.length vc) M0 g b l (yk 20 0 (.string (bs [])) off ad l.length cc) 0):=HH.o.kid (N4.o _ _).symm;have c4:=HK.o.par 4 _ rfl;clear HH N4;go_wp2_with fail;clear c4;go_loopg [136] l.length λgg v136 wr=>∃i:Nat,gg+i=l.length/\v136=Iv i/\Hi (Qdl fs rb t mb mn w wr q o (QaG x [off]) (.slice va M0.length vc) M0 g b l (yk 20 0 (.string (bs [])) off ad l.length cc) i)
  case atStart=>exact⟨0,rfl,rfl,HK⟩
  case round=>
  exact ux6
 |some ix=>
  rw[hfi]at yA xA C0;simp only[Option.getD,Option.isSome,Option.isNone,Bool.false_eq_true,if_false,JeS]at yA xA C0;clear hfi;have c1:w.cell? ⟨q,o+1,none⟩=some (Value.int .i64 nn):=HI.o.node.cells 1 (Value.int .i64 nn) rfl;have f1:w.frozen? ⟨q,o+1,none⟩=false:=HI.o.node.frz (o+1);have f2:w.frozen? ⟨q,o+2,none⟩=false:=HI.o.node.frz (o+2);have BA:q<w.heap.size:=HI.o.node.lt;have HS:Hi (HdI fs rb t mb mn w (((w.setCell ⟨q,o+1,none⟩ (Iv (ix:Nat))).setCell ⟨q,o+2,none⟩ Em).drew) q o x (.slice va M0.length vc) M0 g b c l 20 off (ix:Nat) []):=(HI.o.setN HA.o (ix:Nat)).setS HA.o [];go_enter func98,ntmps98;go_upto_region 9 with fail;go_region;go_upto_region 17 with fail;clear yA xA r2 c2 c1 f1 f2 BA HI;generalize World.drew (World.setCell (World.setCell w _ _) _ _)=w2 at*;have HH:=HS;clear HS;have HK:Hi (Qdl fs rb t mb mn w w2 q o (x) (.slice va M0.length vc) M0 g b l (yk 20 (ix:Nat) (.string (bs [])) off ad l.length cc) 0):=HH.o.kid (N4.o _ _).symm;have c4:=HK.o.par 4 _ rfl;clear HH N4;go_wp2_with fail;clear c4;go_loopg [136] l.length λgg v136 wr=>∃i:Nat,gg+i=l.length/\v136=Iv i/\Hi (Qdl fs rb t mb mn w wr q o (x) (.slice va M0.length vc) M0 g b l (yk 20 (ix:Nat) (.string (bs [])) off ad l.length cc) i)
  case atStart=>exact⟨0,rfl,rfl,HK⟩
  case round=>
  exact ux6
def JfW(g n vc:Nat)(h:n<=vc)(W:World):(Instr.slice 43 (.slice (some ⟨g,0,none⟩) n vc) none (some (Iv n)) (some (Iv n))).run prog W=.ok (.slice (some ⟨g,0,none⟩) n n) W:=by
 rw[run_slice_hm W 43 (some ⟨g,0,none⟩) n vc (show prog.underlying 43=some (.slice (prog.elem 43)) by kernel_rfl) .i64 .i64 n n zo zo zo];rw[show (sizeOf (prog.elem 43)).run prog W=.ok 1 W by kernel_rfl];simp[Result.andThen,sliced,Addr.add]
def JfX(W:World):(Instr.slice 43 Nl none (some (Iv 0)) (some (Iv 0))).run prog W=.ok Nl W:=zk
def QfV:(prog.info? 9).map (λi=>(i.zero,i.size,i.bytes))=some (some Em,1,16):=zk
def Vy{ops:Array Oper}{o:Oper}{ac:Act}{K:Act->World->Prop}{Q:Exit->Act->World->Prop}{E:Prop}(w:World)(hgd:o.guard=none)(s x:Operand)
  (ho:o.op=.call {callee:=.builtin .append,args:=#[s,x],argTypes:=#[43,43]}) (M0:List By) (g:Nat) (sv:Value) (QG:(M0=[]/\sv=Nl)\/(M0≠[]/\sv=.slice (some ⟨g,0,none⟩) M0.length M0.length)) (hs:ac.eval s=sv)
  (hc:M0≠[]->∀i s,M0[i]?=some s->w.cell? ⟨g,i,none⟩=some (Sv s)) (rb:Nat) (nm:By) (hx:ac.eval x=.slice (some ⟨rb,0,none⟩) 1 1) (hrow:w.heap[rb]?=some (.cells #[Sv nm] 9 (0,0)))
  (hlen:M0.length<=1000000000)
  (h:∀w' cc,QcO w' (.slice (some ⟨w.heap.size,0,none⟩) (M0.length+1) cc) (M0++[nm]) w.heap.size->yr w w'->K (ac.put o.dst (.slice (some ⟨w.heap.size,0,none⟩) (M0.length+1) cc)) w'):
  if Region.wanted o (yielded ops ac.tmps)=true then Oper.wp prog o ac w K Q else E:=by
 have hw:Region.wanted o (yielded ops ac.tmps)=true:=by simp[Region.wanted,hgd]
 rw[if_pos hw];obtain⟨i0,hi,uA,yA,zA⟩:=info_parts QfV
 have xA:∀j u,[Value.string (bs nm)][j]?=some u->w.cell? ((⟨rb,0,none⟩:Addr).add j)=some u:=λj u hj=>by
  rw[show (⟨rb,0,none⟩:Addr).add j=⟨rb,j,none⟩ by unfold Addr.add;split<;>simp_all];exact KP hrow hj
 have P6:∀(cs:Array Value)(cc:Nat),M0.length+1<=cc->(∀(i:Nat)(s:By),(M0++[nm])[i]?=some s->cs[i]?=some (Value.string (bs s)))->QcO (w.drew.alloc (.cells cs 9)) (.slice (some ⟨w.heap.size,0,none⟩) (M0.length+1) cc) (M0++[nm]) w.heap.size:=by
  intro cs cc h1 h2;refine⟨_,_,by rw[List.length_append];rfl,⟨by rw[List.length_append];exact h1,λe=>by simp at e⟩,λ_=>⟨rfl,λi s hs=>?_⟩⟩;exact(Ja (zQ w.drew (.cells cs 9)) i).trans (h2 i s hs)
 have i6:∀cs:Array Value,yr w (w.drew.alloc (.cells cs 9)):=λcs=>((Below.refl w.heap.size w).drew).alloc (Nat.le_refl _) _
 unfold Oper.wp execOp
 rcases QG with⟨hv,rfl⟩|⟨hv,rfl⟩
 ·subst hv;have hr:=run_append_nil (P:=prog) w 43 o.type 9 i0 _ underlying43 hi uA ⟨rb,0,none⟩ 1 1 [Sv nm] (by rw[yA];rfl) xA zp zp (by rw[zA];decide);simp only[ho,resolve,invoke,builtin,Sem.run_bind,Sem.run_pure,Result.andThen_ok,List.map_toArray,map_cons,map_nil,hs,hx,hr];refine h _ _ (P6 _ _ (grownCap_ge w 1 0 9) λi s hs=>?_) (i6 _);have:i=0:=by have:=(List.getElem?_eq_some_iff.1 hs).1;simp at this;exact this
  subst this;have hs':nm=s:=by simpa using hs
  subst hs';rw[Array.getElem?_append_left zq];rfl
 ·have hr:=run_append_grow (P:=prog) w 43 o.type 9 i0 _ underlying43 hi uA ⟨g,0,none⟩ M0.length M0.length (M0.map λs=>Sv s) (by rw[yA];simp) (λj u hj=>by
   rw[show (⟨g,0,none⟩:Addr).add j=⟨g,j,none⟩ by unfold Addr.add;split<;>simp_all];rw[List.getElem?_map]at hj;obtain⟨s,h1,rfl⟩:=Option.map_eq_some_iff.1 hj
   exact hc hv j s h1) ⟨rb,0,none⟩ 1 1 [Sv nm] (by rw[yA];rfl) xA zo zo (growslice_fits zo (by rw[zA];omega))
  simp only[ho,resolve,invoke,builtin,Sem.run_bind,Sem.run_pure,Result.andThen_ok,List.map_toArray,map_cons,map_nil,hs,hx,hr];refine h _ _ (P6 _ _ (grownCap_ge w (M0.length+1) M0.length 9) λi s hs=>?_) (i6 _);have hlt:=(List.getElem?_eq_some_iff.1 hs).1;rw[Array.getElem?_append_left (by simp at hlt |-;omega)];have e:(M0.map λs=>Value.string (bs s)).toArray++[Value.string (bs nm)].toArray=((M0++[nm]).map λs=>Value.string (bs s)).toArray:=zq;rw[e,List.getElem?_toArray,List.getElem?_map,hs];rfl
variable{w W W':World}{o rb mb mn q g b i n base size sb:Nat}{fs M0:List By}{l:List An}{pc:Array Value}{t:TypeId}{vv v M:Value}{x1 x' x:Option Int}
def Qdl.below(h:Qdl fs rb t mb mn w W q o x1 vv M0 g b l pc i)(hb:yr W W'):Qdl fs rb t mb mn w W' q o x1 vv M0 g b l pc i:=by
 have hc:Qcj (λ_ _=>False) W W':=Qcj.of_below hb;refine⟨λj u hj=>(hc.cell q (o+j) h.lts.1 λh=>h).trans (h.par j u hj),λj=>(hc.frz q j h.lts.1).trans (h.pfr j),Jbq b _ 0 h.kids (λhne=>hb.block b (h.lts.2 ?_)) λq hq=>hb.block q (JeO b _ 0 h.kids q hq),λhne j=>(hc.frz b j (h.lts.2 hne)).trans (h.kfr hne j),h.flt.chgC hc λ_ h=>h,h.map.same (hb.block mb h.map.lt),h.vars.chgC hc λ_ _ h=>h,h.chg.trans (Qcj.of_below hb),Nat.lt_of_lt_of_le h.lts.1 hb.size,λhne=>Nat.lt_of_lt_of_le (h.lts.2 hne) hb.size⟩;intro e;subst e;simp at hne
def Qdl.fresh{y z:An}(h:Qdl fs rb t mb mn w W q o x1 vv M0 g b [y,z] pc 1):∀g',W.heap.size<=g'->g'∉foot z/\g'≠b/\g'≠rb:=by
 intro g' hg;have h1:=h.lts.2 zq;have h2:=Jb h.flt;refine⟨λhm=>?_,by omega,by omega⟩
 have:=JeO b _ 0 h.kids g' (by
  simp only[List.take_succ_cons,List.take_zero,map_cons,map_nil,List.drop_succ_cons,List.drop_zero,List.singleton_append,Qak,List.append_nil]
  exact List.mem_append_right _ hm)
 omega
variable{e:Ending}
def JnA{vars':List By}{c:Nat}{y z:An}{k n off:Int}{s:By}(h:Qdl fs rb t mb mn w W q o x1 vv M0 g b [y,z] pc 1)(MH:pc=Qaa (.mk k n s off b c [y,z]))(hA:QdT q rb g mb b M0 [y,z])(hr:Qdp fs rb t mb W b (1*5) x' vars' z e W'):
  HdI fs rb t mb mn w W' q o (QaG x' (QcQ fs vars' z.nd).2) vv M0 g b c [QbA fs M0 y,QbA fs vars' z] k off n s:=by
 obtain⟨_,hn,hf,hc⟩:=hr;have E4:∀d,d∈foot z->d∈Qak [y,z]:=λd hd=>JC zq d hd
 have Q7:=h.lts.2 zq
 have hq:∀j,¬Qej b (1*5) rb (foot z) q j:=λj hj=>by
  rcases hj with⟨e,_⟩|hj|e
  ·exact hA.qa.2 zq e
  ·exact hA.qa.1 (E4 _ hj)
  ·exact hA.ra.2.2 e.symm
 have yA:([y,z].take 1).map (QbA fs M0)++[y,z].drop 1=[QbA fs M0 y,z]:=rfl;have xA:=h.kids;rw[yA]at xA;obtain⟨k1,k2⟩:=JW (i:=0) xA rfl;have hfl:Qak [QbA fs M0 y,QbA fs vars' z]=Qak [y,z]:=by simp only[Qak,J7]
 have S3:Qaz b c [QbA fs M0 y,QbA fs vars' z]=Qaz b c [y,z]:=by simp[Qaz]
 refine⟨⟨λj u hj=>?_,λj=>(hc.frz q j h.lts.1).trans (h.pfr j),?_⟩,hf,h.map.same (hc.block mb h.map.lt λj hj=>?_),h.vars.chgC hc λhv j hj=>?_,?_⟩
 ·refine(hc.cell q (o+j) h.lts.1 (hq _)).trans (h.par j u ?_);rw[MH]
  show (#[_,_,_,_,Qaz b c [y,z]]:Array Value).toList[j]?=some u
  rw[<-S3];exact hj
 ·unfold An.At;refine⟨λ_ j=>(hc.frz b j Q7).trans (h.kfr zq j),?_⟩;unfold AtL;refine⟨λj u hj=>?_,?_,?_⟩
  ·have zA:j<5:=by have:=(List.getElem?_eq_some_iff.1 hj).1;rw[Array.length_toList,J3]at this;exact this
   refine(hc.cell b (0*5+j) Q7 λhp=>?_).trans (k1 j u hj)
   rcases hp with⟨_,h1,h2⟩|h1|h1
   ·omega
   ·exact hA.nod.2 zq (E4 _ h1)
   ·exact hA.ra.2.1 zq h1.symm
  ·refine YQ hc _ k2 λd hd j hj=>?_
   rw[J7]at hd
   rcases hj with⟨e,_⟩|hj|e
   ·subst e;exact hA.nod.2 zq (JC zq _ hd)
   ·exact YR (l:=[y,z]) (i:=1) (m:=0) hA.nod.1 rfl rfl zp hd hj
   ·subst e;exact hA.ra.1 (JC zq _ hd)
  ·unfold AtL;exact⟨hn.cells,hn.at',by unfold AtL;trivial⟩
 ·rcases hj with⟨e,_⟩|hj|e
  ·exact hA.ma.2.1 zq e
  ·exact hA.ma.1 (E4 _ hj)
  ·exact hA.ma.2.2.2 e
 ·rcases hj with⟨e,_⟩|hj|e
  ·exact(hA.ga hv).2.1 zq e
  ·exact(hA.ga hv).1 (E4 _ hj)
  ·exact(hA.ga hv).2.2.2 e
 ·have h3:=h.chg;rw[if_neg zq]at h3 |-;rw[hfl];refine h3.step hc λd j hj=>.inl ?_
  exact QhD
def Jhl{l':List An}(h:QdT q rb g mb b M0 l)(hf:Qak l'=Qak l)(hl:l≠[])(hl':l'≠[]):QdT q rb g mb b M0 l':=
 ⟨⟨by rw[hf];exact h.nod.1,λ_=>by rw[hf];exact h.nod.2 hl⟩,⟨by rw[hf];exact h.qa.1,λ_=>h.qa.2 hl⟩,⟨by rw[hf];exact h.ra.1,λ_=>h.ra.2.1 hl,h.ra.2.2⟩,λhv=>⟨by rw[hf];exact(h.ga hv).1,λ_=>(h.ga hv).2.1 hl,(h.ga hv).2.2⟩,⟨by rw[hf];exact h.ma.1,λ_=>h.ma.2.1 hl,h.ma.2.2⟩⟩
def ux8{P:Prop}(h:P:=by
  try simp only[Act.put,ZA,ZB,ZC]
  refine ZS 18 rfl (λK hK=>?_);have hz:=HK.o.pre HA.o rfl A8.o;have N7:(M0++[s]).length=M0.length+1:=by simp
  have cz:=IH z (M0++[s]) (.slice (some ⟨g5,0,none⟩) (M0.length+1) cc5) g5 b (1*5) _ w5 hsz (by rw[N7];omega) ⟨hz.node,hz.nod,hz.qf,hz.rf,λ_=>j8.o,hz.mf,hz.flt,hz.map,gG.o,hz.wf⟩
  (go_simp;go_at_call 98;refine cz.mono ?_;intro e w6 fD)
  have hh:=JnA HK.o (N4.o nn s).symm HA.o fD;obtain rfl:=fD.1;have HI:=Zh hh;clear hz cz fD hh HK gG j8;refine hK.out _ _ trivial (λhH=>?_);clear hK K
  try simp only[Act.put,ZA,ZB,ZC]
  refine wpAnyH_done (by kernel_rfl) ?_ _;have NH:=Zh (Jhl HA.o (by simp only[Qak,J7]:Qak [QbA fs M0 y,QbA fs (M0++[s]) z]=Qak [y,z]) (by simp) (by simp));have c1:=HI.o.node.cells 1 (Value.int .i64 nn) rfl;have f1:=HI.o.node.frz (o+1);have c2:=HI.o.node.cells 2 (Value.string (bs s)) rfl;have f2:=HI.o.node.frz (o+2);have BA:=HI.o.node.lt;have HS:=Zh ((HI.o.setN NH.o (M0.length:Int)).setS NH.o []);clear HI;go_wp2;go_end0;rw[HR.o];have e5:(QbS fs M0 (ndL ([y,z].take 1))).2=(QcQ fs M0 y.nd).2:=by simp[ndL,QbS]
  have hfl:=HS.o.flt;rw[e5]at hfl
  exact C0.o _ HS.o.node hfl HS.o.chg):P:=h
def Qkd{P:Prop}(h:P:=by
  try simp only[Act.put,ZA,ZB,ZC]
  refine ZS 17 rfl (λK hK=>?_)
  (refine Vy (w3.alloc (.cells #[Sv s] 9)) (by rfl) (.tmp 115) (.tmp 120) (by rfl) M0 g _ l8.o (by rfl) (E6.o _ U2.o) w3.heap.size s (by rfl) R3.o hvl ?_;intro w5 cc5 GB I3)
  replace HK:=Zh (HK.o.below I3);have gG:=Zh GB;have j8:=Zh (AB.o (w3.alloc (.cells #[Sv s] 9)).heap.size (by simp));generalize (w3.alloc (.cells #[Sv s] 9)).heap.size=g5 at*;clear GB I3 R3 U2 E6 l8;refine hK.out _ _ trivial (λhH=>?_);clear hK K
  exact ux8):P:=h
def QjL{P:Prop}(h:P:=by
  try simp only[Act.put,ZA,ZB,ZC]
  refine ZS 16 rfl (λK hK=>?_);go_simp;refine hK.out _ _ trivial (λhH=>?_);have M2:yr w3 (w3.alloc (.cells #[Sv s] 9)):=zO.alloc (Nat.le_refl _) _;replace HK:=Zh (HK.o.below M2);have R3:=Zh (zQ w3 (.cells #[Sv s] 9));have U2:=Zh M2;clear M2;clear hK K
  exact Qkd):P:=h
def JjL(fs:List By)(rb:Nat)(t:TypeId)(mb mn:Nat)(I8:fs.length<=1000000000)(n:Nat)
  (IH:∀(y:An)(vars':List By)(vv':Value)(g' q' o':Nat)(x':Option Int)(W:World),siz y.nd<=n->n+vars'.length<=1000000000->QbW fs rb t mb mn W q' o' x' vv' vars' g' y->Calls prog 98 #[Pt rb,.pointer (some ⟨q',o',none⟩),vv'] W (Qdp fs rb t mb W q' o' x' vars' y))
  (a:An) (M0:List By) (vv:Value) (g q o:Nat) (x:Option Int) (w:World) (hn:siz a.nd<=n+1) (hb:n+1+M0.length<=1000000000) (hpre:QbW fs rb t mb mn w q o x vv M0 g a) (hk:a.kind=19):
  Calls prog 98 #[Pt rb,.pointer (some ⟨q,o,none⟩),vv] w (Qdp fs rb t mb w q o x M0 a):=by
 obtain⟨k,nn,s,off,b,c,l⟩:=a;simp only[An.kind]at hk;obtain⟨R,hR⟩:=yt (Qdp fs rb t mb w q o x M0 (.mk k nn s off b c l))
 rw[hR];have HR:Hi (R=Qdp fs rb t mb w q o x M0 (.mk k nn s off b c l)):=hR.symm;have hA:=Zo hpre;have hH:=hpre.hd;rw[ZV]at hn;have hwf:=hpre.wf;unfold An.nd WfN at hwf;obtain⟨M3,_,_,vA,kA⟩:=hwf;obtain⟨ad,cc,S3,iA⟩:=Jp b c l
 have aA:∀n' s',Qaa (.mk k n' s' off b c l)=(za k n' s' off ad l.length cc):=λn' s'=>by
  exact zAj
 have pA:∀n' s',Qaa (.mk k n' s' off b c (QaX fs M0 l))=(za k n' s' off ad l.length cc):=λn' s'=>by
  exact QfN
 obtain⟨va,vc,rfl,cA,mA⟩:=hpre.vars;have zB:=Zh mA;have HAD:=Zh iA;have N4:=Zh aA;have F5:=Zh pA;have A8:=Zh kA;have tA:=Zh vA;have HH:=Zh hH;have HA:=Zh hA;have Q6:Hi (Qbd (ndL l)<=n):=by rw[Hi];omega
 have rA:l.length<=n:=by have:=Jy l;omega
 have eA:Hi (k=19->l.length=2):=λe=>by have:=M3 e;rwa [Kk,List.length_map]at this
 have bA:rb≠q:=hA.ra.2.2;have D4:q≠rb:=Ne.symm bA;have nA:Hi (foot (.mk k nn s off b c l)=if l=[] then [] else b::Qak l):=KQ k nn s off b c l;have hc:=hH.node.cells;rw[aA]at hc;have d0:=hc 0 _ rfl;simp only[Nat.add_zero]at d0;clear hpre hR hA hH M3 vA kA S3 iA aA pA mA hc hn;subst hk;have e2:((19:Int)==2)=false:=zp;have aB:((19:Int)==20)=false:=zp;have uB:((19:Int)==19)=true:=zp
 obtain⟨y,z,xB⟩:∃y z,l=[y,z]:=by
  have:=eA.o rfl
  match l,this with
  |[y,z],_=>exact⟨y,z,rfl⟩
 subst xB;have hadd:ad=some ⟨b,0,none⟩:=HAD.o zq;subst hadd
 have C0:Hi (∀W,Qcd W q o (.mk 19 M0.length [] off b c [QbA fs M0 y,QbA fs (M0++[s]) z])->QaW W rb t (QaG (QaG x (QcQ fs M0 y.nd).2) (QcQ fs (M0++[s]) z.nd).2) (.map (some mb))->Qcj (Qej q o rb (if [QbA fs M0 y,QbA fs (M0++[s]) z]=[] then [] else b::Qak [QbA fs M0 y,QbA fs (M0++[s]) z])) w W->Qdp fs rb t mb w q o x M0 (.mk 19 nn s off b c [y,z]) (.returned (.tuple #[])) W):=by
  intro W h1 h2 h3;have hr:QbA fs M0 (.mk 19 nn s off b c [y,z])=.mk 19 M0.length [] off b c [QbA fs M0 y,QbA fs (M0++[s]) z]:=by rw[Jby,if_neg zp,if_neg zp,if_pos rfl]
  refine⟨rfl,by rw[hr];exact h1,?_,?_⟩
  ·rw[An.nd,Vx,if_neg zp,if_neg zp,if_pos rfl];simp only[ndL];rw[Jw];exact h2
  ·rw[nA.o,if_neg zq];rw[if_neg zq]at h3;simp only[Qak,J7]at h3 |-;exact h3
 have K0:=HH.o.kid (N4.o nn s).symm;have jA:siz y.nd<=n:=Nat.le_trans (JM (by simp:y∈[y,z])) Q6.o;have hsz:siz z.nd<=n:=Nat.le_trans (JM (by simp:z∈[y,z])) Q6.o;have cy:=IH y M0 (.slice va M0.length vc) g b (0*5) (QaG x (QbS fs M0 (ndL ([y,z].take 0))).2) w jA zo (K0.pre HA.o rfl A8.o);have c4:=K0.par 4 _ rfl;have gA:=Zh K0;have yB:=Zh cA;clear K0 HH eA HAD nA tA cA;go_enter func98,ntmps98;go_wp2_with fail;refine cy.mono ?_;intro e w2 hr;have dA:=Zh (gA.o.step HA.o rfl hr);obtain rfl:=hr.1;clear cy hr gA c4 d0 jA;go_upto_region 15 with fail;have HK:Hi (Qdl fs rb t mb mn w w2.drew q o x (.slice va M0.length vc) M0 g b [y,z] (ym 19 nn s off (.slice (some ⟨b,0,none⟩) [y,z].length cc)) 1):=dA.o.below (Below.refl w2.heap.size w2).drew;clear dA;obtain⟨bB,vB,sA,zA,xA⟩:=HK.o.vars;injection sA with qF hvn FC;subst qF FC
 obtain⟨sv,yA,vA⟩:∃sv,((M0=[]/\sv=Nl)\/(M0≠[]/\sv=.slice (some ⟨g,0,none⟩) M0.length M0.length))/\∀W:World,(Instr.slice 43 (.slice va M0.length vc) none (some (Iv M0.length)) (some (Iv M0.length))).run prog W=.ok sv W:=by
  by_cases hv0:M0=[]
  ·obtain⟨rfl,rfl⟩:=zA.2 hv0;subst hv0;exact⟨_,.inl ⟨rfl,rfl⟩,JfX⟩
  ·obtain⟨rfl,_⟩:=xA hv0;exact⟨_,.inr ⟨hv0,rfl⟩,JfW g M0.length vc zA.1⟩
 have l8:=Zh yA;have AB:=Zh HK.o.fresh;have qA:∀W':World,Below w2.drew.heap.size w2.drew W'->M0≠[]->∀i s,M0[i]?=some s->W'.cell? ⟨g,i,none⟩=some (Sv s):=λW' hb hv i s hs=>(hb.cell (World.block_lt_of_cell? _ _ ((xA hv).2 i s hs))).trans ((xA hv).2 i s hs)
 have E6:=Zh qA;have uA:∃a m c',sv=.slice a m c':=by rcases yA with⟨_,rfl⟩|⟨_,rfl⟩<;>exact⟨_,_,_,rfl⟩
 obtain⟨sa,sm,sc,rfl⟩:=uA;have hvl:M0.length<=1000000000:=zo;clear zA xA hvn yA qA;refine wp_region_held_drew (S:=λ_=>True) zk (trivial) λhH=>?_;generalize w2.drew=w3 at*;refine zK 0 ?_
 refine zK 1 ?_;refine zK 2 ?_;refine zK 3 ?_;refine zK 6 ?_;refine zK 7 ?_;refine zK 8 ?_;refine zK 9 ?_;refine zK 10 ?_;refine zK 11 ?_;refine zK 12 ?_;refine zK 13 ?_;refine zK 14 ?_;try simp only[zX]
 refine ZR (rs:=[4,15]) (AllReadyH.cons rfl (λK hK=>?_) (AllReadyH.cons rfl (λK hK=>?_) AllReadyH.nil))
 ·have c4:=HK.o.par 4 _ rfl;go_simp;clear c4;refine zU hK trivial λhH=>?_;clear hK K
  try simp only[zX]
  refine zK 5 ?_;try simp only[zX]
  refine ZS 15 rfl λK hK=>?_;have c2:=HK.o.par 2 _ rfl;go_simp;clear c2;refine zU hK trivial λhH=>?_;clear hK K;exact QjL
 ·have c2:=HK.o.par 2 _ rfl;go_simp;clear c2;refine zU hK trivial λhH=>?_;clear hK K
  try simp only[zX]
  refine ZR (rs:=[4,16]) (AllReadyH.cons rfl (λK hK=>?_) (AllReadyH.cons rfl (λK hK=>?_) AllReadyH.nil))
  ·have c4:=HK.o.par 4 _ rfl;go_simp;clear c4;refine zU hK trivial λhH=>?_;clear hK K
   try simp only[zX]
   refine zK 5 ?_
   exact QjL
  ·go_simp;refine zU hK trivial λhH=>?_;have M2:yr w3 (w3.alloc (.cells #[Sv s] 9)):=zO.alloc (Nat.le_refl _) _;replace HK:=Zh (HK.o.below M2);have R3:=Zh (zQ w3 (.cells #[Sv s] 9));have U2:=Zh M2;clear M2;clear hK K
   try simp only[zX]
   refine ZR (rs:=[4,17]) (AllReadyH.cons rfl (λK hK=>?_) (AllReadyH.cons rfl (λK hK=>?_) AllReadyH.nil))
   ·have c4:=HK.o.par 4 _ rfl;go_simp;clear c4;refine zU hK trivial λhH=>?_;clear hK K
    try simp only[zX]
    refine zK 5 ?_
    exact Qkd
   ·(refine Vy (w3.alloc (.cells #[Sv s] 9)) zt (.tmp 115) (.tmp 120) zt M0 g _ l8.o zt (E6.o _ U2.o) w3.heap.size s zt R3.o hvl ?_;intro w5 cc5 GB I3)
    replace HK:=Zh (HK.o.below I3);have gG:=Zh GB;have j8:=Zh (AB.o (w3.alloc (.cells #[Sv s] 9)).heap.size zq);generalize (w3.alloc (.cells #[Sv s] 9)).heap.size=g5 at*;clear GB I3 R3 U2 E6 l8;refine zU hK trivial λhH=>?_;clear hK K
    try simp only[zX]
    refine ZS 4 rfl λK hK=>?_;have c4:=HK.o.par 4 _ rfl;go_simp;clear c4;refine zU hK trivial λhH=>?_;clear hK K
    try simp only[zX]
    refine zK 5 ?_
    exact ux8
def Jbz(fs:List By)(rb:Nat)(t:TypeId)(mb mn:Nat)(I8:fs.length<=1000000000):∀(n:Nat)(a:An)(M0:List By)(vv:Value)(g q o:Nat)(x:Option Int)(w:World),siz a.nd<=n->n+M0.length<=1000000000->QbW fs rb t mb mn w q o x vv M0 g a->Calls prog 98 #[Pt rb,.pointer (some ⟨q,o,none⟩),vv] w (Qdp fs rb t mb w q o x M0 a)
 |0,a,M0,vv,g,q,o,x,w,hn,_,_=>by
  have:=Vh a.nd;omega
 |n+1,a,M0,vv,g,q,o,x,w,hn,hb,hpre=>by
  have IH:=λ(y:An) vars' vv' g' q' o' x' W h1 h2 h3=>Jbz fs rb t mb mn I8 n y vars' vv' g' q' o' x' W h1 h2 h3
  by_cases h2:a.kind=2
  ·exact JjK fs rb t mb mn I8 n IH a M0 vv g q o x w hn hb hpre h2
  by_cases T3:a.kind=20
  ·exact Jhk fs rb t mb mn I8 n IH a M0 vv g q o x w hn hb hpre T3
  by_cases M3:a.kind=19
  ·exact JjL fs rb t mb mn I8 n IH a M0 vv g q o x w hn hb hpre M3
  exact Jhj fs rb t mb mn I8 n IH a M0 vv g q o x w hn hb hpre h2 T3 M3
def Z0(l:List By)(v s:By):Qal (l++[v]) s=match Qal l s with|some k=>some k|none=>if v=s then some l.length else none:=by
 unfold Qal;rw[List.findIdx?_append]
 cases h:List.findIdx? (λv=>decide (v=s)) l with
 |some k=>simp
 |none=>by_cases e:v=s<;>simp[e]
def Z1(l:List By)(s:By):(Qal l s).isSome=decide (s∈l):=by
 unfold Qal;rw[List.findIdx?_isSome]
 induction l with
 |nil=>simp
 |cons a r ih=>
  simp only[List.any_cons,ih,List.mem_cons]
  by_cases e:a=s
  ·simp[e]
  ·have e':¬s=a:=λh=>e h.symm
   simp[e,e']
def Ys:∀(l:List (By×Int))(x:By×Int)(seen:List By),Qdk (l++[x]) seen=Qdk l seen++if x.1∈seen++l.map (·.1) then [x.2] else []
 |[],(s,o),seen=>by simp[Qdk]
 |(s,o)::l,x,seen=>by
  simp only[List.cons_append,Qdk,Ys l x,List.map_cons,List.append_assoc]
  congr 2
variable{xs:List Value}
def Vi{e:Nat}(h:W.ownsRow base e size v n xs)(hb:∀g,v.ownBlock=some g->W'.heap[g]?=W.heap[g]?):W'.ownsRow base e size v n xs:=by
 refine⟨h.1,h.2.imp id ?_⟩;rintro⟨g,cap,cur,rfl,h2,h3,h4⟩;exact⟨g,cap,cur,rfl,h2,(hb g rfl).trans h3,h4⟩
variable{P:Nat->Nat->Prop}
def Jhm{e:Nat}{xs':List Value}(h:W.ownsRow base e size v n xs)(hl:xs'.length=xs.length)(hs:Qcj P W W')(hc:∀k u,xs'[k]?=some u->W'.cell? ⟨Value.blk v,k,none⟩=some u):W'.ownsRow base e size v n xs':=by
 refine⟨hl.trans h.1,?_⟩
 rcases h.2 with⟨rfl,rfl⟩|⟨g,cap,cur,rfl,h2,h3,h4,h5,h6,h7⟩
 ·exact .inl ⟨rfl,rfl⟩
 ·obtain⟨xA,c1,c2⟩:=hs.shape g cur e (0,0) h3;refine .inr ⟨g,cap,xA,rfl,h2,c1,h4,h5,c2.trans h6,List.ext_getElem? λk=>?_⟩;rw[List.getElem?_take];have hx:xs'.length=n*size:=hl.trans h.1
  by_cases hk:k<n*size
  ·rw[if_pos hk];have hu:xs'[k]?=some (xs'[k]'(by omega)):=List.getElem?_eq_getElem zo;have:=hc k _ hu;rw[show Value.blk (.slice (some ⟨g,0,none⟩) n cap)=g from rfl,Ja c1]at this;rw[hu,<-this];simp
  ·rw[if_neg hk,List.getElem?_eq_none zo]
def JbA{α:Type}{cells:α->List Value}{size:Nat}(hs:∀x,(cells x).length=size):∀(l:List α)(k:Nat)(u:Value),(l.flatMap cells)[k]?=some u->∃m j x,k=m*size+j/\j<size/\l[m]?=some x/\(cells x)[j]?=some u
 |[],k,u,h=>by simp at h
 |a::l,k,u,h=>by
  rw[List.flatMap_cons]at h
  by_cases hk:k<size
  ·rw[List.getElem?_append_left (by rw[hs];exact hk)]at h;exact⟨0,k,a,by omega,hk,rfl,h⟩
  ·rw[List.getElem?_append_right (by rw[hs];omega),hs]at h;obtain⟨m,j,x,h1,h2,h3,h4⟩:=JbA hs l _ u h;exact⟨m+1,j,x,by rw[Nat.succ_mul];omega,h2,by simpa using h3,h4⟩
def Zp{α:Type}{cells:α->List Value}(hs:∀x,(cells x).length=size)(l:List α):(l.flatMap cells).length=l.length*size:=by
 induction l with
 |nil=>simp
 |cons a l ih=>rw[List.flatMap_cons,List.length_append,hs,ih,List.length_cons,Nat.succ_mul];omega
variable{f:FnA}
def FnA.Ok.chgC(h:f.Ok W)(hc:Qcj P W W')(hp:∀b j,f.lo<=b->b<f.hi->¬P b j):f.Ok W':=by
 obtain⟨m,m1,m2,m3,m4,m5⟩:=h.bmd;exact⟨Vi h.pown λg hg=>hc.block g (h.pown.lt g hg).2 λj=>hp g j (h.pown.lt g hg).1 (zu (m3 g hg)),Vi h.town λg hg=>hc.block g (h.town.lt g hg).2 λj=>hp g j (h.town.lt g hg).1 (zu (m4 g hg)),YQ hc _ h.bat λb hb j=>hp b j (zu (m5.2 b hb)) (m5.2 b hb).2,⟨m,m1,m2,m3,m4,m5⟩,le_trans h.hle hc.size⟩
variable{c:ClA}
def ClA.Ok.chgC(h:c.Ok W)(hc:Qcj P W W')(hp:∀b j,c.lo<=b->b<c.hi->¬P b j):c.Ok W':=
 ⟨YQ hc _ h.at' λb hb j=>hp b j (h.made.2 b hb).1 (h.made.2 b hb).2,h.made,h.hle.1,le_trans h.hle.2 hc.size⟩
def Zq{l:List (Nat×Nat)}(h:l.Pairwise λa b=>a.2<=b.1){j:Nat}{a b:Nat×Nat}(hi:l[i]?=some a)(hj:l[j]?=some b)(hne:i≠j):a.2<=b.1\/b.2<=a.1:=by
 obtain⟨h1,e1⟩:=List.getElem?_eq_some_iff.1 hi;obtain⟨h2,e2⟩:=List.getElem?_eq_some_iff.1 hj;have hp:=List.pairwise_iff_getElem.1 h
 rcases Nat.lt_or_gt_of_ne hne with hl|hl
 ·have:=hp i j h1 h2 hl;rw[e1,e2]at this;exact .inl this
 ·have:=hp j i h2 h1 hl;rw[e1,e2]at this;exact .inr this
def Yt(S:Qap)(h:S.funcs[i]?=some f):S.ivs[i]?=some (f.lo,f.hi):=by
 unfold Qap.ivs;rw[List.getElem?_append_left (by rw[List.length_map];exact(List.getElem?_eq_some_iff.1 h).1),getElem?_map,h];rfl
def Yu(S:Qap)(h:S.clauses[i]?=some c):S.ivs[S.funcs.length+i]?=some (c.lo,c.hi):=by
 unfold Qap.ivs;rw[List.getElem?_append_right (by rw[List.length_map];omega),List.length_map,Nat.add_sub_cancel_left,getElem?_map,h];rfl
def Qap.setF(S:Qap)(i:Nat)(a:An):Qap:={S with funcs:=match S.funcs[i]? with|none=>S.funcs|some f=>S.funcs.set i {f with body:=a} }
def Qap.setC(S:Qap)(i:Nat)(a:An):Qap:={S with clauses:=match S.clauses[i]? with|none=>S.clauses|some c=>S.clauses.set i {c with cond:=a} }
def JbB(h:f.Ok W):∀b∈foot f.body,f.lo<=b/\b<f.hi:=by
 obtain⟨m,m1,m2,m3,m4,m5⟩:=h.bmd;exact λb hb=>⟨by have:=(m5.2 b hb).1;omega,(m5.2 b hb).2⟩
def Vz{e:Nat}(h:W.ownsRow base e size v n xs)(hn:0<n):v.ownBlock=some (Value.blk v):=by
 rcases h.2 with⟨rfl,rfl⟩|⟨g,cap,cur,rfl,_⟩
 ·omega
 ·rfl
def Qjt{P:Prop}(h:P:=by
  rw[N9];unfold Qap.ivs;dsimp only
  congr 1
  refine List.ext_getElem? λk=>?_
  rw[List.getElem?_map,List.getElem?_map,List.getElem?_set]
  by_cases hk:i=k
  ·subst hk;rw[if_pos rfl,if_pos hlt,hf];rfl
  ·rw[if_neg hk]):P:=h
def Qhg{P:Prop}(h:P:=by
  refine(hc.block sb (Jb h.box) λj hj=>?_).trans h.box
  rcases hP sb j hj with e|e|e<;>omega):P:=h
def QgY{P:Prop}(h:P:=by
  rcases hj with⟨e,_⟩|hj|e
  ·exact .inl e
  ·exact .inr (.inl (hfo b hj))
  ·exact .inr (.inr e)):P:=h
variable{S:Qap}
def QaH.resF(h:QaH W sb S)(hf:S.funcs[i]?=some f)(hr:Qdp fs rb t mb W (Value.blk S.fv) (i*10+5) x M0 f.body e W')
  (fA:sb<rb/\(∀iv∈S.ivs,iv.2<=rb)/\S.fv.ownBlock≠some rb/\S.cv.ownBlock≠some rb):QaH W' sb (S.setF i (QbA fs M0 f.body)):=by
 obtain⟨_,hn,_,hc⟩:=hr;obtain⟨r1,r2,r3,r4⟩:=fA;have hlt:=(List.getElem?_eq_some_iff.1 hf).1;have hmem:=mem_of_getElem? hf;obtain⟨fo,eA,dA⟩:=h.fok f hmem;have hfo:=JbB fo;have xA:(f.lo,f.hi)∈S.ivs:=mem_of_getElem? (Yt S hf);have uA:=Vz h.fown (by omega:0<S.funcs.length);have gA:=(h.fown.lt _ uA).1;have iA:=h.fout _ uA (f.lo,f.hi) xA;have cA:Value.blk S.fv≠rb:=λe=>r3 (by rw[uA,e])
 have N9:S.setF i (QbA fs M0 f.body)={S with funcs:=S.funcs.set i {f with body:=QbA fs M0 f.body} }:=by unfold Qap.setF;rw[hf]
 have yA:(S.setF i (QbA fs M0 f.body)).ivs=S.ivs:=by
  exact Qjt
 have hP:∀b j,Qej (Value.blk S.fv) (i*10+5) rb (foot f.body) b j->b=Value.blk S.fv\/(f.lo<=b/\b<f.hi)\/b=rb:=λb j hj=>by
  exact QgY
 have zA:∀b j (iv:Nat×Nat),iv∈S.ivs->(f.hi<=iv.1\/iv.2<=f.lo)->iv.1<=b->b<iv.2->¬Qej (Value.blk S.fv) (i*10+5) rb (foot f.body) b j:=λb j iv RE hd h1 h2 hj=>by
  have h3:=h.fout _ uA iv RE;have h4:=r2 iv RE
  rcases hP b j hj with e|e|e
  ·omega
  ·omega
  ·omega
 have hA:(i*10+5)=i*10+5:=rfl;refine⟨?_,?_,?_,?_,?_,by rw[yA];exact h.pair,by rw[yA,N9];exact h.fout,by rw[yA,N9];exact h.cout⟩
 ·rw[N9];exact Qhg
 ·rw[N9];dsimp only;rw[length_set];refine Jhm h.fown (by rw[Zp FnA.cells_length,Zp FnA.cells_length,length_set]) hc λk u hk=>?_
  obtain⟨m,j,y,rfl,hj,hy,hu⟩:=JbA FnA.cells_length _ k u hk;rw[getElem?_set]at hy
  have aA:∀y',S.funcs[m]?=some y'->y'.cells[j]?=some u->(m≠i\/j<5)->W'.cell? ⟨Value.blk S.fv,m*10+j,none⟩=some u:=λy' hy' hu' iG=>by
   have h1:=J0 h.fown (Kq FnA.cells_length S.funcs m j y' u hy' hu');refine(hc.cell _ _ (World.block_lt_of_cell? _ _ h1) λhp=>?_).trans h1
   rcases hp with⟨_,h2,h3⟩|hp|hp
   ·rcases iG with h4|h4
    ·rcases Nat.lt_or_gt_of_ne h4 with h5|h5
     ·have:(m+1)*10<=i*10:=mul_le_mul_right 10 h5;omega
     ·have:(i+1)*10<=m*10:=mul_le_mul_right 10 h5;omega
    ·by_cases h5:m=i
     ·subst h5;omega
     ·rcases Nat.lt_or_gt_of_ne h5 with h6|h6
      ·have:(m+1)*10<=i*10:=mul_le_mul_right 10 h6;omega
      ·have:(i+1)*10<=m*10:=mul_le_mul_right 10 h6;omega
   ·have:=hfo (Value.blk S.fv) hp;omega
   ·exact cA hp
  by_cases H8:i=m
  ·subst H8;rw[if_pos rfl,if_pos hlt]at hy;injection hy with hy;subst hy
   by_cases rF:j<5
   ·refine aA f hf ?_ (.inr rF);unfold FnA.cells at hu |-;rw[List.getElem?_append_left (by simpa using rF)]at hu |-;exact hu
   ·unfold FnA.cells at hu;rw[List.getElem?_append_right zr]at hu;have:=hn.cells (j-5) u (by simpa using hu);rw[show i*10+j=i*10+5+(j-5) by omega];exact this
  ·rw[if_neg H8]at hy;exact aA y hy hu (.inl λe=>H8 e.symm)
 ·rw[N9];refine Vi h.cown λg hg=>hc.block g (h.cown.lt g hg).2 λj hj=>?_
  have h1:=h.cout g hg (f.lo,f.hi) xA
  rcases hP g j hj with e|e|e
  ·rcases VP h.cown h.fown zp with h2|h2
   ·rw[hg]at h2;cases h2
   ·exact h2 (by rw[hg,uA,e])
  ·omega
  ·exact r4 (by rw[hg,e])
 ·rw[N9];intro y hy;dsimp only at hy;obtain⟨m,hm⟩:=List.getElem?_of_mem hy;rw[getElem?_set]at hm
  by_cases H8:i=m
  ·subst H8;rw[if_pos rfl,if_pos hlt]at hm;injection hm with hm;subst hm;obtain⟨m,m1,m2,m3,m4,m5⟩:=fo.bmd
   have vA:∀g,f.lo<=g->g<m->∀j,¬Qej (Value.blk S.fv) (i*10+5) rb (foot f.body) g j:=λg h1 h2 j hj=>by
    have h3:=r2 _ xA
    rcases hj with⟨e,_⟩|hj|e
    ·omega
    ·have:=(m5.2 g hj).1;omega
    ·omega
   refine⟨⟨Vi fo.pown λg hg=>hc.block g (fo.pown.lt g hg).2 (vA g (fo.pown.lt g hg).1 (m3 g hg)),Vi fo.town λg hg=>hc.block g (fo.town.lt g hg).2 (vA g (fo.town.lt g hg).1 (m4 g hg)),hn.at',⟨m,m1,m2,m3,m4,?_⟩,le_trans fo.hle hc.size⟩,eA,dA⟩;unfold Qce;rw[J7];exact m5
  ·rw[if_neg H8]at hm;obtain⟨g1,g2,g3⟩:=h.fok y (mem_of_getElem? hm);refine⟨g1.chgC hc λb j h1 h2=>zA b j (y.lo,y.hi) (mem_of_getElem? (Yt S hm)) (Zq h.pair (Yt S hf) (Yt S hm) H8) h1 h2,g2,g3⟩
 ·rw[N9];intro c bA;obtain⟨m,hm⟩:=List.getElem?_of_mem (show c∈S.clauses from bA);obtain⟨g1,g2⟩:=h.cok c bA;exact⟨g1.chgC hc λb j h1 h2=>zA b j (c.lo,c.hi) (mem_of_getElem? (Yu S hm)) (Zq h.pair (Yt S hf) (Yu S hm) zo) h1 h2,g2⟩
def QaH.resC{f:ClA}(h:QaH W sb S)(hf:S.clauses[i]?=some f)(hr:Qdp fs rb t mb W (Value.blk S.cv) (i*7) x M0 f.cond e W')
  (fA:sb<rb/\(∀iv∈S.ivs,iv.2<=rb)/\S.fv.ownBlock≠some rb/\S.cv.ownBlock≠some rb):QaH W' sb (S.setC i (QbA fs M0 f.cond)):=by
 obtain⟨_,hn,_,hc⟩:=hr;obtain⟨r1,r2,r3,r4⟩:=fA;have hlt:=(List.getElem?_eq_some_iff.1 hf).1;have hmem:=mem_of_getElem? hf;obtain⟨fo,aA⟩:=h.cok f hmem;have hfo:∀b∈foot f.cond,f.lo<=b/\b<f.hi:=fo.made.2;have zA:(f.lo,f.hi)∈S.ivs:=mem_of_getElem? (Yu S hf);have uA:=Vz h.cown (by omega:0<S.clauses.length);have cA:=(h.cown.lt _ uA).1;have dA:=h.cout _ uA (f.lo,f.hi) zA;have bA:Value.blk S.cv≠rb:=λe=>r4 (by rw[uA,e])
 have N9:S.setC i (QbA fs M0 f.cond)={S with clauses:=S.clauses.set i {f with cond:=QbA fs M0 f.cond} }:=by unfold Qap.setC;rw[hf]
 have xA:(S.setC i (QbA fs M0 f.cond)).ivs=S.ivs:=by
  exact Qjt
 have hP:∀b j,Qej (Value.blk S.cv) (i*7) rb (foot f.cond) b j->b=Value.blk S.cv\/(f.lo<=b/\b<f.hi)\/b=rb:=λb j hj=>by
  exact QgY
 have yA:∀b j (iv:Nat×Nat),iv∈S.ivs->(f.hi<=iv.1\/iv.2<=f.lo)->iv.1<=b->b<iv.2->¬Qej (Value.blk S.cv) (i*7) rb (foot f.cond) b j:=λb j iv RE hd h1 h2 hj=>by
  have h3:=h.cout _ uA iv RE;have h4:=r2 iv RE
  rcases hP b j hj with e|e|e
  ·omega
  ·omega
  ·omega
 refine⟨?_,?_,?_,?_,?_,by rw[xA];exact h.pair,by rw[xA,N9];exact h.fout,by rw[xA,N9];exact h.cout⟩
 ·rw[N9];exact Qhg
 ·rw[N9];refine Vi h.fown λg hg=>hc.block g (h.fown.lt g hg).2 λj hj=>?_
  have h1:=h.fout g hg (f.lo,f.hi) zA
  rcases hP g j hj with e|e|e
  ·rcases VP h.fown h.cown zp with h2|h2
   ·rw[hg]at h2;cases h2
   ·exact h2 (by rw[hg,uA,e])
  ·omega
  ·exact r3 (by rw[hg,e])
 ·rw[N9];dsimp only;rw[length_set];refine Jhm h.cown (by rw[Zp ClA.cells_length,Zp ClA.cells_length,length_set]) hc λk u hk=>?_
  obtain⟨m,j,y,rfl,hj,hy,hu⟩:=JbA ClA.cells_length _ k u hk;rw[getElem?_set]at hy
  have vA:∀y',S.clauses[m]?=some y'->y'.cells[j]?=some u->(m≠i\/5<=j)->W'.cell? ⟨Value.blk S.cv,m*7+j,none⟩=some u:=λy' hy' hu' iG=>by
   have h1:=J0 h.cown (Kq ClA.cells_length S.clauses m j y' u hy' hu');refine(hc.cell _ _ (World.block_lt_of_cell? _ _ h1) λhp=>?_).trans h1
   rcases hp with⟨_,h2,h3⟩|hp|hp
   ·by_cases h5:m=i
    ·subst h5
     rcases iG with h4|h4
     ·exact h4 rfl
     ·omega
    ·rcases Nat.lt_or_gt_of_ne h5 with h6|h6
     ·have:(m+1)*7<=i*7:=mul_le_mul_right 7 h6;omega
     ·have:(i+1)*7<=m*7:=mul_le_mul_right 7 h6;omega
   ·have:=hfo (Value.blk S.cv) hp;omega
   ·exact bA hp
  by_cases H8:i=m
  ·subst H8;rw[if_pos rfl,if_pos hlt]at hy;injection hy with hy;subst hy
   by_cases rF:j<5
   ·unfold ClA.cells at hu;rw[List.getElem?_append_left (by rw[Array.length_toList,J3];exact rF)]at hu;exact hn.cells j u hu
   ·refine vA f hf ?_ (.inr zo);unfold ClA.cells at hu |-;rw[List.getElem?_append_right (by rw[Array.length_toList,J3];omega),Array.length_toList,J3]at hu |-;exact hu
  ·rw[if_neg H8]at hy;exact vA y hy hu (.inl λe=>H8 e.symm)
 ·rw[N9];intro y hy;obtain⟨m,hm⟩:=List.getElem?_of_mem (show y∈S.funcs from hy);obtain⟨g1,g2⟩:=h.fok y hy;exact⟨g1.chgC hc λb j h1 h2=>yA b j (y.lo,y.hi) (mem_of_getElem? (Yt S hm)) (Zq h.pair (Yu S hf) (Yt S hm) (zu ((List.getElem?_eq_some_iff.1 hm).1))) h1 h2,g2⟩
 ·rw[N9];intro y hy;dsimp only at hy;obtain⟨m,hm⟩:=List.getElem?_of_mem hy;rw[getElem?_set]at hm
  by_cases H8:i=m
  ·subst H8;rw[if_pos rfl,if_pos hlt]at hm;injection hm with hm;subst hm;refine⟨⟨hn.at',?_,fo.hle.1,le_trans fo.hle.2 hc.size⟩,aA⟩;unfold Qce;rw[J7];exact fo.made
  ·rw[if_neg H8]at hm;obtain⟨g1,g2⟩:=h.cok y (mem_of_getElem? hm);exact⟨g1.chgC hc λb j h1 h2=>yA b j (y.lo,y.hi) (mem_of_getElem? (Yu S hm)) (Zq h.pair (Yu S hf) (Yu S hm) zo) h1 h2,g2⟩
def QaH.far{L:List Nat}(h:QaH W sb S)(hc:Chg L W W')(hL:∀b∈L,sb<b/\S.fv.ownBlock≠some b/\S.cv.ownBlock≠some b/\∀iv∈S.ivs,iv.2<=b):QaH W' sb S:=by
 have hk:∀{e size n:Nat}{v:Value}{xs:List Value},(∀b∈L,v.ownBlock≠some b)->W.ownsRow (sb+1) e size v n xs->W'.ownsRow (sb+1) e size v n xs:=λhn h=>Vi h λg hg=>hc.block g (h.lt g hg).2 λhm=>hn g hm hg
 exact⟨hc.heap_some (λhm=>by have:=(hL sb hm).1;omega) h.box,hk (λb hb=>(hL b hb).2.1) h.fown,hk (λb hb=>(hL b hb).2.2.1) h.cown,
  λf hf=>⟨(h.fok f hf).1.chg hc λb hb=>.inr ((hL b hb).2.2.2 (f.lo,f.hi) (List.mem_append_left _ (List.mem_map.2 ⟨f,hf,rfl⟩))),(h.fok f hf).2⟩,
  λc hc'=>⟨(h.cok c hc').1.chg hc λb hb=>.inr ((hL b hb).2.2.2 (c.lo,c.hi) (List.mem_append_right _ (List.mem_map.2 ⟨c,hc',rfl⟩))),(h.cok c hc').2⟩,h.pair,h.fout,h.cout⟩
structure Rz(w W:World)(sb:Nat)(S:Qap)(mb rb mn:Nat)(f:By->Option Nat)(x:Option Int):Prop where
 ok:QaH W sb S
 flt:QaW W rb 163 x (.map (some mb))
 map:Qbh W mb mn f
 bel:Below sb w W
 sz:w.heap.size<=W.heap.size
 num:w.heap.size<=mb/\mb<rb/\sb<w.heap.size
 ivs:∀iv∈S.ivs,iv.2<=w.heap.size
 rows:(∀g,S.fv.ownBlock=some g->g<w.heap.size)/\(∀g,S.cv.ownBlock=some g->g<w.heap.size)
section
variable {w W W':World}{sb:Nat}{S:Qap}{mb rb mn:Nat}{f:By->Option Nat}{x:Option Int}
def Kr{B:Nat}(h:Below B w W)(ho:W'.os=W.os)(ht:W'.tape=W.tape)(hp:W'.output=W.output)(hs:W.heap.size<=W'.heap.size)(hb:∀k,k<B->W'.heap[k]?=W.heap[k]?):Below B w W':=
 ⟨ho.trans h.os,ht.trans h.tape,hp.trans h.output,le_trans h.size hs,λk hk=>(hb k hk).trans (h.block k hk)⟩
def Rz.up(h:Rz w W sb S mb rb mn f x)(hb:yr W W'):Rz w W' sb S mb rb mn f x:=
 ⟨h.ok.on (Chg.of_below hb []) zq,(hb.block _ (Jb h.flt)).trans h.flt,h.map.same (hb.block mb h.map.lt),Kr h.bel hb.os hb.tape hb.output hb.size λk hk=>hb.block k (zv h.num h.sz),le_trans h.sz hb.size,h.num,h.ivs,h.rows⟩
def Rz.far(h:Rz w W sb S mb rb mn f x):∀b,w.heap.size<=b->sb<b/\S.fv.ownBlock≠some b/\S.cv.ownBlock≠some b/\∀iv∈S.ivs,iv.2<=b:=λb hb=>
 ⟨by have:=h.num;omega,λe=>by have:=h.rows.1 b e;omega,λe=>by have:=h.rows.2 b e;omega,λiv hi=>by have:=h.ivs iv hi;omega⟩
def Rz.add{y:Int}(h:Rz w W sb S mb rb mn f x)(ha:Qir W rb 163 (addF x y) (.map (some mb)) e W'):Rz w W' sb S mb rb mn f (QaG x [y]):=by
 obtain⟨_,hf,hc⟩:=ha;obtain⟨n1,n2,n3⟩:=h.num;exact⟨h.ok.far hc λb hb=>h.far b (by simp at hb;omega),hf,h.map.keep hc zr,Kr h.bel hc.os hc.tape hc.output hc.size λk hk=>hc.block k (zu h.sz) zr,le_trans h.sz hc.size,h.num,h.ivs,h.rows⟩
def Rz.put{f':By->Option Nat}{mn':Nat}(h:Rz w W sb S mb rb mn f x)(hm:Qbh W' mb mn' f')(hc:Chg [mb] W W'):Rz w W' sb S mb rb mn' f' x:=by
 obtain⟨n1,n2,n3⟩:=h.num;exact⟨h.ok.far hc λb hb=>h.far b (by simp at hb;omega),hc.heap_some zr h.flt,hm,Kr h.bel hc.os hc.tape hc.output hc.size λk hk=>hc.block k (zu h.sz) zr,le_trans h.sz hc.size,h.num,h.ivs,h.rows⟩
def Qjx{P:Prop}(h:P:=by
  unfold Qap.ivs;dsimp only
  congr 1
  refine List.ext_getElem? λk=>?_
  rw[List.getElem?_map,List.getElem?_map,List.getElem?_set]
  by_cases hk:i=k
  ·subst hk;rw[if_pos rfl,if_pos (List.getElem?_eq_some_iff.1 hf).1,hf];rfl
  ·rw[if_neg hk]):P:=h
def JjM(S:Qap)(i:Nat)(a:An):(S.setF i a).ivs=S.ivs:=by
 unfold Qap.setF
 cases hf:S.funcs[i]? with
 |none=>rfl
 |some f=>
  exact Qjx
def JjN(S:Qap)(i:Nat)(a:An):(S.setC i a).ivs=S.ivs:=by
 unfold Qap.setC
 cases hf:S.clauses[i]? with
 |none=>rfl
 |some f=>
  exact Qjx
def Rz.preF{fn:FnA}(h:Rz w W sb S mb rb mn (λs=>Qal fs s) x)(hf:S.funcs[i]?=some fn)(hv:QcO W vv M0 g)(hg:M0≠[]->rb<g)(hw:WfN fn.body.nd):QbW fs rb 163 mb mn W (Value.blk S.fv) (i*10+5) x vv M0 g fn.body:=by
 obtain⟨n1,n2,n3⟩:=h.num;have hmem:=mem_of_getElem? hf;obtain⟨fo,zA,vA⟩:=h.ok.fok fn hmem;have hfo:=JbB fo;have yA:(fn.lo,fn.hi)∈S.ivs:=mem_of_getElem? (Yt S hf);have aA:=h.ivs _ yA;have xA:=Vz h.ok.fown (by have:=(List.getElem?_eq_some_iff.1 hf).1;omega:0<S.funcs.length);have G1:=h.rows.1 _ xA;have uA:=h.ok.fout _ xA _ yA
 obtain⟨cs,cap,cur,e1,e2,e3,e4⟩:∃g cap cur,S.fv=.slice (some ⟨g,0,none⟩) S.funcs.length cap/\sb+1<=g/\W.heap[g]?=some (.cells cur 147 (0,0))/\True:=by
  rcases h.ok.fown.2 with⟨e,_⟩|⟨g,cap,cur,e,e2,e3,_⟩
  ·rw[e]at xA;cases xA
  ·exact⟨g,cap,cur,e,e2,e3,trivial⟩
 have H7:Value.blk S.fv=cs:=by rw[e1];rfl
 refine⟨⟨λj u hj=>?_,λj=>by rw[H7];exact Jc e3 j,fo.bat⟩,?_,λhm=>by have:=hfo _ hm;omega,⟨λhm=>by have:=hfo _ hm;omega,by omega⟩,λhv=>⟨λhm=>by have:=hfo _ hm;have:=hg hv;omega,by have:=hg hv;omega,by have:=hg hv;omega⟩,⟨λhm=>by have:=hfo _ hm;omega,by omega,by omega⟩,h.flt,h.map,hv,hw⟩
 ·have h1:fn.cells[5+j]?=some u:=by
   unfold FnA.cells;rw[List.getElem?_append_right zq];simpa using hj
  have:=J0 h.ok.fown (Kq FnA.cells_length S.funcs i (5+j) fn u hf h1);rw[Nat.add_assoc];exact this
 ·obtain⟨m,_,_,_,_,m5⟩:=fo.bmd;exact m5.1
def Rz.preC(h:Rz w W sb S mb rb mn (λs=>Qal fs s) x)(hf:S.clauses[i]?=some c)(hw:WfN c.cond.nd):QbW fs rb 163 mb mn W (Value.blk S.cv) (i*7) x Nl [] 0 c.cond:=by
 obtain⟨n1,n2,n3⟩:=h.num;have hmem:=mem_of_getElem? hf;obtain⟨fo,zA⟩:=h.ok.cok c hmem;have hfo:∀b∈foot c.cond,c.lo<=b/\b<c.hi:=fo.made.2;have yA:(c.lo,c.hi)∈S.ivs:=mem_of_getElem? (Yu S hf);have vA:=h.ivs _ yA;have xA:=Vz h.ok.cown (by have:=(List.getElem?_eq_some_iff.1 hf).1;omega:0<S.clauses.length);have G1:=h.rows.2 _ xA;have uA:=h.ok.cout _ xA _ yA
 obtain⟨cs,cap,cur,e1,e2,e3,e4⟩:∃g cap cur,S.cv=.slice (some ⟨g,0,none⟩) S.clauses.length cap/\sb+1<=g/\W.heap[g]?=some (.cells cur 151 (0,0))/\True:=by
  rcases h.ok.cown.2 with⟨e,_⟩|⟨g,cap,cur,e,e2,e3,_⟩
  ·rw[e]at xA;cases xA
  ·exact⟨g,cap,cur,e,e2,e3,trivial⟩
 have H7:Value.blk S.cv=cs:=by rw[e1];rfl
 refine⟨⟨λj u hj=>?_,λj=>by rw[H7];exact Jc e3 j,fo.at'⟩,fo.made.1,λhm=>by have:=hfo _ hm;omega,⟨λhm=>by have:=hfo _ hm;omega,by omega⟩,λhv=>absurd rfl hv,⟨λhm=>by have:=hfo _ hm;omega,by omega,by omega⟩,h.flt,h.map,⟨none,0,rfl,⟨Nat.le_refl _,λ_=>⟨rfl,rfl⟩⟩,λhv=>absurd rfl hv⟩,hw⟩
 have h1:c.cells[j]?=some u:=by
  unfold ClA.cells;rw[List.getElem?_append_left (List.getElem?_eq_some_iff.1 hj).1];exact hj
 exact J0 h.ok.cown (Kq ClA.cells_length S.clauses i j c u hf h1)
def Rz.resF{fn:FnA}(h:Rz w W sb S mb rb mn (λs=>Qal fs s) x)(hf:S.funcs[i]?=some fn)(hr:Qdp fs rb 163 mb W (Value.blk S.fv) (i*10+5) x M0 fn.body e W'):Rz w W' sb (S.setF i (QbA fs M0 fn.body)) mb rb mn (λs=>Qal fs s) (QaG x (QcQ fs M0 fn.body.nd).2):=by
 obtain⟨n1,n2,n3⟩:=h.num;have xA:=h.far rb zo;have zA:=h.ok.resF hf hr ⟨xA.1,xA.2.2.2,xA.2.1,xA.2.2.1⟩;obtain⟨_,hn,hfl,hc⟩:=hr;have yA:=Vz h.ok.fown (by have:=(List.getElem?_eq_some_iff.1 hf).1;omega:0<S.funcs.length);have aA:=(h.ok.fown.lt _ yA).1;have G1:=h.rows.1 _ yA;obtain⟨fo,vA,uA⟩:=h.ok.fok fn (mem_of_getElem? hf);have bA:=h.ivs _ (mem_of_getElem? (Yt S hf))
 have hP:∀b j,Qej (Value.blk S.fv) (i*10+5) rb (foot fn.body) b j->b=Value.blk S.fv\/(fn.lo<=b/\b<fn.hi)\/b=rb:=λb j hj=>by
  rcases hj with⟨e,_⟩|hj|e
  ·exact .inl e
  ·exact .inr (.inl (JbB fo b hj))
  ·exact .inr (.inr e)
 refine⟨zA,hfl,h.map.same (hc.block mb h.map.lt λj hj=>by rcases hP mb j hj with e|e|e<;>omega),Kr h.bel hc.os hc.tape hc.output hc.size λk hk=>hc.block k (zu h.sz) λj hj=>by rcases hP k j hj with e|e|e<;>omega,le_trans h.sz hc.size,h.num,by rw[JjM];exact h.ivs,h.rows⟩
def Rz.resC(h:Rz w W sb S mb rb mn (λs=>Qal fs s) x)(hf:S.clauses[i]?=some c)(hr:Qdp fs rb 163 mb W (Value.blk S.cv) (i*7) x M0 c.cond e W'):Rz w W' sb (S.setC i (QbA fs M0 c.cond)) mb rb mn (λs=>Qal fs s) (QaG x (QcQ fs M0 c.cond.nd).2):=by
 obtain⟨n1,n2,n3⟩:=h.num;have xA:=h.far rb zo;have zA:=h.ok.resC hf hr ⟨xA.1,xA.2.2.2,xA.2.1,xA.2.2.1⟩;obtain⟨_,hn,hfl,hc⟩:=hr;have yA:=Vz h.ok.cown (by have:=(List.getElem?_eq_some_iff.1 hf).1;omega:0<S.clauses.length);have vA:=(h.ok.cown.lt _ yA).1;have G1:=h.rows.2 _ yA;obtain⟨fo,uA⟩:=h.ok.cok c (mem_of_getElem? hf);have aA:=h.ivs _ (mem_of_getElem? (Yu S hf))
 have hP:∀b j,Qej (Value.blk S.cv) (i*7) rb (foot c.cond) b j->b=Value.blk S.cv\/(c.lo<=b/\b<c.hi)\/b=rb:=λb j hj=>by
  rcases hj with⟨e,_⟩|hj|e
  ·exact .inl e
  ·exact .inr (.inl (fo.made.2 b hj))
  ·exact .inr (.inr e)
 refine⟨zA,hfl,h.map.same (hc.block mb h.map.lt λj hj=>by rcases hP mb j hj with e|e|e<;>omega),Kr h.bel hc.os hc.tape hc.output hc.size λk hk=>hc.block k (zu h.sz) λj hj=>by rcases hP k j hj with e|e|e<;>omega,le_trans h.sz hc.size,h.num,by rw[JjN];exact h.ivs,h.rows⟩
end
def Qap.names(S:Qap):List (By×Int):=S.funcs.map λf=>(f.name,f.off)
def Qap.fns(S:Qap):List By:=S.funcs.map (·.name)
def Qap.upF(S:Qap):Nat->Qap
 |0=>S
 |i+1=>(S.upF i).setF i (match S.funcs[i]? with|none=>QcL 0 0 [] 0|some f=>QbA S.fns (f.params.map (·.1)) f.body)
def Qap.upC(S:Qap)(fs:List By):Nat->Qap
 |0=>S
 |i+1=>(S.upC fs i).setC i (match S.clauses[i]? with|none=>QcL 0 0 [] 0|some c=>QbA fs [] c.cond)
def JaM(S:Qap)(i k:Nat)(a:An)(h:i≠k):(S.setF i a).funcs[k]?=S.funcs[k]?:=by
 unfold Qap.setF
 cases hf:S.funcs[i]? with
 |none=>rfl
 |some f=>dsimp only;rw[getElem?_set,if_neg h]
def JjO(S:Qap)(i:Nat)(a:An):(S.setF i a).funcs.length=S.funcs.length:=by
 unfold Qap.setF
 cases hf:S.funcs[i]? with
 |none=>rfl
 |some f=>dsimp only;rw[List.length_set]
def JaN(S:Qap)(i k:Nat)(a:An)(h:i≠k):(S.setC i a).clauses[k]?=S.clauses[k]?:=by
 unfold Qap.setC
 cases hf:S.clauses[i]? with
 |none=>rfl
 |some f=>dsimp only;rw[getElem?_set,if_neg h]
def JjP(S:Qap)(i:Nat)(a:An):(S.setC i a).clauses.length=S.clauses.length:=by
 unfold Qap.setC
 cases hf:S.clauses[i]? with
 |none=>rfl
 |some f=>dsimp only;rw[List.length_set]
def JdP(S:Qap):∀i,(S.upF i).funcs.length=S.funcs.length
 |0=>rfl
 |i+1=>by unfold Qap.upF;rw[JjO,JdP S i]
def JdQ(S:Qap):∀i k,i<=k->(S.upF i).funcs[k]?=S.funcs[k]?
 |0,k,_=>rfl
 |i+1,k,h=>by unfold Qap.upF;rw[JaM _ _ _ _ zo,JdQ S i k zo]
def JdR(S:Qap)(fs:List By):∀i,(S.upC fs i).clauses.length=S.clauses.length
 |0=>rfl
 |i+1=>by unfold Qap.upC;rw[JjP,JdR S fs i]
def JdS(S:Qap)(fs:List By):∀i k,i<=k->(S.upC fs i).clauses[k]?=S.clauses[k]?
 |0,k,_=>rfl
 |i+1,k,h=>by unfold Qap.upC;rw[JaN _ _ _ _ zo,JdS S fs i k zo]
def K4(S:Qap):∀i,(S.upF i).clauses=S.clauses/\(S.upF i).action=S.action/\(S.upF i).fv=S.fv/\(S.upF i).cv=S.cv
 |0=>⟨rfl,rfl,rfl,rfl⟩
 |i+1=>K4 S i
def Zr(S:Qap)(fs:List By):∀i,(S.upC fs i).funcs=S.funcs/\(S.upC fs i).action=S.action/\(S.upC fs i).fv=S.fv/\(S.upC fs i).cv=S.cv
 |0=>⟨rfl,rfl,rfl,rfl⟩
 |i+1=>Zr S fs i
def QdH(fs:List By)(l:List FnS):List Int:=(l.map λf=>(resF fs f).2).flatten
def Qeb(fs:List By)(l:List ClS):List Int:=(l.map λc=>(resC fs c).2).flatten
def Jhn(fs:List By)(l:List FnS)(f:FnS):QdH fs (l++[f])=QdH fs l++(Qdk f.params []++(QcQ fs (f.params.map (·.1)) f.body).2):=by simp[QdH,resF]
def Jho(fs:List By)(l:List ClS)(c:ClS):Qeb fs (l++[c])=Qeb fs l++(QcQ fs [] c.cond).2:=by simp[Qeb,resC]
def RsP(w:World)(sb:Nat)(S:Qap)(e:Ending)(w':World):Prop:=
 match QaZ (Qae S.src).2 with
 |none=>e=.returned (.tuple #[])/\Below sb w w'/\∃S':Qap,S'.src=(Qae S.src).1/\QaH w' sb S'
 |some o=>e=.panicked [{v:=Qff 16 o,recovered:=false}]/\Below sb w w'
def Yv(h:QaH W sb S)(hf:S.funcs[i]?=some f):∀j u,f.cells[j]?=some u->W.cell? ⟨Value.blk S.fv,i*10+j,none⟩=some u:=λj u hj=>J0 h.fown (Kq FnA.cells_length S.funcs i j f u hf hj)
def JeU(h:QaH W sb S)(hf:S.clauses[i]?=some c):∀j u,c.cells[j]?=some u->W.cell? ⟨Value.blk S.cv,i*7+j,none⟩=some u:=λj u hj=>J0 h.cown (Kq ClA.cells_length S.clauses i j c u hf hj)
def J1{α:Type}{l:List α}{x:α}(h:l[i]?=some x):l.take (i+1)=l.take i++[x]:=by rw[List.take_add_one,h];rfl
def Jhp(h:S.funcs[i]?=some f):S.fns[i]?=some f.name/\S.names[i]?=some (f.name,f.off):=by
 unfold Qap.fns Qap.names;rw[getElem?_map,getElem?_map,h];exact⟨rfl,rfl⟩
def JcA(S:Qap)(i:Nat):(S.names.take i).map (·.1)=S.fns.take i:=by
 unfold Qap.fns Qap.names;rw[<-map_take,<-map_take,map_map];rfl
def JjQ(h:S.funcs[i]?=some f){k:Nat}(hk:Qal (S.fns.take i) f.name=some k):(λs=>Qal (S.fns.take (i+1)) s)=(λs=>Qal (S.fns.take i) s)/\Qdk (S.names.take (i+1)) []=Qdk (S.names.take i) []++[f.off]:=by
 obtain⟨h1,h2⟩:=Jhp h;rw[J1 h1,J1 h2,Ys]
 have hm:f.name∈S.fns.take i:=by
  have:=Z1 (S.fns.take i) f.name;rw[hk]at this;simpa using this
 refine⟨funext λs=>?_,?_⟩
 ·rw[Z0]
  cases hs:Qal (S.fns.take i) s with
  |some q=>rfl
  |none=>
   dsimp only;rw[if_neg];intro e;rw[<-e,hk]at hs
   cases hs
 ·rw[nil_append,JcA,if_pos hm]
def JjR(h:S.funcs[i]?=some f)(hk:Qal (S.fns.take i) f.name=none):(λs=>Qal (S.fns.take (i+1)) s)=(λs=>if s=f.name then some i else Qal (S.fns.take i) s)/\Qdk (S.names.take (i+1)) []=Qdk (S.names.take i) []:=by
 obtain⟨h1,h2⟩:=Jhp h;have hlt:=(List.getElem?_eq_some_iff.1 h1).1;rw[J1 h1,J1 h2,Ys]
 have hm:f.name∉S.fns.take i:=by
  have:=Z1 (S.fns.take i) f.name;rw[hk]at this;simpa using this
 refine⟨funext λs=>?_,?_⟩
 ·rw[Z0]
  by_cases e:s=f.name
  ·subst e;rw[hk,if_pos rfl,if_pos rfl,List.length_take,Nat.min_eq_left zo]
  ·rw[if_neg e]
   cases hs:Qal (S.fns.take i) s with
   |some q=>rfl
   |none=>dsimp only;rw[if_neg λh=>e h.symm]
 ·rw[nil_append,JcA,if_neg hm,List.append_nil]
def QfF(l:List By):List Value:=l.map λs=>Sv s
def JjS(l:List By)(x:By):QfF (l++[x])=QfF l++[Sv x]:=by simp[QfF]
def JnB{a b:By}(h:bs a=bs b):a=b:=by have:=congrArg (λx:ByteArray=>x.data.toList) h;simpa[V5] using this
def Y9(l:List By)(x:By):Lib.containsS (l.map bs) (bs x)=decide (x∈l):=by
 rw[Bool.eq_iff_iff,Lib.containsS_iff,decide_eq_true_eq,List.mem_map]
 constructor
 ·rintro⟨a,ha,e⟩;rw[<-JnB e];exact ha
 ·intro h;exact⟨x,h,rfl⟩
def Za{l:List By}(hn:l.length=n)(h:W.ownsRow base 9 1 v n (QfF l))(hl:n<=1000000000)(x:By):Calls prog 97 #[v,Sv x] W λe w'=>e=.returned (.bool (decide (x∈l)))/\w'=W:=by
 subst hn
 rcases h.2 with⟨rfl,h0⟩|⟨g,cap,cur,rfl,hg,EC,r⟩
 ·obtain rfl:=List.eq_nil_of_length_eq_zero h0;exact Tryz.slices_Contains_string_empty none 0 (bs x) W
 ·refine(Tryz.slices_Contains_string g 0 l.length cap (l.map bs) (bs x) W zq zo λj hj=>?_).mono λe w' hh=>?_
  ·have xA:j<l.length:=by simpa using hj
   have h1:(QfF l)[j]?=some (.string (bs l[j])):=by unfold QfF;rw[getElem?_map,List.getElem?_eq_getElem xA];rfl
   have:=J0 h h1;rw[Nat.zero_add];rw[show (l.map bs).getD j ByteArray.empty=bs l[j] by simp[xA]];exact this
  ·rw[take_of_length_le zq,Y9]at hh;exact hh
def JjT{l:List By}(hn:l.length=n)(h:W.ownsRow base 9 1 v n (QfF l))(h0:n=0->v=Nl):QcO W v l (Value.blk v):=by
 subst hn
 by_cases hl:l=[]
 ·subst hl;exact⟨none,0,h0 rfl,⟨le_refl _,λ_=>⟨rfl,rfl⟩⟩,λhne=>absurd rfl hne⟩
 ·have xA:0<l.length:=List.length_pos_iff.2 hl
  rcases h.2 with⟨_,e⟩|⟨g,cap,cur,rfl,hg,EC,hc,r⟩
  ·omega
  ·refine⟨_,_,rfl,⟨hc,λe=>absurd e hl⟩,λ_=>⟨rfl,λi s hs=>?_⟩⟩;exact J0 h (by unfold QfF;rw[getElem?_map,hs];rfl)
def Rz.chg{f:By->Option Nat}{L:List Nat}(h:Rz w W sb S mb rb mn f x)(hc:Chg L W W')(hL:∀b∈L,rb<b):Rz w W' sb S mb rb mn f x:=by
 obtain⟨n1,n2,n3⟩:=h.num;exact⟨h.ok.far hc λb hb=>h.far b (zu (hL b hb)),hc.heap_some (λhm=>by have:=hL rb hm;omega) h.flt,h.map.keep hc λhm=>by have:=hL mb hm;omega,Kr h.bel hc.os hc.tape hc.output hc.size λk hk=>hc.block k (zu h.sz) λhm=>by have:=hL k hm;omega,Nat.le_trans h.sz hc.size,h.num,h.ivs,h.rows⟩
def Jhq{l:List (By×Int)}(h:W.ownsRow base 144 2 v n (QbQ l)){j:Nat}{p:By×Int}(hp:l[j]?=some p):W.cell? ⟨Value.blk v,j*2,none⟩=some (.string (bs p.1))/\W.cell? ⟨Value.blk v,j*2+1,none⟩=some (Iv p.2):=by
 have hg:=λk u hk=>J0 h (Kq (cells:=λx:By×Int=>[Value.string (bs x.1),Iv x.2]) (size:=2) (λ_=>rfl) l j k p u hp hk)
 exact⟨hg 0 _ rfl,hg 1 _ rfl⟩
def JlV(S:Qap)(h:S.funcs[i]?=some f):S.src.funcs[i]?=some f.src:=by unfold Qap.src;dsimp only;rw[getElem?_map,h];rfl
def Jle(S:Qap){k:Nat}{f:FnA}(hf:S.funcs[k]?=some f):∀i,k<i->(S.upF i).funcs[k]?=some {f with body:=QbA S.fns (f.params.map (·.1)) f.body}
 |0,h=>by omega
 |i+1,h=>by
  unfold Qap.upF
  by_cases hk:k=i
  ·subst hk;have:=JdQ S k k zP;unfold Qap.setF;rw[this,hf];dsimp only;rw[getElem?_set,if_pos rfl,if_pos (by rw[JdP];exact(List.getElem?_eq_some_iff.1 hf).1)]
  ·rw[JaM _ _ _ _ λe=>hk e.symm];exact Jle S hf i zo
def Jlf(S:Qap)(fs:List By){k:Nat}{c:ClA}(hf:S.clauses[k]?=some c):∀i,k<i->(S.upC fs i).clauses[k]?=some {c with cond:=QbA fs [] c.cond}
 |0,h=>by omega
 |i+1,h=>by
  unfold Qap.upC
  by_cases hk:k=i
  ·subst hk;have:=JdS S fs k k zP;unfold Qap.setC;rw[this,hf];dsimp only;rw[getElem?_set,if_pos rfl,if_pos (by rw[JdR];exact(List.getElem?_eq_some_iff.1 hf).1)]
  ·rw[JaN _ _ _ _ λe=>hk e.symm];exact Jlf S fs hf i zo
def JdT(S:Qap):S.src.funcs.map (·.name.1)=S.fns/\S.src.funcs.map (·.name)=S.names:=by
 unfold Qap.src Qap.fns Qap.names;simp only[map_map];exact⟨rfl,rfl⟩
def JlW(S:Qap):((S.upF S.funcs.length).upC S.fns S.clauses.length).src=(Qae S.src).1:=by
 have hc:(S.upF S.funcs.length).clauses=S.clauses:=(K4 S _).1
 have h1:((S.upF S.funcs.length).upC S.fns S.clauses.length).funcs.map FnA.src=(S.src.funcs.map (resF S.fns)).map (·.1):=by
  rw[(Zr _ _ _).1];refine List.ext_getElem? λk=>?_
  rw[getElem?_map,getElem?_map,getElem?_map]
  show _=Option.map _ (Option.map _ ((S.funcs.map FnA.src)[k]?))
  rw[getElem?_map]
  cases hk:S.funcs[k]? with
  |none=>
   rw[List.getElem?_eq_none (by rw[JdP];exact List.getElem?_eq_none_iff.1 hk)];rfl
  |some f=>
   rw[Jle S hk _ (List.getElem?_eq_some_iff.1 hk).1];simp[FnA.src,resF,ZY]
 have h2:((S.upF S.funcs.length).upC S.fns S.clauses.length).clauses.map ClA.src=(S.src.clauses.map (resC S.fns)).map (·.1):=by
  refine List.ext_getElem? λk=>?_
  rw[getElem?_map,getElem?_map,getElem?_map]
  show _=Option.map _ (Option.map _ ((S.clauses.map ClA.src)[k]?))
  rw[getElem?_map]
  cases hk:S.clauses[k]? with
  |none=>
   rw[List.getElem?_eq_none (by rw[JdR,hc];exact List.getElem?_eq_none_iff.1 hk)];rfl
  |some c=>
   rw[Jlf _ S.fns (by rw[hc];exact hk) _ (List.getElem?_eq_some_iff.1 hk).1];simp[ClA.src,resC,ZY]
 unfold Qae;rw[(JdT S).1]
 show Src.mk _ _ _=_
 rw[h1,h2,(Zr _ _ _).2.1,(K4 S _).2.1];rfl
def JjU(S:Qap):QaG (QaG (QaG none (Qdk S.names [])) (QdH S.fns S.src.funcs)) (Qeb S.fns S.src.clauses)=QaZ (Qae S.src).2:=by
 rw[<-Jw,<-Jw,JaJ];unfold Qae;rw[(JdT S).1,(JdT S).2];simp only[QdH,Qeb,map_map,List.append_assoc];rfl
def JlX(S:Qap)(h:S.clauses[i]?=some c):S.src.clauses[i]?=some c.src:=by unfold Qap.src;dsimp only;rw[getElem?_map,h];rfl
def QeO:(prog.info? 9).map (λi=>(i.zero,i.size,i.bytes))=some (some Em,1,16):=zk
def Qka{P:Prop}(h:P:=by
  refine hK.out _ _ trivial (λhH=>?_);clear hK K
  try simp only[Act.put,ZA,ZB,ZC]
  refine ZS 8 rfl (λK hK=>?_);obtain⟨w5,hrun,PH,S4⟩:=I5.o.map.upd (by unfold maxLen;omega) hnl (v:=i) (by omega);replace I5:=Zh (I5.o.put PH S4);clear PH S4;go_simp;clear hrun;refine hK.out _ _ trivial (λhH=>?_);clear hK K
  try simp only[Act.put,ZA,ZB,ZC]
  refine wpAnyH_done (by kernel_rfl) ?_ _;have m9:Hi (Rz w w5 sb S mb rb (mn+1) (λs=>Qal (S.fns.take (i+1)) s) (QaG none (Qdk (S.names.take (i+1)) []))):=by rw[HQ.o.1,HQ.o.2];exact I5.o
  clear I5 Q5;go_wp2;go_roundg (S.funcs.length-(i+1))
  case measure=>have:=HG.o;omega
  case rel=>exact⟨i+1,mn+1,by omega,by omega,by go_num,m9⟩):P:=h
def QjZ{P:Prop}(h:P:=by
  intro v' w' Q0 hgrow _;have IC:=Zh (HZ.o.chg (JP hgrow) (λb hb=>by have:=(HOW.o.lt b (by simpa using hb)).1;have:=m8.o.1;omega));have jG:Hi (w'.ownsRow wm.heap.size 9 1 v' (j+1) (QfF ((fn.params.take (j+1)).map (·.1)))):=by rw[Hi,i7.o,List.map_append,List.map_cons,List.map_nil,JjS];rw[<-List.map_take]at Q0;exact Q0
  have HW7:Hi (rb<wm.heap.size/\wm.heap.size<=w'.heap.size):=⟨m8.o.1,by have h1:=m8.o.2;have h2:=hgrow.size;rw[World.size_alloc]at h2;omega⟩
  clear Q0 hgrow HZ HOW m8 n0 A0;go_wp2;go_roundg (fn.params.length-(j+1))
  case measure=>have:=U9.o;omega
  case rel=>exact⟨j+1,by omega,by go_num,jG,λe=>by omega,IC,HW7⟩):P:=h
def JdU(w:World)(sb:Nat)(S:Qap)(h:QaH w sb S)(h1:S.funcs.length<=100000000)(h2:S.clauses.length<=100000000)
  (h3:∀f∈S.funcs,WfN f.body.nd/\siz f.body.nd<=100000000/\f.name.length<=1000000/\f.params.length<=100000000) (h4:∀c∈S.clauses,WfN c.cond.nd/\siz c.cond.nd<=100000000):Calls prog 36 #[Pt sb] w (RsP w sb S):=by
 obtain⟨R,hR⟩:=yt (RsP w sb S)
 rw[hR];have HR:Hi (R=RsP w sb S):=hR.symm;obtain⟨fa,fc,eB,mB⟩:=Vr h.fown;obtain⟨ca,cc,sB,nB⟩:=Vr h.cown;have jC:=@run_makeMap prog
 have bA:Hi (Rz w ((w.alloc (.map #[] 0)).alloc (.cells #[.bool false,Iv 0,.map (some w.heap.size)] 163)) sb S w.heap.size (w.heap.size+1) 0 (λs=>Qal (S.fns.take 0) s) (QaG none (Qdk (S.names.take 0) []))):=by
  have hb:yr w ((w.alloc (.map #[] 0)).alloc (.cells #[.bool false,Iv 0,.map (some w.heap.size)] 163)):=(zO.alloc zP _).alloc zq _;have hn:=zQ (w.alloc (.map #[] 0)) (.cells #[.bool false,Iv 0,.map (some w.heap.size)] 163);rw[World.size_alloc]at hn;have dC:=Jb h.box;exact⟨h.on (Chg.of_below hb []) zq,hn,(Qbh.new w).same (heap_alloc_old _ _ zq),⟨hb.os,hb.tape,hb.output,hb.size,λk hk=>hb.block k zo⟩,hb.size,⟨le_refl _,Nat.lt_succ_self _,dC⟩,λiv hi=>(h.ivs iv hi).2.2,λg hg=>(h.fown.lt g hg).2,λg hg=>(h.cown.lt g hg).2⟩
 have yC:=Zh eB;have E6:=Zh sB;have dB:=Zh mB;have rB:=Zh nB;have H3:=Zh h3;have H4:=Zh h4;have b0:((w.alloc (.map #[] 0)).alloc (.cells #[.bool false,Iv 0,.map (some w.heap.size)] 163)).cell? ⟨sb,0,none⟩=some (.slice fa S.funcs.length fc):=by rw[Ja bA.o.ok.box];rw[eB];rfl
 clear hR eB sB mB nB h h3 h4;go_enter func36,ntmps36;go_wp2_with fail;clear b0;generalize World.alloc (World.alloc w _) _=w0 at*;generalize w.heap.size+1=rb at*;generalize w.heap.size=mb at*;go_loopg [21] S.funcs.length λg v21 wr=>∃i mn:Nat,g+i=S.funcs.length/\mn<=i/\v21=Iv i/\Hi (Rz w wr sb S mb rb mn (λs=>Qal (S.fns.take i) s) (QaG none (Qdk (S.names.take i) [])))
 case atStart=>exact⟨0,0,rfl,le_refl _,rfl,bA⟩
 case round=>
 clear bA;obtain⟨wl,rfl⟩:=zJ wr;obtain⟨i,mn,hg,bC,rfl,hz⟩:=hrel
 by_cases hi:i<S.funcs.length
 ·have hil:(i:Int)<(S.funcs.length:Int):=zo;obtain⟨fn,vA⟩:∃fn,S.funcs[i]?=some fn:=⟨S.funcs[i],List.getElem?_eq_getElem hi⟩
  have hmem:=mem_of_getElem? vA;have iA:=dB.o zo;obtain⟨fo,_,_⟩:=hz.o.ok.fok fn hmem;have hnl:=(H3.o fn hmem).2.2.1;have hcl:=Yv hz.o.ok vA;have kA:=Zh vA;obtain⟨nm,of,ps,ts,res,b,pv,tv,hC,gC⟩:=fn;obtain⟨pa,pn,pc,mA⟩:=Jk fo.pown;obtain⟨ta,tn,tc,zC⟩:=Jk fo.town;dsimp only at mA zC hnl;subst mA zC;obtain⟨yA,yn,yc,Q4⟩:=Jg b;simp only[FnA.cells,Q4,List.cons_append,nil_append]at hcl;have c0:=hcl 0 _ rfl;have c1:=hcl 1 _ rfl;have c2:=hcl 2 _ rfl;have c3:=hcl 3 _ rfl;have c4:=hcl 4 _ rfl;have c5:=hcl 5 _ rfl;have c6:=hcl 6 _ rfl;have c7:=hcl 7 _ rfl;have c8:=hcl 8 _ rfl;have c9:=hcl 9 _ rfl;simp only[Nat.add_zero]at c0;have wk:=zI i;have nA:Hi (Rz w (wl.alloc (.cells ([Sv nm,Iv of,.slice pa pn pc,.slice ta tn tc,Iv res,Iv b.kind,Iv b.num,Sv b.name,Iv b.off,.slice yA yn yc]).toArray 147)) sb S mb rb mn (λs=>Qal (S.fns.take i) s) (QaG none (Qdk (S.names.take i) []))):=hz.o.up (zO.alloc zP _);have A0:=Zh (zQ wl (.cells ([Sv nm,Iv of,.slice pa pn pc,.slice ta tn tc,Iv res,Iv b.kind,Iv b.num,Sv b.name,Iv b.off,.slice yA yn yc]).toArray 147));have HG:=Zh hg;subst iA;clear hcl vA hmem fo hz hg Q4;go_upto_region 4 with fail;clear c0 c1 c2 c3 c4 c5 c6 c7 c8 c9;generalize World.alloc wl _=w1 at*;generalize wl.heap.size=cb at*;have n0:=Ja A0.o 0;have r2:=Ja nA.o.flt 2;simp only[zW]at n0 r2;have dA:=nA.o.map.look hnl;have zA:=(nA.o.map.same (w':=w1.drew) rfl).look hnl;have vB:yr w1 w1.drew:=(Below.refl w1.heap.size w1).drew;have I5:=Zh (nA.o.up vB);have Q5:=Zh ((vB.block _ (Jb A0.o)).trans A0.o);clear vB nA
  cases hfi:Qal (S.fns.take i) nm with
  |some kx=>
   rw[hfi]at dA zA;simp only[Option.getD,Option.isSome]at dA zA;obtain⟨q1,q2⟩:=JjQ kA.o hfi;have HQ:=Zh (And.intro q1 q2);clear hfi q1 q2;go_upto_region 4 with fail;go_region;go_upto_region 6 with fail;clear n0 r2 dA zA;generalize w1.drew=w2 at*;refine wp_region_held_drew (S:=λ_=>True) zk (trivial) λhH=>?_;replace I5:=Zh (I5.o.up (Below.refl w2.heap.size w2).drew);replace Q5:=Zh ((((Below.refl w2.heap.size w2).drew).block _ (Jb Q5.o)).trans Q5.o);generalize w2.drew=w3 at*;refine zK 0 ?_
   refine zK 1 ?_;refine zK 2 ?_;refine zK 3 ?_;refine zK 4 ?_;try simp only[zX]
   refine ZS 5 rfl λK hK=>?_;have n1:=Ja Q5.o 1;simp only[zW]at n1;go_simp;clear n1;refine zU hK trivial λhH=>?_;clear hK K
   try simp only[zX]
   refine ZS 6 rfl λK hK=>?_
   (go_simp;go_at_call 96;refine(V7 _ rb 163 _ (.map (some mb)) of I5.o.flt).mono ?_;intro e w4 h4)
   have hst:=I5.o.add h4;obtain rfl:=h4.1;replace I5:=Zh hst;clear h4 hst;refine zU hK trivial λhH=>?_;clear hK K
   try simp only[zX]
   refine wpAnyH_done zk ?_ _;have m9:Hi (Rz w w4 sb S mb rb mn (λs=>Qal (S.fns.take (i+1)) s) (QaG none (Qdk (S.names.take (i+1)) []))):=by rw[HQ.o.1,HQ.o.2,Jw];exact I5.o
   clear I5 Q5;go_wp2;go_roundg (S.funcs.length-(i+1))
   case measure=>have:=HG.o;omega
   case rel=>exact⟨i+1,mn,by omega,by omega,by go_num,m9⟩
  |none=>
   rw[hfi]at dA zA;simp only[Option.getD,Option.isSome]at dA zA;obtain⟨q1,q2⟩:=JjR kA.o hfi;have HQ:=Zh (And.intro q1 q2);clear hfi q1 q2;go_upto_region 4 with fail;go_region;go_upto_region 7 with fail;clear n0 r2 dA zA;generalize w1.drew=w2 at*;refine wp_region_held_drew (S:=λ_=>True) zk (trivial) λhH=>?_;replace I5:=Zh (I5.o.up (Below.refl w2.heap.size w2).drew);replace Q5:=Zh ((((Below.refl w2.heap.size w2).drew).block _ (Jb Q5.o)).trans Q5.o);generalize w2.drew=w3 at*;refine zK 0 ?_
   refine zK 1 ?_;refine zK 2 ?_;refine zK 4 ?_;refine zK 5 ?_;refine zK 7 ?_;try simp only[zX]
   refine ZR (rs:=[3,6]) (AllReadyH.cons rfl (λK hK=>?_) (AllReadyH.cons rfl (λK hK=>?_) AllReadyH.nil))
   ·have r2:=Ja I5.o.flt 2;simp only[zW]at r2;go_simp;clear r2;refine zU hK trivial λhH=>?_;clear hK K
    try simp only[zX]
    refine ZS 6 rfl λK hK=>?_;have n0:=Ja Q5.o 0;simp only[zW]at n0;go_simp;clear n0;exact Qka
   ·have n0:=Ja Q5.o 0;simp only[zW]at n0;go_simp;clear n0;refine zU hK trivial λhH=>?_;clear hK K
    try simp only[zX]
    refine ZS 3 rfl λK hK=>?_;have r2:=Ja I5.o.flt 2;simp only[zW]at r2;go_simp;clear r2;exact Qka
 ·have hil:¬(i:Int)<(S.funcs.length:Int):=zo;obtain rfl:i=S.funcs.length:=zo;have MB:S.fns.take S.funcs.length=S.fns:=take_of_length_le (by simp[Qap.fns]);have D8:S.names.take S.funcs.length=S.names:=take_of_length_le (by simp[Qap.names]);have xA:=hz.o;rw[MB,D8]at xA;obtain⟨X0,bB⟩:=yt (QaG none (Qdk S.names []))
  rw[bB]at xA;have C4:=Zh bB;have bA:Hi (Rz w wl sb (S.upF 0) mb rb mn (λs=>Qal S.fns s) (QaG X0 (QdH S.fns (S.src.funcs.take 0)))):=Zh (by simpa[Qap.upF,QdH,QaG] using xA);have b0:wl.cell? ⟨sb,0,none⟩=some (.slice fa S.funcs.length fc):=by rw[Ja xA.ok.box,yC.o];rfl
  clear hi hg bC hz xA MB D8 bB;go_wp2_with fail;clear b0;go_loopg [59] S.funcs.length λg v59 wr=>∃i:Nat,g+i=S.funcs.length/\v59=Iv i/\Hi (Rz w wr sb (S.upF i) mb rb mn (λs=>Qal S.fns s) (QaG X0 (QdH S.fns (S.src.funcs.take i))))
  case atStart=>exact⟨0,rfl,rfl,bA⟩
  case round=>
  clear bA hil;obtain⟨wm,rfl⟩:=zJ wr;obtain⟨i,hg,rfl,hz⟩:=hrel
  by_cases hi:i<S.funcs.length
  ·have hil:(i:Int)<(S.funcs.length:Int):=zo;obtain⟨fn,vA⟩:∃fn,S.funcs[i]?=some fn:=⟨S.funcs[i],List.getElem?_eq_getElem hi⟩
   have qA:(S.upF i).funcs[i]?=some fn:=(JdQ S i i zP).trans vA;obtain⟨hwf,hsz,hnl,iC⟩:=H3.o fn (mem_of_getElem? vA);have R0:=hz.o.ok.box;rw[(K4 S i).2.2.1,yC.o]at R0;have b0:=Ja R0 0;simp only[List.getElem?_toArray,List.getElem?_cons_zero]at b0;have hcl:=Yv hz.o.ok qA;rw[(K4 S i).2.2.1]at hcl;obtain⟨fo,_,_⟩:=hz.o.ok.fok fn (mem_of_getElem? qA);obtain⟨pa,pc,mA,aC⟩:=Vr fo.pown;have c2:=hcl 2 fn.pv rfl;rw[mA]at c2;have iA:=dB.o zo;have kB:=Zh qA;have kA:=Zh vA;have jB:=Zh aC;have tB:=Zh hwf;have HG:=Zh hg;have wk:=zI i;obtain⟨X1,sA⟩:=yt (QaG X0 (QdH S.fns (S.src.funcs.take i)))
   have B0:=Zh sA;have HZ:=Zh hz.o;rw[sA]at HZ;have uB:Hi (Rz w wm sb (S.upF i) mb rb mn (λs=>Qal S.fns s) (QaG X1 (Qdk (fn.params.take 0) []))):=Zh (by simpa[Qdk,QaG] using HZ.o);subst iA;clear R0 hcl fo mA aC qA vA hwf hg sA hz HZ;go_wp2_with fail;clear b0 c2;go_loopg [73,9] fn.params.length λg v73 v9 wr=>∃j:Nat,g+j=fn.params.length/\v73=Iv j/\Hi (wr.ownsRow wm.heap.size 9 1 v9 j (QfF ((fn.params.take j).map (·.1))))/\Hi (j=0->v9=Nl)/\Hi (Rz w wr sb (S.upF i) mb rb mn (λs=>Qal S.fns s) (QaG X1 (Qdk (fn.params.take j) [])))/\Hi (rb<wm.heap.size/\wm.heap.size<=wr.heap.size)
   case atStart=>exact⟨0,rfl,rfl,World.ownsRow_nil _ _ _ _,λ_=>rfl,uB,Jb uB.o.flt,le_refl _⟩
   case round=>
   clear uB;obtain⟨wi,rfl⟩:=zJ wr;obtain⟨j,hg,rfl,ho,iB,hz,A2⟩:=hrel;obtain⟨va,vn,vc,rA⟩:=Jk ho.o;subst rA
   by_cases hj:j<fn.params.length
   ·have pB:(j:Int)<(fn.params.length:Int):=zo;obtain⟨p,hp⟩:∃p,fn.params[j]?=some p:=⟨fn.params[j],List.getElem?_eq_getElem hj⟩
    have hB:=jB.o zo;obtain⟨uC,_,_⟩:=hz.o.ok.fok fn (mem_of_getElem? kB.o);obtain⟨d0,d1⟩:=Jhq uC.pown hp;have gA:((fn.params.take j).map (·.1)).length=j:=zr;have eC:=zI j;have xC:fn.params.take (j+1)=fn.params.take j++[p]:=J1 hp;obtain⟨cA,eA⟩:=p;dsimp only at d0 d1;have i7:=Zh xC;have U9:=Zh hg;have HOW:=Zh (ho.o.alloc (.cells #[Sv cA,Iv eA] 144));have HZ:=Zh (hz.o.up ((Below.refl wi.heap.size wi).alloc zP (.cells #[Sv cA,Iv eA] 144)));have A0:=Zh (zQ wi (.cells #[Sv cA,Iv eA] 144));have m8:Hi (rb<wm.heap.size/\wm.heap.size<=(wi.alloc (.cells #[Sv cA,Iv eA] 144)).heap.size):=⟨A2.o.1,by rw[World.size_alloc];have:=A2.o.2;omega⟩
    have M5:Hi (rb<wi.heap.size):=Nat.lt_of_lt_of_le A2.o.1 A2.o.2;subst hB;clear hp xC hg ho hz uC iB A2 jB;go_wp2_with fail;clear d0 d1;generalize World.alloc wi _=w4 at*;generalize wi.heap.size=cb at*
    by_cases hm:cA∈(fn.params.take j).map (·.1)
    ·have cx:=Za gA HOW.o zo cA;rw[zG hm]at cx;have HD:Hi (Qdk (fn.params.take (j+1)) []=Qdk (fn.params.take j) []++[eA]):=by rw[Hi,i7.o,Ys,nil_append,if_pos hm]
     refine cx.mono ?_;rintro e w5 ⟨rfl,zB⟩;obtain rfl:w4=w5:=zB.symm;clear cx hm;go_upto_region 18 with fail;refine wp_region_held_drew (S:=λ_=>True) zk (trivial) λhH=>?_;have hD:yr w4 w4.drew:=(Below.refl w4.heap.size w4).drew;replace HZ:=Zh (HZ.o.up hD);replace A0:=Zh ((hD.block _ (Jb A0.o)).trans A0.o);replace HOW:=Zh (Jhe HOW.o hD);replace m8:Hi (rb<wm.heap.size/\wm.heap.size<=w4.drew.heap.size):=m8.o;clear hD;generalize w4.drew=w6 at*;refine zK 0 ?_
     refine zK 1 ?_;refine zK 2 ?_;refine zK 3 ?_;try simp only[zX]
     refine ZS 4 rfl λK hK=>?_;have n1:=Ja A0.o 1;simp only[zW]at n1;go_simp;clear n1;refine zU hK trivial λhH=>?_;clear hK K
     try simp only[zX]
     refine ZS 5 rfl λK hK=>?_
     (go_simp;go_at_call 96;refine(V7 _ rb 163 _ (.map (some mb)) eA HZ.o.flt).mono ?_;intro e w7 h7)
     have hst:=HZ.o.add h7;have aA:=h7.2.2;obtain rfl:=h7.1;replace A0:=Zh (aA.heap_some (by have:=M5.o;simp;omega) A0.o);replace HOW:=Zh (JA HOW.o aA (by have:=m8.o.1;simp;omega));replace m8:Hi (rb<wm.heap.size/\wm.heap.size<=w7.heap.size):=⟨m8.o.1,Nat.le_trans m8.o.2 aA.size⟩
     rw[<-Jw,<-HD.o]at hst;replace HZ:=Zh hst;clear h7 hst aA;refine zU hK trivial λhH=>?_;clear hK K
     try simp only[zX]
     refine wpAnyH_done zk ?_ _;have n0:=Ja A0.o 0;simp only[List.getElem?_toArray,List.getElem?_cons_zero]at n0;obtain⟨i0,hi,tA,gB,xA⟩:=info_parts QeO;have HI:=Zh hi;clear hi;go_wp2_with (at_builtin;refine wpList_append_own _ rfl _ _ 43 rfl wm.heap.size 9 i0 Em 1 16 underlying43 HI.o tA gB xA rfl zp _ _ _ rfl (HOW.o.alloc _) ⟨w7.heap.size,0,none⟩ 1 1 [Sv cA] rfl rfl ?c1 ?c2 ?c3 ?c4 ?c5 ?_)
     case c1=>
      intro k u hk;rw[K3];simpa using hk
     case c2=>intro u hu;simp at hu;subst hu;rfl
     case c3=>unfold maxLen;omega
     case c4=>omega
     case c5=>have:=m8.o.2;rw[World.size_alloc];omega
     exact QjZ
    ·have cx:=Za gA HOW.o zo cA;rw[zH hm]at cx;have HD:Hi (Qdk (fn.params.take (j+1)) []=Qdk (fn.params.take j) []):=by rw[Hi,i7.o,Ys,nil_append,if_neg hm,List.append_nil]
     refine cx.mono ?_;rintro e w5 ⟨rfl,zB⟩;obtain rfl:w4=w5:=zB.symm;clear cx hm;rw[<-HD.o]at HZ;have n0:=Ja A0.o 0;simp only[List.getElem?_toArray,List.getElem?_cons_zero]at n0;obtain⟨i0,hi,tA,gB,xA⟩:=info_parts QeO;have HI:=Zh hi;clear hi;go_wp2_with (at_builtin;refine wpList_append_own _ rfl _ _ 43 rfl wm.heap.size 9 i0 Em 1 16 underlying43 HI.o tA gB xA rfl zp _ _ _ rfl (HOW.o.alloc _) ⟨w4.heap.size,0,none⟩ 1 1 [Sv cA] rfl rfl ?c1 ?c2 ?c3 ?c4 ?c5 ?_)
     case c1=>
      intro k u hk;rw[K3];simpa using hk
     case c2=>intro u hu;simp at hu;subst hu;rfl
     case c3=>unfold maxLen;omega
     case c4=>omega
     case c5=>have:=m8.o.2;rw[World.size_alloc];omega
     exact QjZ
   ·have pB:¬(j:Int)<(fn.params.length:Int):=zo;obtain rfl:j=fn.params.length:=zo;have jA:=ho.o;rw[List.take_length]at jA;have pA:=hz.o;rw[List.take_length]at pA;have rA:=JjT (l:=fn.params.map (·.1)) zq jA iB.o
    have vC:fn.params.map (·.1)≠[]->rb<Value.blk (.slice va vn vc):=λhne=>by
     have yB:0<fn.params.length:=by have:=List.length_pos_iff.2 hne;simpa using this
     have:=(jA.lt _ (Vz jA yB)).1;have:=A2.o.1;omega
    have hp:=pA.preF (fs:=S.fns) kB.o rA vC tB.o;rw[(K4 S i).2.2.1]at hp;have cn:=Jbz S.fns rb 163 mb mn (by simp[Qap.fns];omega) (siz fn.body.nd) fn.body (fn.params.map (·.1)) _ _ _ _ _ wi zP zr hp;have m9:=Zh pA;have D2:=Zh λe W' hr=>m9.o.resF (M0:=fn.params.map (·.1)) (e:=e) (W':=W') kB.o hr;rw[(K4 S i).2.2.1]at D2;clear hj pB hg jB ho jA iB hz pA A2 hp rA vC tB m9;go_wp2_with fail;refine cn.mono ?_;intro e w8 hr;have hst:=D2.o _ _ hr;obtain rfl:=hr.1
    have BB:Hi (Rz w w8 sb (S.upF (i+1)) mb rb mn (λs=>Qal S.fns s) (QaG X0 (QdH S.fns (S.src.funcs.take (i+1))))):=by
     rw[Hi,J1 (JlV S kA.o),Jhn,Jw,Jw,B0.o];have e1:S.upF (i+1)=(S.upF i).setF i (QbA S.fns (fn.params.map (·.1)) fn.body):=by show (S.upF i).setF i _=_;rw[kA.o]
     rw[e1];exact hst
    clear hst hr cn D2 B0;go_wp2;go_roundg (S.funcs.length-(i+1))
    case measure=>have:=HG.o;omega
    case rel=>exact⟨i+1,by omega,by go_num,BB⟩
  ·have hil:¬(i:Int)<(S.funcs.length:Int):=zo;obtain rfl:i=S.funcs.length:=zo;have ht:S.src.funcs.take S.funcs.length=S.src.funcs:=take_of_length_le (by simp[Qap.src]);have xA:=hz.o;rw[ht]at xA;obtain⟨X2,xB⟩:=yt (QaG X0 (QdH S.fns S.src.funcs))
   rw[xB]at xA;have L3:=Zh xB;have cB:=K4 S S.funcs.length;obtain⟨S2,F9⟩:=yt (S.upF S.funcs.length)
   rw[F9]at xA cB;have qB:=Zh F9;have hA:=Zh cB;have bA:Hi (Rz w wm sb (S2.upC S.fns 0) mb rb mn (λs=>Qal S.fns s) (QaG X2 (Qeb S.fns (S.src.clauses.take 0)))):=Zh (by simpa[Qap.upC,Qeb,QaG] using xA);have R0:=xA.ok.box;rw[hA.o.2.2.2,E6.o]at R0;have b1:=Ja R0 1;simp only[zW]at b1;clear hi hg hz xA ht xB F9 cB R0 H3;go_wp2_with fail;clear b1;go_loopg [105] S.clauses.length λg v105 wr=>∃i:Nat,g+i=S.clauses.length/\v105=Iv i/\Hi (Rz w wr sb (S2.upC S.fns i) mb rb mn (λs=>Qal S.fns s) (QaG X2 (Qeb S.fns (S.src.clauses.take i))))
   case atStart=>exact⟨0,rfl,rfl,bA⟩
   case round=>
   clear bA hil;obtain⟨wc,rfl⟩:=zJ wr;obtain⟨i,hg,rfl,hz⟩:=hrel
   by_cases hi:i<S.clauses.length
   ·have hil:(i:Int)<(S.clauses.length:Int):=zo;obtain⟨c,aA⟩:∃c,S.clauses[i]?=some c:=⟨S.clauses[i],List.getElem?_eq_getElem hi⟩
    have aB:(S2.upC S.fns i).clauses[i]?=some c:=(JdS S2 S.fns i i zP).trans (by rw[hA.o.1];exact aA);obtain⟨hwf,hsz⟩:=H4.o c (mem_of_getElem? aA);have uA:(S2.upC S.fns i).cv=S.cv:=(Zr S2 S.fns i).2.2.2.trans hA.o.2.2.2;have R0:=hz.o.ok.box;rw[uA,E6.o]at R0;have b1:=Ja R0 1;simp only[zW]at b1;have iA:=rB.o zo;have hp:=hz.o.preC (fs:=S.fns) aB hwf;rw[uA]at hp;have cn:=Jbz S.fns rb 163 mb mn (by simp[Qap.fns];omega) (siz c.cond.nd) c.cond [] Nl 0 _ _ _ wc zP zr hp;have D2:=Zh λe W' hr=>hz.o.resC (M0:=[]) (e:=e) (W':=W') aB hr;rw[uA]at D2;have Q1:=Zh aA;have HG:=Zh hg;have wk:=zI i;subst iA;clear R0 uA aB hwf hsz aA hp hg hz;go_wp2_with fail;refine cn.mono ?_;intro e w8 hr;have hst:=D2.o _ _ hr;obtain rfl:=hr.1
    have BB:Hi (Rz w w8 sb (S2.upC S.fns (i+1)) mb rb mn (λs=>Qal S.fns s) (QaG X2 (Qeb S.fns (S.src.clauses.take (i+1))))):=by
     rw[Hi,J1 (JlX S Q1.o),Jho,Jw];have e1:S2.upC S.fns (i+1)=(S2.upC S.fns i).setC i (QbA S.fns [] c.cond):=by show (S2.upC S.fns i).setC i _=_;rw[hA.o.1,Q1.o]
     rw[e1];exact hst
    clear hst hr cn D2 b1;go_wp2;go_roundg (S.clauses.length-(i+1))
    case measure=>have:=HG.o;omega
    case rel=>exact⟨i+1,by omega,by go_num,BB⟩
   ·have hil:¬(i:Int)<(S.clauses.length:Int):=zo;obtain rfl:i=S.clauses.length:=zo;have ht:S.src.clauses.take S.clauses.length=S.src.clauses:=take_of_length_le (by simp[Qap.src]);have xA:=hz.o;rw[ht,<-L3.o,<-C4.o,JjU,<-qB.o]at xA;have HS:=Zh (JlW S);have HZ:=Zh xA;have r0:=Ja HZ.o.flt 0;have r1:=Ja HZ.o.flt 1;simp only[zW]at r0 r1;clear hi hg hz xA ht L3 C4 qB hA rB dB H4
    cases hL:QaZ (Qae S.src).2 with
    |none=>
     rw[hL]at r0 r1;simp only[Option.isSome,Option.getD]at r0 r1;have HL:=Zh hL;clear hL;go_wp2;go_end0;rw[HR.o];unfold RsP;rw[HL.o];exact⟨rfl,HZ.o.bel,_,HS.o,HZ.o.ok⟩
    |some er=>
     rw[hL]at r0 r1;simp only[Option.isSome,Option.getD]at r0 r1;have HL:=Zh hL;clear hL;go_wp2;refine⟨rfl,?_⟩;rw[HR.o];unfold RsP;rw[HL.o];exact⟨rfl,HZ.o.bel⟩
def Qbo(W:World)(rb:Nat)(v:Value)(l:List Int):Prop:=
 (l=[]/\∃ad cc,v=.slice ad 0 cc)\/∃g o cc,v=.slice (some ⟨g,o,none⟩) l.length cc/\l.length<=cc/\g≠rb/\g<W.heap.size/\∀i n,l[i]?=some n->W.cell? ⟨g,o+i,none⟩=some (Iv n)
def Qbo.chg{l:List Int}(h:Qbo W rb v l)(hc:Chg [rb] W W'):Qbo W' rb v l:=by
 refine h.imp id ?_;rintro⟨g,o,cc,h1,h2,h3,h4,h5⟩;exact⟨g,o,cc,h1,h2,h3,Nat.lt_of_lt_of_le h4 hc.size,λi n hi=>hc.cell_some (p:=⟨g,o+i,none⟩) (by simpa using h3) (h5 i n hi)⟩
def Qdh(W:World)(rb:Nat)(M:Value)(fs:List QaN):Prop:=
 ∃ad cc,M=.slice ad fs.length cc/\(fs≠[]->∃g o,ad=some ⟨g,o,none⟩/\g≠rb/\∀i s,fs[i]?=some s->∃x0 pv k n x5 a6 n6 c6,Qbo W rb pv s.params/\
  ∀j u,([.string x0,pv,Iv s.result,Iv k,Iv n,.string x5,.slice a6 n6 c6]:List Value)[j]?=some u->W.cell? ⟨g,o+i*7+j,none⟩=some u)
def Qdh.chg{fs:List QaN}(h:Qdh W rb M fs)(hc:Chg [rb] W W'):Qdh W' rb M fs:=by
 obtain⟨ad,cc,h1,h2⟩:=h;refine⟨ad,cc,h1,λhne=>?_⟩;obtain⟨g,o,h3,h4,h5⟩:=h2 hne;refine⟨g,o,h3,h4,λi s hs=>?_⟩;obtain⟨x0,pv,k,n,x5,a6,n6,c6,h6,h7⟩:=h5 i s hs;exact⟨x0,pv,k,n,x5,a6,n6,c6,h6.chg hc,λj u hu=>hc.cell_some (p:=⟨g,o+i*7+j,none⟩) (by simpa using h4) (h7 j u hu)⟩
mutual
def QdK(nf:Nat):Nat->Nd->Prop
 |nv,.mk k n s o l=>(k=2->0<=n/\n<nv)/\(k=20->0<=n/\n<nf)/\(match k==19,l with|true,[a,b]=>QdK nf nv a/\QdK nf (nv+1) b|_,l=>QdJ nf nv l)
def QdJ(nf:Nat):Nat->List Nd->Prop
 |_,[]=>True
 |nv,a::l=>QdK nf nv a/\QdJ nf nv l
end
def Jhr{nf nv:Nat}{l:List Nd}(h:QdJ nf nv l):∀a∈l,QdK nf nv a:=by
 induction l with
 |nil=>intro a ha;cases ha
 |cons x r ih=>
  unfold QdJ at h;exact Qgt
structure Qas(fs:List QaN)(rb:Nat)(M:Value)(W:World)(x:Option Int)(vars:List Int)(vv:Value)(a:An):Prop where
 at':a.At W
 rf:rb∉foot a
 flt:QaW W rb 123 x M
 sigs:Qdh W rb M fs
 ints:Qbo W rb vv vars
 ok:QdK fs.length vars.length a.nd
 wf:WfN a.nd
variable{a:An}
def Qas.chg{fs:List QaN}{M0:List Int}(h:Qas fs rb M W x M0 vv a)(hc:Chg [rb] W W')(hf:QaW W' rb 123 x' M):Qas fs rb M W' x' M0 vv a:=
 ⟨JK a h.at' λb hb=>hc.block b (Jcs a h.at' b hb) (by simp;intro e;subst e;exact h.rf hb),h.rf,hf,h.sigs.chg hc,h.ints.chg hc,h.ok,h.wf⟩
def Qas.up{fs:List QaN}{M0:List Int}(h:Qas fs rb M W x M0 vv a)(hb:yr W W'):Qas fs rb M W' x M0 vv a:=
 h.chg (Chg.of_below hb [rb]) ((hb.block _ (Jb h.flt)).trans h.flt)
def Qas.kid{fs:List QaN}{M0:List Int}{k n:Int}{s:By}{off:Int}{c:Nat}(h:Qas fs rb M W x M0 vv (.mk k n s off b c l))(hk:k≠19):∀y∈l,Qas fs rb M W x M0 vv y:=by
 intro y hy;obtain⟨i,hi⟩:=List.getElem?_of_mem hy;have hat:=h.at';unfold An.At at hat;have zA:=h.rf;rw[KQ,if_neg (List.ne_nil_of_mem hy)]at zA;have yA:=h.ok;unfold An.nd QdK at yA;have xA:=yA.2.2;rw[zM hk]at xA;have hwf:=h.wf;unfold An.nd WfN at hwf;have hmem:y.nd∈ndL l:=by rw[Kk];exact List.mem_map.2 ⟨y,hy,rfl⟩
 exact⟨(JW hat.2 hi).2,λhm=>zA (List.mem_cons_of_mem _ (JC hy _ hm)),h.flt,h.sigs,h.ints,Jhr xA _ hmem,Jbx hwf.2.2.2.2 _ hmem⟩
def TyP(w:World)(rb:Nat)(M:Value)(x:Option Int)(errs:List Int)(v:Value)(e:Ending)(w':World):Prop:=e=.returned v/\QaW w' rb 123 (QaG x errs) M/\Chg [rb] w w'
def QbF(fs:List QaN)(M0:List Int)(t:Int)(a:Nd):List Int:=(ofN fs M0 a).2++if (ofN fs M0 a).1≠t then [a.off] else []
def JH(fs:List QaN)(rb:Nat)(M:Value)(a:An)(M0:List Int)(vv:Value)(x:Option Int)(t:Int)(w:World)(hpre:Qas fs rb M w x M0 vv a)
  (H:∀W,Qas fs rb M W x M0 vv a->Calls prog 114 #[Pt rb,.agg (Qaa a),vv] W (TyP W rb M x (ofN fs M0 a.nd).2 (Iv (ofN fs M0 a.nd).1))):
  Calls prog 57 #[Pt rb,.agg (Qaa a),vv,Iv t] w (TyP w rb M x (QbF fs M0 t a.nd) (.tuple #[])):=by
 obtain⟨R,hR⟩:=yt (TyP w rb M x (QbF fs M0 t a.nd) (.tuple #[]))
 rw[hR];have HR:Hi (R=TyP w rb M x (QbF fs M0 t a.nd) (.tuple #[])):=hR.symm;have uA:yr w (w.alloc (.cells (Qaa a) 127)):=zO.alloc (Nat.le_refl _) _;have co:=H _ (hpre.up uA);have A0:=Zh (zQ w (.cells (Qaa a) 127));have U1:=Zh (Chg.of_below uA [rb]);have eA:=Jb hpre.flt;obtain⟨xA,xn,xc,T1⟩:=Jg a;obtain⟨r,hr⟩:=yt (ofN fs M0 a.nd)
 have bA:=Zh hr;rw[hr]at co;obtain⟨ty,es⟩:=r;dsimp only at co;rw[T1]at co A0 U1 |-;have zA:a.nd.off=a.off:=ZK a;have F8:=Zh zA;clear hR hpre H uA T1 hr zA;go_enter func57,ntmps57;go_wp2_with fail;generalize World.alloc w _=w1 at*;have C3:w.heap.size≠rb:=zo;generalize w.heap.size=cb at*;refine co.mono ?_;rintro e w2 ⟨rfl,C7,S1⟩;have D7:=Zh C7;have A7:=Zh S1;have yA:=S1.heap_some (by simp;exact C3) A0.o;have Q5:=Zh yA;clear co C7 S1 yA A0
 by_cases ht:ty=t
 ·subst ht;have d1:(ty !=ty)=false:=zq;have HE:Hi (QbF fs M0 ty a.nd=es):=by unfold QbF Hi;rw[bA.o];simp
  go_wp2;go_end0;rw[HR.o,HE.o];exact⟨rfl,D7.o,U1.o.trans A7.o⟩
 ·have d1:(ty !=t)=true:=bne_iff_ne.2 ht;have HE:Hi (QbF fs M0 t a.nd=es++[a.off]):=by unfold QbF Hi;rw[bA.o,F8.o];simp[ht]
  clear ht;go_upto_region 2 with fail;refine wp_region_held_drew (S:=λ_=>True) zk (trivial) λhH=>?_;have hD:yr w2 w2.drew:=(Below.refl w2.heap.size w2).drew;have dA:=Zh (Chg.of_below hD [rb]);replace D7:=Zh ((hD.block _ (Jb D7.o)).trans D7.o);replace Q5:=Zh ((hD.block _ (Jb Q5.o)).trans Q5.o);clear hD;generalize w2.drew=w3 at*;refine zK 0 ?_
  refine zK 1 ?_;refine zK 2 ?_;refine zK 3 ?_;try simp only[zX]
  refine ZS 4 rfl λK hK=>?_;have n3:=Ja Q5.o 3;simp only[zW]at n3;go_simp;clear n3;refine zU hK trivial λhH=>?_;clear hK K
  try simp only[zX]
  refine ZS 5 rfl λK hK=>?_
  (go_simp;go_at_call 96;refine(V7 _ rb 123 _ M a.off D7.o).mono ?_;intro e w4 h4)
  obtain⟨cA,aA,vA⟩:=h4;subst cA;have CA:=Zh aA;have X6:=Zh vA;clear aA vA;refine zU hK trivial λhH=>?_;clear hK K
  try simp only[zX]
  refine wpAnyH_done zk ?_ _;go_wp2;go_end0;rw[HR.o,HE.o];exact⟨rfl,by rw[Jw];exact CA.o,(U1.o.trans A7.o).trans (dA.o.trans X6.o)⟩
def YS(fs:List QaN)(M0:List Int)(t:Int)(a:Nd)(l:List Nd):Qbp fs M0 t (a::l)=QbF fs M0 t a++Qbp fs M0 t l:=by
 rw[Qbp];unfold QbF;rw[List.append_assoc]
def JcB(fs:List QaN)(M0:List Int)(t:Int):∀(l:List Nd)(a:Nd),Qbp fs M0 t (l++[a])=Qbp fs M0 t l++QbF fs M0 t a
 |[],a=>by simp[YS,Qbp]
 |x::l,a=>by rw[List.cons_append,YS,YS,JcB fs M0 t l a,List.append_assoc]
def Z2(fs:List QaN)(rb:Nat)(M:Value)(k nn:Int)(s:By)(off:Int)(b c:Nat)(l:List An)(M0:List Int)(vv:Value)(x:Option Int)(t:Int)(w:World)(hk:k≠19)(hl:l.length<=1000000000)(hpre:Qas fs rb M w x M0 vv (.mk k nn s off b c l))
  (H:∀y∈l,∀W x',Qas fs rb M W x' M0 vv y->Calls prog 57 #[Pt rb,.agg (Qaa y),vv,Iv t] W (TyP W rb M x' (QbF fs M0 t y.nd) (.tuple #[]))):
  Calls prog 145 #[Pt rb,.agg (Qaa (.mk k nn s off b c l)),vv,Iv t] w (TyP w rb M x (Qbp fs M0 t (ndL l)) (.tuple #[])):=by
 obtain⟨R,hR⟩:=yt (TyP w rb M x (Qbp fs M0 t (ndL l)) (.tuple #[]))
 rw[hR];have HR:Hi (R=TyP w rb M x (Qbp fs M0 t (ndL l)) (.tuple #[])):=hR.symm;obtain⟨ad,cc,S3,zA⟩:=Jp b c l
 have vA:Qaa (.mk k nn s off b c l)=(za k nn s off ad l.length cc):=by
  exact zAj
 have yA:yr w (w.alloc (.cells (Qaa (.mk k nn s off b c l)) 127)):=zO.alloc (Nat.le_refl _) _;have HP:=Zh (hpre.up yA);have U1:=Zh (Chg.of_below yA [rb]);have HH:=Zh H;have HAD:=Zh zA;have HK:=Zh hk;rw[vA]at HP U1 |-;clear hR hpre yA S3 zA vA H hk;go_enter func145,ntmps145;go_wp2_with fail;generalize World.alloc w _=w1 at*;go_loopg [13] l.length λg v13 wr=>∃i:Nat,g+i=l.length/\v13=Iv i/\Hi (Qas fs rb M wr (QaG x (Qbp fs M0 t (ndL (l.take i)))) M0 vv (.mk k nn s off b c l))/\Hi (Chg [rb] w wr)
 case atStart=>exact⟨0,rfl,rfl,Zh (by simpa[ndL,Qbp,QaG] using HP.o),U1⟩
 case round=>
 clear HP U1;obtain⟨wl,rfl⟩:=zJ wr;obtain⟨i,hg,rfl,hp,hc⟩:=hrel
 by_cases hi:i<l.length
 ·have hil:(i:Int)<(l.length:Int):=zo;obtain⟨y,hy⟩:∃y,l[i]?=some y:=⟨l[i],List.getElem?_eq_getElem hi⟩
  have hmem:=List.mem_of_getElem? hy;have X3:ad=some ⟨b,0,none⟩:=HAD.o (List.ne_nil_of_mem hmem);have hat:=hp.o.at';unfold An.At at hat;have hcl:=(JW hat.2 hy).1;rw[Nat.zero_add]at hcl;obtain⟨xA,xn,xc,T1⟩:=Jg y;rw[T1]at hcl;have c0:=hcl 0 _ rfl;have c1:=hcl 1 _ rfl;have c2:=hcl 2 _ rfl;have c3:=hcl 3 _ rfl;have c4:=hcl 4 _ rfl;simp only[Nat.add_zero]at c0;have wk:=zI i;have I0:yr wl (wl.alloc (.cells (Qaa y) 127)):=zO.alloc (Nat.le_refl _) _;have cn:=HH.o y hmem _ _ ((hp.o.up I0).kid HK.o y hmem);have B3:=Zh (hp.o.up I0);have A7:=Zh (hc.o.trans (Chg.of_below I0 [rb]));have i7:Hi (ndL (l.take (i+1))=ndL (l.take i)++[y.nd]):=by rw[Hi,List.take_add_one,hy];exact Vf _ _
  have HG:=Zh hg;rw[T1]at cn B3 A7;subst X3;clear hat hcl T1 I0 hp hc hy hmem HAD hg;go_wp2_with fail;refine cn.mono ?_;rintro e w3 ⟨rfl,uA,B5⟩
  have O7:Hi (Qas fs rb M w3 (QaG x (Qbp fs M0 t (ndL (l.take (i+1))))) M0 vv (.mk k nn s off b c l)):=by
   rw[Hi,i7.o,JcB,Jw];exact B3.o.chg B5 uA
  have I7:=Zh (A7.o.trans B5);clear cn uA B5 B3 A7 c0 c1 c2 c3 c4;go_wp2;go_roundg (l.length-(i+1))
  case measure=>have:=HG.o;omega
  case rel=>exact⟨i+1,by omega,by go_num,O7,I7⟩
 ·have hil:¬(i:Int)<(l.length:Int):=zo;obtain rfl:i=l.length:=zo;have F1:=hp.o;rw[List.take_length]at F1;have B3:=Zh F1;clear hi hg hp F1;go_wp2;go_end0;rw[HR.o];exact⟨rfl,B3.o.flt,hc.o⟩
def zy{P:Prop}(h:P:=by exact ⟨by rw[List.take_add_one,hy];exact Vf _ _,by rw[Kk,List.length_map,List.length_take,Nat.min_eq_left zo]⟩):P:=h
def JjV{a:Option Addr}{c:Nat}{l:List Int}(h:Qbo W rb (.slice a n c) l):n=l.length:=by
 rcases h with⟨rfl,_,_,e⟩|⟨g,o,cc,e,_⟩
 ·injection e
 ·injection e
structure TcI(fs:List QaN)(rb:Nat)(M:Value)(w W:World)(x:Option Int)(vars:List Int)(vv:Value)(a:An)(fb cb:Nat)(fc ac:Array Value)(pv:Value)(ps:List Int):Prop where
 pre:Qas fs rb M W x vars vv a
 chg:Chg [rb] w W
 fbk:W.heap[fb]?=some (.cells fc 41 (0,0))
 cbk:W.heap[cb]?=some (.cells ac 127 (0,0))
 ints:Qbo W rb pv ps
 ne:fb≠rb/\cb≠rb
def TcI.on{fs:List QaN}{M0:List Int}{fb cb:Nat}{fc ac:Array Value}{pv:Value}{ps:List Int}(h:TcI fs rb M w W x M0 vv a fb cb fc ac pv ps)(hc:Chg [rb] W W')(hf:QaW W' rb 123 x' M):TcI fs rb M w W' x' M0 vv a fb cb fc ac pv ps:=
 ⟨h.pre.chg hc hf,h.chg.trans hc,hc.heap_some (by simp;exact h.ne.1) h.fbk,hc.heap_some (by simp;exact h.ne.2) h.cbk,h.ints.chg hc,h.ne⟩
def TcI.up{fs:List QaN}{M0:List Int}{fb cb:Nat}{fc ac:Array Value}{pv:Value}{ps:List Int}(h:TcI fs rb M w W x M0 vv a fb cb fc ac pv ps)(hb:yr W W'):TcI fs rb M w W' x M0 vv a fb cb fc ac pv ps:=h.on (Chg.of_below hb [rb]) ((hb.block _ (Jb h.pre.flt)).trans h.pre.flt)
def Zs(fs:List QaN)(M0:List Int)(b:Bool):∀(l:List Nd)(ps:List Int)(a:Nd),QcX fs M0 b ps (l++[a])=QcX fs M0 b ps l++((ofN fs M0 a).2++if b=true/\(ofN fs M0 a).1≠(ps.drop l.length).headD 0 then [a.off] else [])
 |[],ps,a=>by simp[QcX]
 |x::l,ps,a=>by
  rw[List.cons_append,QcX,Zs fs M0 b l ps.tail a,QcX];simp only[List.append_assoc,List.length_cons,List.drop_tail]
def QgI(fs:List QaN)(M0:List Int)(n:Int)(o:Int)(l:List Nd):List Int:=(if l.length≠(fs.getD n.toNat ⟨[],0⟩).params.length then [o] else [])++QcX fs M0 (l.length==(fs.getD n.toNat ⟨[],0⟩).params.length) (fs.getD n.toNat ⟨[],0⟩).params l
def ux4{P:Prop}(h:P:=by
  try simp only[Act.put,ZA,ZB,ZC]
  refine ZS 7 rfl (λK hK=>?_);have c0:=L6.o 0 _ rfl;have c1:=L6.o 1 _ rfl;have c2:=L6.o 2 _ rfl;have c3:=L6.o 3 _ rfl;have c4:=L6.o 4 _ rfl;have c5:=L6.o 5 _ rfl;have c6:=L6.o 6 _ rfl;simp only[Nat.add_zero]at c0;go_simp;clear c0 c1 c2 c3 c4 c5 c6;refine hK.out _ _ trivial (λhH=>?_);clear hK K
  try simp only[Act.put,ZA,ZB,ZC]
  refine ZS 9 rfl (λK hK=>?_);have hz:=A1.o;have z0:=Ja hz 0;have y0:=Jc hz 0;have z1:=Ja hz 1;have y1:=Jc hz 1;have z2:=Ja hz 2;have y2:=Jc hz 2;have z3:=Ja hz 3;have y3:=Jc hz 3;have z4:=Ja hz 4;have y4:=Jc hz 4;have z5:=Ja hz 5;have y5:=Jc hz 5;have z6:=Ja hz 6;have y6:=Jc hz 6;simp only[ZD,ZE,ZF]at z0 z1 z2 z3 z4 z5 z6;have kG:=Jb hz;clear hz;go_simp;clear kG z0 y0 z1 y1 z2 y2 z3 y3 z4 y4 z5 y5 z6 y6;refine hK.out _ _ trivial (λhH=>?_);clear hK K
  try simp only[Act.put,ZA,ZB,ZC]
  refine wpAnyH_done (by kernel_rfl) ?_ _;go_wp2_with fail;go_meet
  exact⟨_,rfl,⟨RH.o,N3.o.1⟩,D7.o,DA.o,CA.o,j8.o⟩):P:=h
def Qkn{P:Prop}(h:P:=by
  try simp only[Act.put,ZA,ZB,ZC]
  refine ZR (rs:=[7,8]) (AllReadyH.cons rfl (λK hK=>?_) (AllReadyH.cons rfl (λK hK=>?_) AllReadyH.nil))
  ·have c0:=L6.o 0 _ rfl;have c1:=L6.o 1 _ rfl;have c2:=L6.o 2 _ rfl;have c3:=L6.o 3 _ rfl;have c4:=L6.o 4 _ rfl;have c5:=L6.o 5 _ rfl;have c6:=L6.o 6 _ rfl;simp only[Nat.add_zero]at c0;go_simp;clear c0 c1 c2 c3 c4 c5 c6;refine hK.out _ _ trivial (λhH=>?_);clear hK K
   try simp only[Act.put,ZA,ZB,ZC]
   refine ZS 8 rfl (λK hK=>?_);go_simp;refine hK.out _ _ trivial (λhH=>?_);have L5:yr w3 (w3.alloc (.cells (yl (.string ⟨#[]⟩) none 0 0 0 0 0 (.string ⟨#[]⟩) none 0 0) 41)):=zO.alloc (Nat.le_refl _) _;replace HP:=Zh (HP.o.up L5);replace A0:=Zh (Jf (X:=.cells (yl (.string ⟨#[]⟩) none 0 0 0 0 0 (.string ⟨#[]⟩) none 0 0) 41) A0.o);replace L6:Hi (∀(j:Nat)(u:Value),([.string x0,.slice pa pn pc,Iv sg.result,Iv sk,Iv sn,.string x5,.slice a6 n6 c6]:List Value)[j]?=some u->(w3.alloc (.cells (yl (.string ⟨#[]⟩) none 0 0 0 0 0 (.string ⟨#[]⟩) none 0 0) 41)).cell? ⟨g,go+ix*7+j,none⟩=some u):=λj u hj=>(L5.cell (World.block_lt_of_cell? _ _ (L6.o j u hj))).trans (L6.o j u hj)
   clear L5;clear hK K
   try simp only[Act.put,ZA,ZB,ZC]
   refine ZS 9 rfl (λK hK=>?_);have hz:=A1.o;have z0:=Ja hz 0;have y0:=Jc hz 0;have z1:=Ja hz 1;have y1:=Jc hz 1;have z2:=Ja hz 2;have y2:=Jc hz 2;have z3:=Ja hz 3;have y3:=Jc hz 3;have z4:=Ja hz 4;have y4:=Jc hz 4;have z5:=Ja hz 5;have y5:=Jc hz 5;have z6:=Ja hz 6;have y6:=Jc hz 6;simp only[ZD,ZE,ZF]at z0 z1 z2 z3 z4 z5 z6;have kG:=Jb hz;clear hz;go_simp;clear kG z0 y0 z1 y1 z2 y2 z3 y3 z4 y4 z5 y5 z6 y6;refine hK.out _ _ trivial (λhH=>?_);clear hK K
   try simp only[Act.put,ZA,ZB,ZC]
   refine wpAnyH_done (by kernel_rfl) ?_ _;go_wp2_with fail;go_meet;exact⟨_,rfl,⟨RH.o,N3.o.1⟩,D7.o,DA.o,CA.o,j8.o⟩
  ·go_simp;refine hK.out _ _ trivial (λhH=>?_);have L5:yr w3 (w3.alloc (.cells (yl (.string ⟨#[]⟩) none 0 0 0 0 0 (.string ⟨#[]⟩) none 0 0) 41)):=zO.alloc (Nat.le_refl _) _;replace HP:=Zh (HP.o.up L5);replace A0:=Zh (Jf (X:=.cells (yl (.string ⟨#[]⟩) none 0 0 0 0 0 (.string ⟨#[]⟩) none 0 0) 41) A0.o);replace L6:Hi (∀(j:Nat)(u:Value),([.string x0,.slice pa pn pc,Iv sg.result,Iv sk,Iv sn,.string x5,.slice a6 n6 c6]:List Value)[j]?=some u->(w3.alloc (.cells (yl (.string ⟨#[]⟩) none 0 0 0 0 0 (.string ⟨#[]⟩) none 0 0) 41)).cell? ⟨g,go+ix*7+j,none⟩=some u):=λj u hj=>(L5.cell (World.block_lt_of_cell? _ _ (L6.o j u hj))).trans (L6.o j u hj)
   clear L5;clear hK K
   exact ux4):P:=h
def QjD{P:Prop}(h:P:=by
  obtain rfl:i=l.length:=by omega
  have D8:=ht.o;rw[List.take_length]at D8;have g2:=Ja D8.fbk 2;simp only[ZD,ZE,ZF]at g2;have HT:=Zh D8;clear hi hg ht D8;go_wp2;rw[HR.o,A4.o.1,A4.o.2]
  exact⟨rfl,by rw[Jw];exact HT.o.pre.flt,HT.o.chg⟩):P:=h
def QhG{P:Prop}(h:P:=by
  go_wp2;go_roundg (l.length-(i+1))
  case measure=>have:=HG.o;omega
  case rel=>exact⟨i+1,by omega,by go_num,by rw[HE.o,Jw];exact LA.o⟩):P:=h
def zAh{P:Prop}(h:P:=by
  try simp only[zX]
  refine ZS 3 rfl λK hK=>?_;have r2:=Ja HP.o.flt 2;rw[HM.o]at r2;simp only[zW]at r2;go_simp;clear r2;refine zU hK trivial λhH=>?_;clear hK K
  try simp only[zX]
  refine zK 6 ?_
  exact ux4):P:=h
def zAi{P:Prop}(h:P:=by
  try simp only[zX]
  refine ZS 5 rfl λK hK=>?_;have n1:=Ja A0.o 1;simp only[zW]at n1;go_simp;clear n1;refine zU hK trivial λhH=>?_;clear hK K
  try simp only[zX]
  refine zK 6 ?_
  exact ux4):P:=h
def Jhs(fs:List QaN)(rb:Nat)(M:Value)(nn:Int)(s:By)(off:Int)(b c:Nat)(l:List An)(M0:List Int)(vv:Value)(x:Option Int)(w:World)(hl:l.length<=1000000000)(hpre:Qas fs rb M w x M0 vv (.mk 20 nn s off b c l))(hps:∀s∈fs,s.params.length<=1000000000)
  (H:∀y∈l,∀W x',Qas fs rb M W x' M0 vv y->Calls prog 114 #[Pt rb,.agg (Qaa y),vv] W (TyP W rb M x' (ofN fs M0 y.nd).2 (Iv (ofN fs M0 y.nd).1))):
  Calls prog 146 #[Pt rb,.agg (Qaa (.mk 20 nn s off b c l)),vv] w (TyP w rb M x (QgI fs M0 nn off (ndL l)) (Iv (fs.getD nn.toNat ⟨[],0⟩).result)):=by
 have sA:=hpre.ok;unfold An.nd QdK at sA;obtain⟨R4,iB⟩:=sA.2.1 rfl;obtain⟨ix,rfl⟩:∃ix:Nat,nn=(ix:Int):=⟨nn.toNat,by omega⟩
 have nA:ix<fs.length:=zo;obtain⟨sg,kA⟩:∃sg,fs[ix]?=some sg:=⟨fs[ix],List.getElem?_eq_getElem nA⟩
 have yB:fs.getD ((ix:Int)).toNat ⟨[],0⟩=sg:=by rw[Int.toNat_natCast,List.getD_eq_getElem?_getD,kA];rfl
 unfold QgI;rw[yB];have rB:=hps sg (List.mem_of_getElem? kA);obtain⟨R,hR⟩:=yt (TyP w rb M x ((if (ndL l).length≠sg.params.length then [off] else [])++QcX fs M0 ((ndL l).length==sg.params.length) sg.params (ndL l)) (Iv sg.result))
 rw[hR];have HR:Hi (R=TyP w rb M x ((if (ndL l).length≠sg.params.length then [off] else [])++QcX fs M0 ((ndL l).length==sg.params.length) sg.params (ndL l)) (Iv sg.result)):=hR.symm;obtain⟨ad,cc,S3,uB⟩:=Jp b c l
 have cB:Qaa (.mk 20 (ix:Int) s off b c l)=(za 20 (ix:Nat) s off ad l.length cc):=by
  exact zAj
 have tA:yr w (w.alloc (.cells (Qaa (.mk 20 (ix:Int) s off b c l)) 127)):=zO.alloc zP _;have HP:=Zh (hpre.up tA);have U1:=Zh (Chg.of_below tA [rb]);have A0:=Zh (zQ w (.cells (Qaa (.mk 20 (ix:Int) s off b c l)) 127));have mB:=Jb hpre.flt;have C3:w.heap.size≠rb:=zo;have HH:=Zh H;have HAD:=Zh uB;have aB:=Zh kA;rw[cB]at HP U1 A0 |-;clear hR hpre tA S3 uB cB H kA yB hps sA R4 iB mB;go_enter func146,ntmps146;go_upto_region 1 with fail;generalize World.alloc w _=w1 at*;generalize w.heap.size=cb at*;obtain⟨ma,mc,hM,vB⟩:=HP.o.sigs;obtain⟨g,go,jB,sB,hrow⟩:=vB (by intro e;rw[e]at nA;exact absurd nA zq);obtain⟨x0,pv,sk,sn,x5,a6,n6,c6,xB,bB⟩:=hrow ix sg aB.o;have hB:(ix:Int)<(fs.length:Int):=zo;subst jB;have HM:Hi (M=.slice (some ⟨g,go,none⟩) fs.length mc):=hM;have zB:=Zh xB;have L6:=Zh bB;obtain⟨pa,pn,pc,nB⟩:∃pa pn pc,pv=.slice pa pn pc:=by rcases xB with⟨_,_,_,e⟩|⟨_,_,_,e,_⟩<;>exact⟨_,_,_,e⟩
 subst nB;clear hM vB hrow xB bB;go_cut [7] λv7 wx=>∃fb,v7=Pt fb/\Hi (wx.heap[fb]?=some (.cells (yl (.string x0) pa pn pc sg.result sk sn (.string x5) a6 n6 c6) 41 (0,0))/\fb≠rb)/\Hi (Qas fs rb M wx x M0 vv (.mk 20 (ix:Int) s off b c l))/\Hi (Chg [rb] w wx)/\Hi (wx.heap[cb]?=some (.cells (za 20 (ix:Nat) s off ad l.length cc) 127 (0,0)))/\Hi (Qbo wx rb (.slice pa pn pc) sg.params)
 case first=>
  clear HH HAD;refine wp_region_held_drew (S:=λ_=>True) zk (trivial) λhH=>?_;have cA:yr w1 w1.drew:=(Below.refl w1.heap.size w1).drew;replace HP:=Zh (HP.o.up cA);replace U1:=Zh (U1.o.trans (Chg.of_below cA [rb]));replace A0:=Zh ((cA.block _ (Jb A0.o)).trans A0.o);replace L6:Hi (∀(j:Nat)(u:Value),([.string x0,.slice pa pn pc,Iv sg.result,Iv sk,Iv sn,.string x5,.slice a6 n6 c6]:List Value)[j]?=some u->w1.drew.cell? ⟨g,go+ix*7+j,none⟩=some u):=L6.o;have CB:=Zh (Chg.of_below cA [rb]);clear cA;generalize w1.drew=w3 at*;have N3:Hi (w3.heap.size≠rb/\True):=⟨by have:=Jb HP.o.flt;omega,trivial⟩
  have A1:Hi ((w3.alloc (.cells #[Em,Nl,Iv 0,Iv 0,Iv 0,Em,Nl] 41)).heap[w3.heap.size]?=some (.cells #[Em,Nl,Iv 0,Iv 0,Iv 0,Em,Nl] 41)):=zQ _ _;have dA:yr w3 (w3.alloc (.cells (yl (.string x0) pa pn pc sg.result sk sn (.string x5) a6 n6 c6) 41)):=zO.alloc zP _;have RH:=Zh (zQ w3 (.cells (yl (.string x0) pa pn pc sg.result sk sn (.string x5) a6 n6 c6) 41));have D7:=Zh (HP.o.up dA);have DA:=Zh (U1.o.trans (Chg.of_below dA [rb]));have CA:=Zh ((dA.block _ (Jb A0.o)).trans A0.o);have j8:=Zh (zB.o.chg (CB.o.trans (Chg.of_below dA [rb])));clear dA;refine zK 0 ?_;refine zK 1 ?_;refine zK 2 ?_;refine zK 4 ?_;try simp only[zX]
  refine ZR (rs:=[3,5,8]) (AllReadyH.cons rfl (λK hK=>?_) (AllReadyH.cons rfl (λK hK=>?_) (AllReadyH.cons rfl (λK hK=>?_) AllReadyH.nil)))
  ·have r2:=Ja HP.o.flt 2;rw[HM.o]at r2;simp only[zW]at r2;go_simp;clear r2;refine zU hK trivial λhH=>?_;clear hK K
   try simp only[zX]
   refine ZR (rs:=[5,8]) (AllReadyH.cons rfl (λK hK=>?_) (AllReadyH.cons rfl (λK hK=>?_) AllReadyH.nil))
   ·have n1:=Ja A0.o 1;simp only[zW]at n1;go_simp;clear n1;refine zU hK trivial λhH=>?_;clear hK K
    try simp only[zX]
    refine zK 6 ?_
    exact Qkn
   ·go_simp;refine zU hK trivial λhH=>?_;have L5:yr w3 (w3.alloc (.cells #[Em,Nl,Iv 0,Iv 0,Iv 0,Em,Nl] 41)):=zO.alloc zP _;replace HP:=Zh (HP.o.up L5);replace A0:=Zh (Jf (X:=.cells #[Em,Nl,Iv 0,Iv 0,Iv 0,Em,Nl] 41) A0.o);replace L6:Hi (∀(j:Nat)(u:Value),([.string x0,.slice pa pn pc,Iv sg.result,Iv sk,Iv sn,.string x5,.slice a6 n6 c6]:List Value)[j]?=some u->(w3.alloc (.cells #[Em,Nl,Iv 0,Iv 0,Iv 0,Em,Nl] 41)).cell? ⟨g,go+ix*7+j,none⟩=some u):=λj u hj=>(L5.cell (World.block_lt_of_cell? _ _ (L6.o j u hj))).trans (L6.o j u hj)
    clear L5;clear hK K
    exact zAi
  ·have n1:=Ja A0.o 1;simp only[zW]at n1;go_simp;clear n1;refine zU hK trivial λhH=>?_;clear hK K
   try simp only[zX]
   refine ZR (rs:=[3,8]) (AllReadyH.cons rfl (λK hK=>?_) (AllReadyH.cons rfl (λK hK=>?_) AllReadyH.nil))
   ·have r2:=Ja HP.o.flt 2;rw[HM.o]at r2;simp only[zW]at r2;go_simp;clear r2;refine zU hK trivial λhH=>?_;clear hK K
    try simp only[zX]
    refine zK 6 ?_
    exact Qkn
   ·go_simp;refine zU hK trivial λhH=>?_;have L5:yr w3 (w3.alloc (.cells #[Em,Nl,Iv 0,Iv 0,Iv 0,Em,Nl] 41)):=zO.alloc zP _;replace HP:=Zh (HP.o.up L5);replace A0:=Zh (Jf (X:=.cells #[Em,Nl,Iv 0,Iv 0,Iv 0,Em,Nl] 41) A0.o);replace L6:Hi (∀(j:Nat)(u:Value),([.string x0,.slice pa pn pc,Iv sg.result,Iv sk,Iv sn,.string x5,.slice a6 n6 c6]:List Value)[j]?=some u->(w3.alloc (.cells #[Em,Nl,Iv 0,Iv 0,Iv 0,Em,Nl] 41)).cell? ⟨g,go+ix*7+j,none⟩=some u):=λj u hj=>(L5.cell (World.block_lt_of_cell? _ _ (L6.o j u hj))).trans (L6.o j u hj)
    clear L5;clear hK K
    exact zAh
  ·go_simp;refine zU hK trivial λhH=>?_;have L5:yr w3 (w3.alloc (.cells #[Em,Nl,Iv 0,Iv 0,Iv 0,Em,Nl] 41)):=zO.alloc zP _;replace HP:=Zh (HP.o.up L5);replace A0:=Zh (Jf (X:=.cells #[Em,Nl,Iv 0,Iv 0,Iv 0,Em,Nl] 41) A0.o);replace L6:Hi (∀(j:Nat)(u:Value),([.string x0,.slice pa pn pc,Iv sg.result,Iv sk,Iv sn,.string x5,.slice a6 n6 c6]:List Value)[j]?=some u->(w3.alloc (.cells #[Em,Nl,Iv 0,Iv 0,Iv 0,Em,Nl] 41)).cell? ⟨g,go+ix*7+j,none⟩=some u):=λj u hj=>(L5.cell (World.block_lt_of_cell? _ _ (L6.o j u hj))).trans (L6.o j u hj)
   clear L5;clear hK K
   try simp only[zX]
   refine ZR (rs:=[3,5]) (AllReadyH.cons rfl (λK hK=>?_) (AllReadyH.cons rfl (λK hK=>?_) AllReadyH.nil))
   ·have r2:=Ja HP.o.flt 2;rw[HM.o]at r2;simp only[zW]at r2;go_simp;clear r2;refine zU hK trivial λhH=>?_;clear hK K
    exact zAi
   ·have n1:=Ja A0.o 1;simp only[zW]at n1;go_simp;clear n1;refine zU hK trivial λhH=>?_;clear hK K
    exact zAh
 case rest=>
 obtain⟨fb,rfl,eA,hp,hc,B8,uA⟩:=hcut;have dB:=JjV uA.o;have xA:Hi (TcI fs rb M w wc x M0 vv (.mk 20 (ix:Int) s off b c l) fb cb (yl (.string x0) pa pn pc sg.result sk sn (.string x5) a6 n6 c6) (za 20 (ix:Nat) s off ad l.length cc) (.slice pa pn pc) sg.params):=⟨hp.o,hc.o,eA.o.1,B8.o,uA.o,eA.o.2,C3⟩
 have pA:=Zh dB;have eB:=eA.o.2;have n4:=Ja B8.o 4;have g1:=Ja eA.o.1 1;simp only[zW]at n4 g1;have hA:(ndL l).length=l.length:=by rw[Kk,List.length_map]
 rw[hA]at HR;clear eA hp hc B8 uA dB zB L6 aB HM U1 HP A0 hA
 by_cases tF:l.length=pn
 ·subst tF;have d1:((l.length:Int) !=(l.length:Int))=false:=zq;have d2:((l.length:Int)==(l.length:Int))=true:=zq;have A4:Hi ((l.length==sg.params.length)=true/\(if l.length≠sg.params.length then [off] else [])=[]):=by rw[Hi,<-pA.o];simp
  go_upto_region 4 with fail;clear n4 g1;have gA:=Ja xA.o.cbk 4;simp only[zW]at gA;go_wp2_with fail;clear gA;go_loopg [35] l.length λg v35 wr=>∃i:Nat,g+i=l.length/\v35=Iv i/\Hi (TcI fs rb M w wr (QaG (x) (QcX fs M0 true sg.params (ndL (l.take i)))) M0 vv (.mk 20 (ix:Int) s off b c l) fb cb (yl (.string x0) pa l.length pc sg.result sk sn (.string x5) a6 n6 c6) (za 20 (ix:Nat) s off ad l.length cc) (.slice pa l.length pc) sg.params)
  case atStart=>exact⟨0,rfl,rfl,Zh (by simpa[ndL,QcX,QaG] using xA.o)⟩
  case round=>
  clear xA;obtain⟨wl,rfl⟩:=zJ wr;obtain⟨i,hg,rfl,ht⟩:=hrel
  by_cases hi:i<l.length
  ·have hil:(i:Int)<(l.length:Int):=zo;obtain⟨y,hy⟩:∃y,l[i]?=some y:=⟨l[i],List.getElem?_eq_getElem hi⟩
   have hmem:=List.mem_of_getElem? hy;have X3:ad=some ⟨b,0,none⟩:=HAD.o (List.ne_nil_of_mem hmem);have hat:=ht.o.pre.at';unfold An.At at hat;have hcl:=(JW hat.2 hy).1;rw[Nat.zero_add]at hcl;obtain⟨yA,yn,yc,T1⟩:=Jg y;rw[T1]at hcl;have c0:=hcl 0 _ rfl;have c1:=hcl 1 _ rfl;have c2:=hcl 2 _ rfl;have c3:=hcl 3 _ rfl;have c4:=hcl 4 _ rfl;simp only[add_zero]at c0;have wk:=zI i;have I0:yr wl (wl.alloc (.cells (Qaa y) 127)):=zO.alloc zP _;have rA:wl.heap.size≠rb:=by have:=Jb ht.o.pre.flt;omega
   have cn:=HH.o y hmem _ _ ((ht.o.pre.up I0).kid zp y hmem);have EA:=Zh (ht.o.up I0);have aA:=Zh (zQ wl (.cells (Qaa y) 127));have i7:Hi (ndL (l.take (i+1))=ndL (l.take i)++[y.nd]/\(ndL (l.take i)).length=i):=zy
   have HG:=Zh hg;have F8:=Zh (ZK y);rw[T1]at cn EA aA;obtain⟨r,hr⟩:=yt (ofN fs M0 y.nd)
   have mA:=Zh hr;rw[hr]at cn;obtain⟨ty,es⟩:=r;dsimp only at cn;subst X3;clear hat hcl T1 I0 ht hy hmem HAD hg hr;go_wp2_with fail;generalize World.alloc wl _=w3 at*;generalize wl.heap.size=kb at*;refine cn.mono ?_;rintro e w4 ⟨rfl,bA,vA⟩;have LA:=Zh (EA.o.on vA bA);have zA:=Zh (vA.heap_some (by simp;exact rA) aA.o);have m4:=Ja LA.o.cbk 4;have g4:=Ja LA.o.fbk 1;simp only[zW]at m4 g4;clear cn bA vA EA aA c0 c1 c2 c3 c4;have iA:i<sg.params.length:=by rw[<-pA.o];omega
   obtain⟨pi,qA⟩:∃pi,sg.params[i]?=some pi:=⟨sg.params[i],List.getElem?_eq_getElem iA⟩
   have jA:(sg.params.drop i).headD 0=pi:=by rw[List.drop_eq_getElem_cons iA];exact(List.getElem?_eq_some_iff.1 qA).2
   obtain⟨g2,o2,pB,gB⟩:∃g2 o2,pa=some ⟨g2,o2,none⟩/\w4.cell? ⟨g2,o2+i,none⟩=some (Iv pi):=by
    rcases LA.o.ints with⟨e,_⟩|⟨g2,o2,c2,e,_,_,_,e5⟩
    ·rw[e]at iA;exact absurd iA zq
    ·injection e with e1;exact⟨g2,o2,e1,e5 i pi qA⟩
   subst pB;clear qA iA
   by_cases hty:ty=pi
   ·subst hty;have d3:(ty !=ty)=false:=zq;have HE:Hi (QcX fs M0 true sg.params (ndL (l.take (i+1)))=QcX fs M0 true sg.params (ndL (l.take i))++es):=by rw[Hi,i7.o.1,Zs,i7.o.2,mA.o,jA];simp
    clear jA;exact QhG
   ·have d3:(ty !=pi)=true:=bne_iff_ne.2 hty;have HE:Hi (QcX fs M0 true sg.params (ndL (l.take (i+1)))=QcX fs M0 true sg.params (ndL (l.take i))++(es++[y.off])):=by rw[Hi,i7.o.1,Zs,i7.o.2,mA.o,jA,F8.o];simp[hty]
    clear jA hty;go_upto_region 9 with fail;clear m4 g4 gB;refine wp_region_held_drew (S:=λ_=>True) zk (trivial) λhH=>?_;have hD:yr w4 w4.drew:=(Below.refl w4.heap.size w4).drew;replace LA:=Zh (LA.o.up hD);replace zA:=Zh ((hD.block _ (Jb zA.o)).trans zA.o);clear hD;generalize w4.drew=w5 at*;refine zK 0 ?_
    refine zK 1 ?_;refine zK 2 ?_;refine zK 3 ?_;try simp only[zX]
    refine ZS 4 rfl λK hK=>?_;have n3:=Ja zA.o 3;simp only[zW]at n3;go_simp;clear n3;refine zU hK trivial λhH=>?_;clear hK K
    try simp only[zX]
    refine ZS 5 rfl λK hK=>?_
    (go_simp;go_at_call 96;refine(V7 _ rb 123 _ M y.off LA.o.pre.flt).mono ?_;intro e w6 h6)
    obtain⟨n9,N8,O1⟩:=h6;subst n9;have qB:=Zh (LA.o.on O1 N8);clear N8 O1 LA;refine zU hK trivial λhH=>?_;clear hK K
    try simp only[zX]
    refine wpAnyH_done zk ?_ _;go_wp2;go_roundg (l.length-(i+1))
    case measure=>have:=HG.o;omega
    case rel=>exact⟨i+1,by omega,by go_num,by rw[HE.o,Jw,Jw];exact qB.o⟩
  ·have hil:¬(i:Int)<(l.length:Int):=zo;exact QjD
 ·have d1:((l.length:Int) !=(pn:Int))=true:=by simp only[bne_iff_ne,ne_eq];omega
  have d2:((l.length:Int)==(pn:Int))=false:=by rw[beq_eq_false_iff_ne];omega
  have A4:Hi ((l.length==sg.params.length)=false/\(if l.length≠sg.params.length then [off] else [])=[off]):=by rw[Hi,<-pA.o];exact⟨by rw[beq_eq_false_iff_ne];exact tF,if_pos tF⟩
  clear tF;go_upto_region 3 with fail;clear n4 g1;refine wp_region_held_drew (S:=λ_=>True) zk (trivial) λhH=>?_;have hD:yr wc wc.drew:=(Below.refl wc.heap.size wc).drew;replace xA:=Zh (xA.o.up hD);clear hD;generalize wc.drew=w1b at*;refine zK 0 ?_
  refine zK 1 ?_;refine zK 2 ?_;refine zK 3 ?_;try simp only[zX]
  refine ZS 4 rfl λK hK=>?_;have n3:=Ja xA.o.cbk 3;simp only[zW]at n3;go_simp;clear n3;refine zU hK trivial λhH=>?_;clear hK K
  try simp only[zX]
  refine ZS 5 rfl λK hK=>?_
  (go_simp;go_at_call 96;refine(V7 _ rb 123 _ M off xA.o.pre.flt).mono ?_;intro e w2 h2)
  obtain⟨kB,C7,S1⟩:=h2;subst kB;replace xA:=Zh (xA.o.on S1 C7);clear C7 S1;refine zU hK trivial λhH=>?_;clear hK K
  try simp only[zX]
  refine wpAnyH_done zk ?_ _;have gA:=Ja xA.o.cbk 4;simp only[zW]at gA;go_wp2_with fail;clear gA;go_loopg [35] l.length λg v35 wr=>∃i:Nat,g+i=l.length/\v35=Iv i/\Hi (TcI fs rb M w wr (QaG (QaG x [off]) (QcX fs M0 false sg.params (ndL (l.take i)))) M0 vv (.mk 20 (ix:Int) s off b c l) fb cb (yl (.string x0) pa pn pc sg.result sk sn (.string x5) a6 n6 c6) (za 20 (ix:Nat) s off ad l.length cc) (.slice pa pn pc) sg.params)
  case atStart=>exact⟨0,rfl,rfl,Zh (by simpa[ndL,QcX,QaG] using xA.o)⟩
  case round=>
  clear xA;obtain⟨wl,rfl⟩:=zJ wr;obtain⟨i,hg,rfl,ht⟩:=hrel
  by_cases hi:i<l.length
  ·have hil:(i:Int)<(l.length:Int):=zo;obtain⟨y,hy⟩:∃y,l[i]?=some y:=⟨l[i],List.getElem?_eq_getElem hi⟩
   have hmem:=List.mem_of_getElem? hy;have X3:ad=some ⟨b,0,none⟩:=HAD.o (List.ne_nil_of_mem hmem);have hat:=ht.o.pre.at';unfold An.At at hat;have hcl:=(JW hat.2 hy).1;rw[Nat.zero_add]at hcl;obtain⟨yA,yn,yc,T1⟩:=Jg y;rw[T1]at hcl;have c0:=hcl 0 _ rfl;have c1:=hcl 1 _ rfl;have c2:=hcl 2 _ rfl;have c3:=hcl 3 _ rfl;have c4:=hcl 4 _ rfl;simp only[add_zero]at c0;have wk:=zI i;have I0:yr wl (wl.alloc (.cells (Qaa y) 127)):=zO.alloc zP _;have rA:wl.heap.size≠rb:=by have:=Jb ht.o.pre.flt;omega
   have cn:=HH.o y hmem _ _ ((ht.o.pre.up I0).kid zp y hmem);have EA:=Zh (ht.o.up I0);have aA:=Zh (zQ wl (.cells (Qaa y) 127));have i7:Hi (ndL (l.take (i+1))=ndL (l.take i)++[y.nd]/\(ndL (l.take i)).length=i):=zy
   have HG:=Zh hg;have F8:=Zh (ZK y);rw[T1]at cn EA aA;obtain⟨r,hr⟩:=yt (ofN fs M0 y.nd)
   have mA:=Zh hr;rw[hr]at cn;obtain⟨ty,es⟩:=r;dsimp only at cn;subst X3;clear hat hcl T1 I0 ht hy hmem HAD hg hr;go_wp2_with fail;generalize World.alloc wl _=w3 at*;generalize wl.heap.size=kb at*;refine cn.mono ?_;rintro e w4 ⟨rfl,bA,vA⟩;have LA:=Zh (EA.o.on vA bA);have zA:=Zh (vA.heap_some (by simp;exact rA) aA.o);have m4:=Ja LA.o.cbk 4;have g4:=Ja LA.o.fbk 1;simp only[zW]at m4 g4;clear cn bA vA EA aA c0 c1 c2 c3 c4;have HE:Hi (QcX fs M0 false sg.params (ndL (l.take (i+1)))=QcX fs M0 false sg.params (ndL (l.take i))++es):=by rw[Hi,i7.o.1,Zs,mA.o];simp
   exact QhG
  ·have hil:¬(i:Int)<(l.length:Int):=zo;exact QjD
end Go.Proofs.YtfafpklefknomaaGreatDoor



