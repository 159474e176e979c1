/- The law VmRefuses of package agoralaw33 answers true for every input, in any memory that its arguments are laid into; there are no conditions. -/
import Derived.SizedLaws
import Derived.Test.YtfafpklefknomaaGreatDoorCards
import Derived.Test.YtfafpklefknomaaGreatDoorTie
import Derived.SevenTiedAt
import Derived.ChangeVars
import Derived.JoinedOf
import Derived.JoinedAt
import Derived.RowKit
import Derived.RowKit3
import Derived.RowKitTokens
import Derived.Test.YtfafpklefknomaaGreatDoorR40
import Derived.Test.YtfafpklefknomaaGreatDoorR41
open Nat(le_refl)
open List(getElem?_map mem_map)
namespace Go.Proofs.YtfafpklefknomaaGreatDoor
open Go Go.ChangeShapes Go.WideShapes Go.ChangeAt Go.RowKit Go.Lib
open _root_.Go.Proofs.Tryz
set_option linter.all false
set_option maxRecDepth 100000
set_option maxHeartbeats 32000000
def Jnl(X Y:QeD)(W:World):(binOp .eql 48 (.agg (Qex X)) (.agg (Qex Y))).run prog W=.ok (.bool (decide (X=Y))) W:=by
 have hu:prog.underlying 48=some (.struct (prog.fieldsOf 48)):=zk;have hp:prog.stoodInHeld 48=false:=zk;rw[run_eql_struct,run_equalIn_agg _ _ _ _ _ hu hp];unfold Program.fieldsOf;rw[underlying48];obtain⟨a,b,x,y⟩:=X;obtain⟨a',b',x',y'⟩:=Y;have u3:=underlying3;have u9:=underlying9;have xA:=underlying46;simp[Op.eqFields,Qex,go_sem];simp only[Jj]
 by_cases h1:a=a'
 ·by_cases h2:b=b'
  ·by_cases h3:x=x'
   ·by_cases h4:y=y'
    ·simp[h1,h2,h3,h4]
    ·simp[h1,h2,h3,h4]
   ·simp[h1,h2,h3];intro h;exact absurd (Int.ofNat_inj.1 h) h3
  ·simp[h1,h2]
 ·simp[h1]
def JbT(X Y:QeD)(W:World):(binOp .eql 48 (.agg #[Iv X.action,.string (bs X.reason),Iv X.used,Iv X.fault]) (.agg #[Iv Y.action,.string (bs Y.reason),Iv Y.used,Iv Y.fault])).run prog W=.ok (.bool (decide (X=Y))) W:=Jnl X Y W
def Joq(w:World)(o0 o1 o2:Obj):Below w.heap.size w (((w.alloc o0).alloc o1).alloc o2)/\(((w.alloc o0).alloc o1).alloc o2).heap[w.heap.size]?=some o0/\(((w.alloc o0).alloc o1).alloc o2).heap[w.heap.size+1]?=some o1/\
  (((w.alloc o0).alloc o1).alloc o2).heap[w.heap.size+1+1]?=some o2:=by
 have h0:=zQ w o0;have h1:=zQ (w.alloc o0) o1;have h2:=zQ ((w.alloc o0).alloc o1) o2;simp only[World.size_alloc]at h1 h2;exact⟨((zO.alloc zP _).alloc (by simp only[World.size_alloc];omega) _).alloc (by simp only[World.size_alloc];omega) _,Jf (Jf h0),Jf h1,h2⟩
structure Qfm(v:World)(k:Nat)(c:Qaf)(d:Array Value):Prop where
 box:BxB 31 v k d
 cv:CV v v.heap.size c d
def Qfm.of{u:World}{c:Qaf}{d:Array Value}(h:CV u u.heap.size c d):Qfm (u.alloc (.cells d 31)) u.heap.size c d:=
 ⟨BxB.of (zQ u _),(h.up (zO.alloc zP _)).mono zq⟩
def Jnm{r:Qah}{F:Qaj}(h:Qat r=false):QdM r F=⟨0,[],0,1⟩:=by unfold QdM;rw[if_neg (by rw[h];simp)]
def Jji{r:Qah}{F:Qaj}(h:QaF F=false):QdM r F=⟨0,[],0,1⟩:=by unfold QdM;rw[if_neg (by rw[h];simp)]
def V1{r:Qah}{q:Qaf}{F:Qaj}(h:Qat r=false\/QaF F=false\/q≠Qai r):QbB r q F=⟨0,[],0,1⟩:=by
 unfold QbB;split
 ·rename_i e
  rcases h with h|h|h
  ·exact Jnm h
  ·exact Jji h
  ·exact absurd e h
 ·rfl
def JaB{r q:Qah}(hr:Qat r=false)(hq:Qat q=true):Qai r≠Qai q:=by
 unfold Qai;rw[if_pos hq,if_neg (by rw[hr];simp)];intro e;have:QcK.slots.length=(Qac q).slots.length:=congrArg (λc:Qaf=>c.slots.length) e;rw[(JL q).2.2.1]at this;simp[QcK]at this
def Ve{r:Qah}(hz:RSz r)(h:(Qac r).ops.length<=40000000):QbI (Qai r):=by
 unfold Qai;split
 ·exact VJ hz h
 ·unfold QbI QcK;simp
def Jew{q r:Qah}{F:Qaj}(hq:Qat q=true)(hr:Qat r=true)(hF:QaF F=true)(h:Qai q=Qai r):QbB q (Qai r) F=QbB r (Qai r) F:=by
 unfold QbB;rw[if_pos h.symm,if_pos rfl];refine JiR hr hq hF ?_;unfold Qai at h;rw[if_pos hq,if_pos hr]at h;exact h
theorem QfP{P:Prop}(h:P:=by
  have h:=JbT X ⟨0,[],0,1⟩ W;rw[zG hx]at h
  exact h):P:=h
theorem Qgr{P:Prop}(h:P:=by
  have h:=JbT X X W;rw[zG (rfl:X=X)]at h
  exact h):P:=h
def Jdt(q r:Qah)(cq cr:Array Value)(F:Qaj)(la wa:Option Addr)(lc wc:Nat)(w:World)(hxq:QaV w (In w) q cq)(hxr:QaV w (In w) r cr)(hnq:RNm q)(hnr:RNm r)(hpq:∀f∈q.funcs,f.params.length<=200000000000000)(hpr:∀f∈r.funcs,f.params.length<=200000000000000)(hF:FSz F)(hlab:Qbx w (.slice la F.labels.length lc) F.labels)(hwd:QaT w (.slice wa F.words.length wc) F.words)(hL:Laid w) :
  Calls prog 4 #[.agg cq,.agg cr,.agg (QaI F (.slice la F.labels.length lc) (.slice wa F.words.length wc))] w (Qbj w (.bool true)):=by
 obtain⟨R,hR⟩:∃R,Qbj w (.bool true)=R:=⟨_,rfl⟩
 rw[hR];have HR:Hi (Qbj w (.bool true)=R):=hR;obtain⟨fq,gq,cq,dq,rfl,_,_⟩:=hxq.parts;obtain⟨fr,gr,cr,dr,rfl,_,_⟩:=hxr.parts;obtain⟨nq,rA⟩:∃n,q.funcs.length=n:=⟨_,rfl⟩
 obtain⟨mq,pA⟩:∃n,q.clauses.length=n:=⟨_,rfl⟩
 obtain⟨nr,qA⟩:∃n,r.funcs.length=n:=⟨_,rfl⟩
 obtain⟨mr,sA⟩:∃n,r.clauses.length=n:=⟨_,rfl⟩
 obtain⟨ln,cB⟩:∃n,F.labels.length=n:=⟨_,rfl⟩
 obtain⟨wn,hB⟩:∃n,F.words.length=n:=⟨_,rfl⟩
 rw[rA,pA]at hxq |-;rw[qA,sA]at hxr |-;rw[cB]at hlab |-;rw[hB]at hwd |-;unfold QaI;have hbx:=Joq w (.cells #[.slice fq nq gq,.slice cq mq dq,Iv q.action] 25) (.cells #[.slice fr nr gr,.slice cr mr dr,Iv r.action] 25) (.cells #[.slice la ln lc,Iv F.likes,Iv F.boosts,Iv F.replies,Iv F.reports,Iv F.age,Iv F.home,Iv F.scope,Iv F.length,.bool F.follows,.bool F.reply,.slice wa wn wc] 45);have HB:=Zh hbx.1;have tA:=Zh (BxB.of hbx.2.1);have nA:=Zh (BxB.of hbx.2.2.1);have vB:=Zh (BxB.of hbx.2.2.2);have HQ:=Zh λW (hb:Bel w W)=>JbS q _ W hxq hb hpq;have HRW:=Zh λW (hb:Bel w W)=>JbS r _ W hxr hb hpr;have tB:=Zh hxq;have xC:=Zh hxr;have yC:=Zh hnq;have zC:=Zh hnr;have aB:=Zh hF;have uC:=Zh hlab;have aC:=Zh hwd;have HL:=Zh hL;clear hbx hxq hxr hnq hnr hpq hpr hF hlab hwd hL rA pA qA sA cB hB hR;go_enter func4,ntmps4;go_upto_region 1 with fail
 try simp only[World.size_alloc]
 obtain⟨fb,mB⟩:∃fb,w.heap.size+1+1=fb:=⟨_,rfl⟩
 obtain⟨rb,pB⟩:∃rb,w.heap.size+1=rb:=⟨_,rfl⟩
 obtain⟨qb,iB⟩:∃qb,w.heap.size=qb:=⟨_,rfl⟩
 rw[mB]at vB |-;rw[pB]at nA |-;rw[iB]at tA |-;clear mB pB iB;generalize World.alloc (World.alloc (World.alloc w _) _) _=w1 at *;go_wp2_with fail;refine(Jdq w1 (HL.o.below HB.o)).mono ?_;rintro e w2 ⟨rfl,hb2⟩;have HW2:Hi (Below w1.heap.size w1 w2):=hb2;clear hb2;obtain⟨q0,q1,q2⟩:=Qay (tA.o _ HW2.o);have cl:=HQ.o w2 (Jd HB.o HW2.o);go_wp2_with fail;refine cl.mono ?_;rintro e w3 ⟨rfl,hb⟩;have HW3:Hi (Below w1.heap.size w1 w3):=Jd HW2.o hb;clear cl hb q0 q1 q2 HQ
 have HFIN:Hi (∀W,Below w1.heap.size w1 W->R (.returned (.bool true)) W):=λW hW=>by
  rw[<- HR.o];exact⟨rfl,Jd HB.o hW⟩
 clear HR
 cases hq:QfZ q with
 |false=>
  have HT:=HFIN.o _ HW3.o;clear HFIN;go_wp2;exact HT
 |true=>
 have hA:=Zh (V0 hq yC.o);clear hq;obtain⟨q0,q1,q2⟩:=Qay (nA.o _ HW3.o);have cl:=HRW.o w3 (Jd HB.o HW3.o);go_wp2_with fail;refine cl.mono ?_;rintro e w4 ⟨rfl,hb⟩;have HW4:Hi (Below w1.heap.size w1 w4):=Jd HW3.o hb;clear cl hb q0 q1 q2 HRW
 cases hr:QfZ r with
 |false=>
  have HT:=HFIN.o _ HW4.o;clear HFIN;go_wp2;exact HT
 |true=>
 have gA:=Zh (V0 hr zC.o);clear hr;have RQ:=Zh λW (hb:Below w1.heap.size w1 W)=>tB.o.up' (Jd HB.o hb);have RR:=Zh λW (hb:Below w1.heap.size w1 W)=>xC.o.up' (Jd HB.o hb);have FR:=Zh λW (hb:Below w1.heap.size w1 W)=>And.intro (uC.o.up (Jd HB.o hb)) (aC.o.up (Jd HB.o hb));go_upto_region 5 with fail;have zB:=Zh (BxB.of (zQ w4 (.cells #[Iv 0,Em,Iv 0,Iv 1] 48)));have HW5:Hi (Below w1.heap.size w1 (w4.alloc (.cells #[Iv 0,Em,Iv 0,Iv 1] 48))):=HW4.o.alloc HW4.o.size _;generalize World.alloc w4 _=w5 at *;generalize w4.heap.size=nb at *;obtain⟨q0,q1,q2⟩:=Qay (nA.o _ HW5.o);have cc:=Ki r _ w5 (RR.o _ HW5.o) gA.o.1 λ_=>gA.o.2.1;go_wp2_with fail;refine cc.mono ?_;rintro e u6 ⟨dd,rfl,jA,hb⟩;have vA:=Zh (Qfm.of jA);have uB:Hi (Below w5.heap.size w5 (u6.alloc (.cells dd 31))):=Jd hb (zO.alloc zP _);obtain⟨a0,b0,a1,b1,a2,b2,a3,b3,rfl,_,_,_,_⟩:=jA.g;clear cc q0 q1 q2 hb jA;have HCS:Hi (QbI (Qai r)):=Ve gA.o.1 gA.o.2.1;obtain⟨C,hC⟩:∃C,Qai r=C:=⟨_,rfl⟩
 rw[hC]at vA HCS uB |-;obtain⟨x0,eB⟩:∃n,C.ops.length=n:=⟨_,rfl⟩
 obtain⟨x1,qB⟩:∃n,C.starts.length=n:=⟨_,rfl⟩
 obtain⟨x2,bB⟩:∃n,C.params.length=n:=⟨_,rfl⟩
 obtain⟨x3,gB⟩:∃n,C.slots.length=n:=⟨_,rfl⟩
 rw[eB,qB,bB,gB]at vA uB |-;have HC:=Zh hC;clear hC eB qB bB gB;go_upto_region 6 with fail;generalize World.alloc u6 _=w6 at *;generalize u6.heap.size=cb at *;have HW6:Hi (Below w1.heap.size w1 w6):=Jd HW5.o uB.o;have HN6:Hi (∀W,Below w6.heap.size w6 W->Below w5.heap.size w5 W):=λW hW=>Jd uB.o hW
 obtain⟨q0,q1,q2⟩:=Qay (tA.o _ HW6.o);obtain⟨y0,y1,y2,y3⟩:=Qao (vA.o.box _ zO);have z:=vB.o _ HW6.o;have z0:=Ja z 0;have z1:=Ja z 1;have z2:=Ja z 2;have z3:=Ja z 3;have z4:=Ja z 4;have z5:=Ja z 5;have z6:=Ja z 6;have z7:=Ja z 7;have z8:=Ja z 8;have z9:=Ja z 9;have mA:=Ja z 10;have xB:=Ja z 11;simp only[zW]at z0 z1 z2 z3 z4 z5 z6 z7 z8 z9 mA xB;have cv:=KM q F C _ _ (.slice la ln lc) (.slice wa wn wc) w6.heap.size w6 (RQ.o _ HW6.o) hA.o.1 (λ_=>hA.o.2.1) aB.o (FR.o _ HW6.o).1 (FR.o _ HW6.o).2 zP vA.o.cv HCS.o;unfold QaI at cv;go_wp2_with fail;refine cv.mono ?_;clear cv q0 q1 q2 y0 y1 y2 y3 z z0 z1 z2 z3 z4 z5 z6 z7 z8 z9 mA xB;rintro e u7 ⟨rfl,hb⟩;obtain⟨X,hX⟩:∃X,QbB q C F=X:=⟨_,rfl⟩
 rw[hX];have HX:=Zh hX;clear hX;unfold Qex;go_upto_region 7 with fail;have HXX:=Zh (BxB.of (zQ u7 (.cells #[Iv X.action,.string (bs X.reason),Iv X.used,Iv X.fault] 48)));have eA:Hi (Below w6.heap.size w6 (u7.alloc (.cells #[Iv X.action,.string (bs X.reason),Iv X.used,Iv X.fault] 48))):=Jd hb (zO.alloc zP _);clear hb;generalize World.alloc u7 _=w7 at *;generalize u7.heap.size=xb at *;have HW7:Hi (Below w1.heap.size w1 w7):=Jd HW6.o eA.o;obtain⟨q0,q1,q2⟩:=Qay (tA.o _ HW7.o);have ch:=KR q _ w7 (RQ.o _ HW7.o) hA.o.1;go_wp2_with fail;refine ch.mono ?_;clear ch q0 q1 q2;rintro e w8 ⟨rfl,hb⟩;have HS8:Hi (Below w7.heap.size w7 w8):=hb;clear hb
 cases h1:Qat q with
 |false=>
  have hx:X=⟨0,[],0,1⟩:=by rw[<- HX.o];exact V1 (.inl h1)
  have qn:∀W,(binOp .eql 48 (.agg #[Iv X.action,.string (bs X.reason),Iv X.used,Iv X.fault]) (.agg #[Iv 0,Em,Iv 0,Iv 1])).run prog W=.ok (.bool true) W:=λW=>by
   exact QfP
  have HT:=HFIN.o _ (Jd HW7.o HS8.o);obtain⟨e0,e1,e2,e3⟩:=Qao (HXX.o _ HS8.o);obtain⟨n0,n1,n2,n3⟩:=Qao (zB.o _ (HN6.o _ (Jd eA.o HS8.o)));clear HFIN hx;go_wp2;exact HT
 |true=>
 have z:=vB.o _ (Jd HW7.o HS8.o);have z0:=Ja z 0;have z1:=Ja z 1;have z2:=Ja z 2;have z3:=Ja z 3;have z4:=Ja z 4;have z5:=Ja z 5;have z6:=Ja z 6;have z7:=Ja z 7;have z8:=Ja z 8;have z9:=Ja z 9;have mA:=Ja z 10;have xB:=Ja z 11;simp only[zW]at z0 z1 z2 z3 z4 z5 z6 z7 z8 z9 mA xB;have cf:=Y3 F (.slice la ln lc) (.slice wa wn wc) w8 aB.o (FR.o _ (Jd HW7.o HS8.o)).1 (FR.o _ (Jd HW7.o HS8.o)).2;unfold QaI at cf;go_wp2_with fail;refine cf.mono ?_;clear cf z z0 z1 z2 z3 z4 z5 z6 z7 z8 z9 mA xB;rintro e w9 ⟨rfl,hb⟩;have kA:Hi (Below w7.heap.size w7 w9):=Jd HS8.o hb;clear hb
 cases h2:QaF F with
 |false=>
  have hx:X=⟨0,[],0,1⟩:=by rw[<- HX.o];exact V1 (.inr (.inl h2))
  have qn:∀W,(binOp .eql 48 (.agg #[Iv X.action,.string (bs X.reason),Iv X.used,Iv X.fault]) (.agg #[Iv 0,Em,Iv 0,Iv 1])).run prog W=.ok (.bool true) W:=λW=>by
   exact QfP
  have HT:=HFIN.o _ (Jd HW7.o kA.o);obtain⟨e0,e1,e2,e3⟩:=Qao (HXX.o _ kA.o);obtain⟨n0,n1,n2,n3⟩:=Qao (zB.o _ (HN6.o _ (Jd eA.o kA.o)));clear HFIN hx;go_wp2;exact HT
 |true=>
 obtain⟨q0,q1,q2⟩:=Qay (nA.o _ (Jd HW7.o kA.o));have ch:=KR r _ w9 (RR.o _ (Jd HW7.o kA.o)) gA.o.1;go_wp2_with fail;refine ch.mono ?_;clear ch q0 q1 q2;rintro e wA ⟨rfl,hb⟩;have yB:Hi (Below w7.heap.size w7 wA):=Jd kA.o hb;clear hb
 cases h3:Qat r with
 |false=>
  have hx:X=⟨0,[],0,1⟩:=by rw[<- HX.o];exact V1 (.inr (.inr (by rw[<- HC.o];exact JaB h3 h1)))
  have qn:∀W,(binOp .eql 48 (.agg #[Iv X.action,.string (bs X.reason),Iv X.used,Iv X.fault]) (.agg #[Iv 0,Em,Iv 0,Iv 1])).run prog W=.ok (.bool true) W:=λW=>by
   exact QfP
  have HT:=HFIN.o _ (Jd HW7.o yB.o);obtain⟨e0,e1,e2,e3⟩:=Qao (HXX.o _ yB.o);obtain⟨n0,n1,n2,n3⟩:=Qao (zB.o _ (HN6.o _ (Jd eA.o yB.o)));clear HFIN hx;go_wp2;exact HT
 |true=>
 have H1:=Zh h1;have H2:=Zh h2;have H3:=Zh h3;clear h1 h2 h3;go_upto_region 9 with fail;have cA:Hi (Below w7.heap.size w7 wA.drew):=yB.o.drew;have CO:=Zh λW (hb:Below w7.heap.size w7 W)=>Ki q _ W (RQ.o _ (Jd HW7.o hb)) hA.o.1 λ_=>hA.o.2.1;have vC:Hi (QbI (Qai q)):=Ve hA.o.1 hA.o.2.1;have dB:=Zh λW (hb:Below w7.heap.size w7 W)=>vA.o.cv.up (Jd eA.o hb);have uA:=Zh λW (hb:Below w7.heap.size w7 W)=>vA.o.box W (Jd eA.o hb);have dA:=Zh λW (hb:Below w7.heap.size w7 W)=>tA.o W (Jd HW7.o hb);refine wp_region_held_drew (S:=(λW=>W.cell? ⟨qb,0,none⟩=some (.slice fq nq gq)/\W.cell? ⟨qb,1,none⟩=some (.slice cq mq dq)/\W.cell? ⟨qb,2,none⟩=some (Iv q.action)/\W.cell? ⟨cb,0,none⟩=some (.slice a0 x0 b0)/\W.cell? ⟨cb,1,none⟩=some (.slice a1 x1 b1)/\W.cell? ⟨cb,2,none⟩=some (.slice a2 x2 b2)/\W.cell? ⟨cb,3,none⟩=some (.slice a3 x3 b3))) zk (⟨Ja (dA.o _ cA.o) 0,Ja (dA.o _ cA.o) 1,Ja (dA.o _ cA.o) 2,Ja (uA.o _ cA.o) 0,Ja (uA.o _ cA.o) 1,Ja (uA.o _ cA.o) 2,Ja (uA.o _ cA.o) 3⟩) λhH=>?_;refine zK 0 ?_
 try simp only[zX]
 refine zK 2 ?_;try simp only[zX]
 refine ZS 1 rfl λK hK=>?_;have nB:=CO.o _ cA.o
 (go_simp;go_at_call 10;refine nB.mono ?_;clear nB;rintro e wC ⟨dd,rfl,jA,kB⟩)
 have aA:Hi (Below w7.heap.size w7 wC):=Jd cA.o kB;have sB:=Zh jA;clear kB jA;refine zU hK (⟨Ja (dA.o _ aA.o) 0,Ja (dA.o _ aA.o) 1,Ja (dA.o _ aA.o) 2,Ja (uA.o _ aA.o) 0,Ja (uA.o _ aA.o) 1,Ja (uA.o _ aA.o) 2,Ja (uA.o _ aA.o) 3⟩) λhH=>?_;clear hK K
 try simp only[zX]
 refine ZS 3 rfl λK hK=>?_;have cs:=Jjc (Qai q) C vC.o HCS.o wC.heap.size wC zP _ _ sB.o ((dB.o _ aA.o).mono (Nat.le_trans eA.o.size aA.o.size))
 (go_simp;go_at_call 14;refine cs.mono ?_;clear cs;rintro e wE ⟨rfl,jB⟩)
 have bA:Hi (Below w7.heap.size w7 wE):=Jd aA.o jB;clear jB;refine zU hK (⟨Ja (dA.o _ bA.o) 0,Ja (dA.o _ bA.o) 1,Ja (dA.o _ bA.o) 2,Ja (uA.o _ bA.o) 0,Ja (uA.o _ bA.o) 1,Ja (uA.o _ bA.o) 2,Ja (uA.o _ bA.o) 3⟩) λhH=>?_;clear hK K
 try simp only[zX]
 refine zK 4 ?_;try simp only[zX]
 refine wpAnyH_done zk ?_ _;clear hH CO sB cA aA
 by_cases h4:Qai q=C
 rotate_left
 ·have ht:decide (Qai q=C)=false:=zH h4;rw[ht];clear ht;have hx:X=⟨0,[],0,1⟩:=by rw[<- HX.o];exact V1 (.inr (.inr λe=>h4 e.symm))
  have qn:∀W,(binOp .eql 48 (.agg #[Iv X.action,.string (bs X.reason),Iv X.used,Iv X.fault]) (.agg #[Iv 0,Em,Iv 0,Iv 1])).run prog W=.ok (.bool true) W:=λW=>by
   exact QfP
  have HT:=HFIN.o _ (Jd HW7.o bA.o);obtain⟨e0,e1,e2,e3⟩:=Qao (HXX.o _ bA.o);obtain⟨n0,n1,n2,n3⟩:=Qao (zB.o _ (HN6.o _ (Jd eA.o bA.o)));clear HFIN hx;go_wp2;exact HT
 have ht:decide (Qai q=C)=true:=zG h4;rw[ht];clear ht
 have hx:QbB r C F=X:=by
  rw[<- HX.o,<- HC.o];exact(Jew H1.o H3.o H2.o (by rw[HC.o];exact h4)).symm
 have VR:=Zh λW (hb:Below w7.heap.size w7 W)=>KM r F C _ _ (.slice la ln lc) (.slice wa wn wc) w6.heap.size W (RR.o _ (Jd HW7.o hb)) gA.o.1 (λ_=>gA.o.2.1) aB.o (FR.o _ (Jd HW7.o hb)).1 (FR.o _ (Jd HW7.o hb)).2 (Nat.le_trans eA.o.size hb.size) (dB.o _ hb) HCS.o;rw[hx]at VR
 have qn:∀W,(binOp .eql 48 (.agg #[Iv X.action,.string (bs X.reason),Iv X.used,Iv X.fault]) (.agg #[Iv X.action,.string (bs X.reason),Iv X.used,Iv X.fault])).run prog W=.ok (.bool true) W:=λW=>by
  exact Qgr
 have iA:=Zh λW (hb:Below w7.heap.size w7 W)=>nA.o W (Jd HW7.o hb);have zA:=Zh λW (hb:Below w7.heap.size w7 W)=>vB.o W (Jd HW7.o hb);clear hx h4;go_upto_region 11 with fail;have xA:Hi (Below w7.heap.size w7 wE.drew):=bA.o.drew;refine wp_region_held_drew (S:=(λW=>W.cell? ⟨rb,0,none⟩=some (.slice fr nr gr)/\W.cell? ⟨rb,1,none⟩=some (.slice cr mr dr)/\W.cell? ⟨rb,2,none⟩=some (Iv r.action)/\W.cell? ⟨cb,0,none⟩=some (.slice a0 x0 b0)/\W.cell? ⟨cb,1,none⟩=some (.slice a1 x1 b1)/\W.cell? ⟨cb,2,none⟩=some (.slice a2 x2 b2)/\W.cell? ⟨cb,3,none⟩=some (.slice a3 x3 b3)/\W.cell? ⟨xb,0,none⟩=some (Iv X.action)/\W.cell? ⟨xb,1,none⟩=some (.string (bs X.reason))/\W.cell? ⟨xb,2,none⟩=some (Iv X.used)/\W.cell? ⟨xb,3,none⟩=some (Iv X.fault)/\W.cell? ⟨fb,0,none⟩=some (.slice la ln lc)/\W.cell? ⟨fb,1,none⟩=some (Iv F.likes)/\W.cell? ⟨fb,2,none⟩=some (Iv F.boosts)/\W.cell? ⟨fb,3,none⟩=some (Iv F.replies)/\W.cell? ⟨fb,4,none⟩=some (Iv F.reports)/\W.cell? ⟨fb,5,none⟩=some (Iv F.age)/\W.cell? ⟨fb,6,none⟩=some (Iv F.home)/\W.cell? ⟨fb,7,none⟩=some (Iv F.scope)/\W.cell? ⟨fb,8,none⟩=some (Iv F.length)/\W.cell? ⟨fb,9,none⟩=some (.bool F.follows)/\W.cell? ⟨fb,10,none⟩=some (.bool F.reply)/\W.cell? ⟨fb,11,none⟩=some (.slice wa wn wc))) zk (⟨Ja (iA.o _ xA.o) 0,Ja (iA.o _ xA.o) 1,Ja (iA.o _ xA.o) 2,Ja (uA.o _ xA.o) 0,Ja (uA.o _ xA.o) 1,Ja (uA.o _ xA.o) 2,Ja (uA.o _ xA.o) 3,Ja (HXX.o _ xA.o) 0,Ja (HXX.o _ xA.o) 1,Ja (HXX.o _ xA.o) 2,Ja (HXX.o _ xA.o) 3,Ja (zA.o _ xA.o) 0,Ja (zA.o _ xA.o) 1,Ja (zA.o _ xA.o) 2,Ja (zA.o _ xA.o) 3,Ja (zA.o _ xA.o) 4,Ja (zA.o _ xA.o) 5,Ja (zA.o _ xA.o) 6,Ja (zA.o _ xA.o) 7,Ja (zA.o _ xA.o) 8,Ja (zA.o _ xA.o) 9,Ja (zA.o _ xA.o) 10,Ja (zA.o _ xA.o) 11⟩) λhH=>?_;refine zK 0 ?_
 try simp only[zX]
 refine zK 1 ?_;try simp only[zX]
 refine zK 2 ?_;try simp only[zX]
 refine zK 3 ?_;try simp only[zX]
 refine zK 4 ?_;try simp only[zX]
 refine zK 5 ?_;try simp only[zX]
 refine ZS 6 rfl λK hK=>?_;have cr:=VR.o _ xA.o;unfold QaI Qfk Qex at cr
 (go_simp;go_at_call 12;refine cr.mono ?_;clear cr;rintro e wG ⟨rfl,rB⟩)
 have yA:Hi (Below w7.heap.size w7 wG):=Jd xA.o rB;clear rB;refine zU hK (⟨Ja (iA.o _ yA.o) 0,Ja (iA.o _ yA.o) 1,Ja (iA.o _ yA.o) 2,Ja (uA.o _ yA.o) 0,Ja (uA.o _ yA.o) 1,Ja (uA.o _ yA.o) 2,Ja (uA.o _ yA.o) 3,Ja (HXX.o _ yA.o) 0,Ja (HXX.o _ yA.o) 1,Ja (HXX.o _ yA.o) 2,Ja (HXX.o _ yA.o) 3,Ja (zA.o _ yA.o) 0,Ja (zA.o _ yA.o) 1,Ja (zA.o _ yA.o) 2,Ja (zA.o _ yA.o) 3,Ja (zA.o _ yA.o) 4,Ja (zA.o _ yA.o) 5,Ja (zA.o _ yA.o) 6,Ja (zA.o _ yA.o) 7,Ja (zA.o _ yA.o) 8,Ja (zA.o _ yA.o) 9,Ja (zA.o _ yA.o) 10,Ja (zA.o _ yA.o) 11⟩) λhH=>?_;clear hK K
 try simp only[zX]
 refine zK 7 ?_;try simp only[zX]
 refine zK 8 ?_;try simp only[zX]
 refine zK 9 ?_;try simp only[zX]
 refine wpAnyH_done zk ?_ _;have HT:=HFIN.o _ (Jd HW7.o yA.o);clear hH HFIN VR qn;go_wp2;exact HT
open Go Go.ChangeShapes Go.WideShapes Go.RowKit Go.Deep Go.Lib
section
variable {H:Type} {enc:TypeId × Value->H} {P:Program} {w:World} {base:Nat} {spare:Nat->Bool} {held:Bool}
def Qbs(P:Program)(t:TypeId)(d:DataW H):Prop:=∀n∈d.weights P t,n<=reachBytes
def V4{e:TypeId}:∀{l:List (DataW H)} {d:DataW H},d∈l->∀n∈d.weights P e,n∈DataW.weightsAll P e l
 |x::l,d,h,n,hn=>by
  rw[DataW.weightsAll,List.mem_append]
  rcases List.mem_cons.1 h with rfl|h
  ·exact .inl hn
  ·exact .inr (V4 h n hn)
def Qbs.slice{t e:TypeId}{a b:List (DataW H)}(h:Qbs P t (.slice a b))(hu:P.underlying t=some (.slice e)):(a.length+b.length)*P.bytesOf e<=reachBytes/\∀d∈a,Qbs P e d:=by
 unfold Qbs at h
 have e1:DataW.weights P t (.slice a b)=(a.length+b.length)*P.bytesOf e::(DataW.weightsAll P e a++DataW.weightsAll P e b):=by
  rw[DataW.weights,hu]
 rw[e1]at h;refine⟨h _ zq,λd hd n hn=>h n ?_⟩;rw[List.mem_cons,List.mem_append];exact .inr (.inl (V4 hd n hn))
def Qbs.agg{t:TypeId}{fs:Array Field}{l:List (DataW H)}(h:Qbs P t (.agg l))(hu:P.underlying t=some (.struct fs)){i:Nat}{f:Field}{d:DataW H}(hf:fs[i]?=some f)(hd:l[i]?=some d):Qbs P f.type d:=by
 unfold Qbs at h
 have e1:DataW.weights P t (.agg l)=DataW.weightsEach P (fs.toList.map (·.type)) l:=by
  rw[DataW.weights,hu]
 rw[e1]at h;refine λn hn=>h n (DataW.weights_mem_each (t:=f.type) (d:=d) (j:=i) ?_ hd n hn)
 rw[getElem?_map,Array.getElem?_toList,hf];rfl
def Jay{t e:TypeId}{fuel:Nat}{x:DataW H × List MemPlace}{ad:Option Addr}{n c:Nat}(hu:P.underlying t=some (.slice e))(hb:1<=P.bytesOf e)(h:DataW.trod enc P w base spare held fuel t [.slice ad n c]=some x)(hw:Qbs P t x.1):n<=reachBytes:=by
 rcases DataW.trod_slice hu h with⟨hcs,_⟩|⟨a,len,cap,elems,rest,m,hf,hcs,hx,_,hle,hcm,hlen,_⟩
 ·simp at hcs;omega
 ·simp at hcs;obtain⟨_,rfl,_⟩:=hcs;rw[hx]at hw;obtain⟨h1,_⟩:=hw.slice hu;rw[List.length_map,hlen]at h1;have:n*1<=(n+(rest.map (·.1)).length)*P.bytesOf e:=Nat.mul_le_mul zo hb;omega
end
section
variable {H:Type} {enc:TypeId × Value->H} {w:World} {base:Nat} {spare:Nat->Bool} {held:Bool}
def JkZ{l:List Value}{i:Nat}{v:Value}(hv:l[i]?=some v):(l.drop i).take 1=[v]:=by
 have hi:=(List.getElem?_eq_some_iff.1 hv).1;rw[List.drop_eq_getElem_cons hi,(List.getElem?_eq_some_iff.1 hv).2];rfl
def Yf{d:DataW H}{p:List MemPlace}{q:Qah}{c:Array Value}(h:DataW.Trod enc prog w base spare held 25 (.agg c) d p)(hx:QaV w (In w) q c)(hw:Qbs prog 25 d):∀f∈q.funcs,f.params.length<=200000000000000:=by
 obtain⟨kA,hf⟩:=h;obtain⟨xs,n,rfl,dA,_,cA,hg⟩:=DataW.trod_struct underlying25 hf;obtain⟨rfl,_⟩:=Prod.mk.inj dA;obtain⟨fv,cv,rfl,f1,_⟩:=hx;obtain⟨ad,cc,rfl,g1⟩:=Qdy.of FnX.len f1;obtain⟨x0,bA⟩:∃x0,xs[0]?=some x0:=⟨_,List.getElem?_eq_getElem (by rw[cA];decide)⟩
 have t0:DataW.trod enc prog w base spare held n 22 [.slice ad q.funcs.length cc]=some x0:=(hg 0 _ rfl).trans bA;have uA:Qbs prog 22 x0.1:=hw.agg underlying25 (i:=0) rfl (by rw[getElem?_map,bA];rfl);intro f zA;obtain⟨i,hi⟩:=List.getElem?_of_mem zA;have hil:=(List.getElem?_eq_some_iff.1 hi).1
 rcases DataW.trod_slice underlying22 t0 with⟨hcs,_⟩|⟨a,len,cap,elems,rest,m,hfu,hcs,hxx,_,hle,hcm,hlen,hel,_⟩
 ·simp only[List.cons.injEq,Value.slice.injEq]at hcs;omega
 ·simp only[List.cons.injEq,Value.slice.injEq,and_true]at hcs;obtain⟨rfl,rfl,rfl⟩:=hcs;obtain⟨b,o,ha,hk⟩:=g1 (List.ne_nil_of_mem zA);obtain rfl:=Option.some.inj ha;obtain⟨c1,hc1,xA⟩:=hk i f hi;obtain⟨pa,pc,xa,xc,rfl,_,_⟩:=hc1.form;obtain⟨el,yA⟩:∃el,elems[i]?=some el:=⟨_,List.getElem?_eq_getElem zo⟩
  have h1:=(hel i hil).trans yA;obtain⟨jA,hc,iA⟩:=Option.bind_eq_some_iff.1 h1;have hc7:prog.cellsOf 41=7:=zk;rw[hc7]at hc;obtain⟨_,hcl,hat⟩:=World.cells?_some hc;have h2:=hat (i:=1) zp;have h3:=xA w zO 1 _ rfl
  have h4:jA[1]?=some (.slice pa f.params.length pc):=by
   rw[<- h3,<- h2,Go.Deep.add_add,Jje rfl,Nat.add_assoc]
  rw[hxx]at uA;have aA:=(uA.slice underlying22).2 el.1 (List.mem_map.2 ⟨el,List.mem_of_getElem? yA,rfl⟩);obtain⟨ys,k,_,mA,_,gA,eA⟩:=DataW.trod_struct underlying41 iA;obtain⟨y1,vA⟩:∃y,ys[1]?=some y:=⟨_,List.getElem?_eq_getElem (by rw[gA];decide)⟩
  rw[mA]at aA;have hA:Qbs prog 29 y1.1:=aA.agg underlying41 (i:=1) rfl (by rw[getElem?_map,vA];rfl)
  have t1:DataW.trod enc prog w base spare held k 29 [.slice pa f.params.length pc]=some y1:=by
   rw[<- JkZ h4];exact(eA 1 _ rfl).trans vA
  have:=Jay underlying29 (by decide +kernel) t1 hA;have h9:reachBytes<=200000000000000:=zp;omega
def Jdu{d:DataW H}{p:List MemPlace}{F:Qaj}{la wa:Option Addr}{lc wc:Nat}(h:DataW.Trod enc prog w base spare held 45 (.agg (QaI F (.slice la F.labels.length lc) (.slice wa F.words.length wc))) d p)(hw:Qbs prog 45 d):FSz F:=by
 obtain⟨aA,hf⟩:=h;obtain⟨xs,n,rfl,uA,_,xA,hg⟩:=DataW.trod_struct underlying45 hf;obtain⟨rfl,_⟩:=Prod.mk.inj uA;obtain⟨x0,yA⟩:∃x0,xs[0]?=some x0:=⟨_,List.getElem?_eq_getElem (by rw[xA];decide)⟩
 obtain⟨x1,zA⟩:∃x0,xs[11]?=some x0:=⟨_,List.getElem?_eq_getElem (by rw[xA];decide)⟩
 have t0:DataW.trod enc prog w base spare held n 42 [.slice la F.labels.length lc]=some x0:=(hg 0 _ rfl).trans yA;have t1:DataW.trod enc prog w base spare held n 43 [.slice wa F.words.length wc]=some x1:=(hg 11 _ rfl).trans zA;have vA:Qbs prog 42 x0.1:=hw.agg underlying45 (i:=0) rfl (by rw[getElem?_map,yA];rfl);have bA:Qbs prog 43 x1.1:=hw.agg underlying45 (i:=11) rfl (by rw[getElem?_map,zA];rfl);have r0:=Jay underlying42 (by decide +kernel) t0 vA;have r1:=Jay underlying43 (by decide +kernel) t1 bA;have h9:reachBytes<=200000000000000:=zp;exact⟨by omega,by omega⟩
end
open Go.ChangeMaps (open_string shut_string)
theorem Qhi{P:Prop}(h:P:=by
  obtain⟨rfl,hB⟩:=hp
  exact⟨_,rfl,Jjn Qgz (by kernel_rfl) rfl underlying4 rfl hW' rfl hB⟩):P:=h
def Zg(os:Os)(started:os.Started)(H:Type)(enc:TypeId × Value->H) :
  ReturnsInHanded {} Tryz.checked os 4 .any (λw args=>(Rows.vmRefusesSpec.pre enc prog f4 Rows.vmRefusesRow.domain false w args/\laidMet prog Qbn w)/\sizedMet enc prog f4 (OpenSpec.ofChange Rows.vmRefusesSpec) false w args)
   (Rows.vmRefusesSpec.post enc prog f4 false true false false):=by
 refine returnsInHanded_of_change_and (C:=Tryz.checked) (X:=λw _=>laidMet prog Qbn w) (λ_ _ _ hh h=>h.of_heap hh) own started zk func4
  (ChangeSpec.witness_at (enc:=enc) (C:=Tryz.checked) (os:=os) (X:=λw _=>laidMet prog Qbn w) false (QdD os) #[.agg #[Nl,Nl,Iv 0],.agg #[Nl,Nl,Iv 0],.agg (QaI ⟨[],0,0,0,0,0,0,0,0,false,false,[]⟩ Nl Nl)] 8 rfl zk zk zk zk zk (Yh os _)) ?_
 intro W base args ds gs before yA hW _ zA hL _;have hsz:(DataW.weightsEach prog (f4.params.toList++Rows.vmRefusesSpec.plain.varTypes prog) (ds++gs)).all (·<=reachBytes)=true:=zA;clear zA;have xA:∀(j:Nat) t v,f4.params[j]?=some t->args[j]?=some v->Value.okWide prog W .any base t v:=yA;have hW':=hW;obtain⟨p,q,eA,hV,rfl,_,_⟩:=hW;have hA:DataW.TrodAll enc prog W 0 (λ_=>true) true f4.params.toList args.toList ds p:=eA;rw[params4]at hA xA hsz;obtain⟨v0,tA,d0,rA,p0,q0,bA,rfl,rfl,h0,r0⟩:=trodAll_cons hA;obtain⟨v1,vs1,d1,sA,p1,q1,rfl,rfl,rfl,h1,r1⟩:=trodAll_cons r0;obtain⟨v2,vs2,d2,xB,p2,q2,rfl,rfl,rfl,h2,r2⟩:=trodAll_cons r1;obtain⟨rfl,rfl,rfl⟩:=trodAll_nil r2;obtain rfl:args=#[v0,v1,v2]:=by cases args;simp_all
 obtain⟨rfl,rfl⟩:=trodVars_none hV;obtain⟨R0,c0,rfl,cA,hn0⟩:=Jax (xA 0 25 v0 rfl rfl) h0;have dA:Qbs prog 25 d0:=λn hn=>by simpa using List.all_eq_true.1 hsz n (DataW.weights_mem_each (j:=0) (t:=25) (d:=d0) rfl rfl n hn)
 have nA:=Yf h0 cA dA;obtain⟨R1,c1,rfl,aA,hn1⟩:=Jax (xA 1 25 v1 rfl rfl) h1;have iA:Qbs prog 25 d1:=λn hn=>by simpa using List.all_eq_true.1 hsz n (DataW.weights_mem_each (j:=1) (t:=25) (d:=d1) rfl rfl n hn)
 have hp1:=Yf h1 aA iA;obtain⟨F2,kA,pA,mA,gA,rfl,uA,vA⟩:=Jbh (xA 2 45 v2 rfl rfl) h2;have qA:Qbs prog 45 d2:=λn hn=>by simpa using List.all_eq_true.1 hsz n (DataW.weights_mem_each (j:=2) (t:=45) (d:=d2) rfl rfl n hn)
 have jA:=Jdu h2 qA;refine(Jdt R0 R1 c0 c1 F2 kA pA mA gA W cA aA hn0 hn1 nA hp1 jA uA vA (JgI hL)).mono λe W' hp=>?_
 exact Qhi
def JbU:Rows.VmRefusesSaid:=
 OpenClaim.holds_of_wide 4 f4 rfl rfl rfl rfl rfl rfl rfl ⟨rfl,rfl,rfl,rfl,rfl⟩ rfl rfl rfl rfl rfl zk func4 zk
  (of_decide_eq_true zk) (by unfold Func.isWrapper;first|(rw[if_pos (by decide +kernel)];kernel_rfl)|(rw[if_neg (by decide +kernel)];exact⟨rfl,rfl⟩))
  (λos started H enc _=>Zg os started H enc)
theorem vmrefuses_holds:Rows.VmRefusesCardSaid:=
 Claim7.holds_tied_plain_at .later [] [.data,.data,.data,.sentinel,.sentinel] true (true,"c573b91482fd6b8a772737d294aaa2fd4cd42aa7bdd6a57ff6af265af274f823") true
  JbU (λ_ h=>by cases h) zk (λ_ h=>by cases h) vmRefuses_row_tie rfl ⟨rfl,rfl⟩ zk rfl
  (λf fn hf hfn=>by
   obtain rfl:f=4:=Option.some.inj ((show prog.funcNamed "agora/agoralaw33.VmRefuses"=some 4 by kernel_rfl).symm.trans hf) |>.symm;obtain rfl:fn=f4:=(Option.some.inj (func4.symm.trans hfn)).symm
   exact⟨by kernel_rfl,λj t ht=>by
    rw[params4]at ht
    have h3:t=25\/t=45:=by
     match j with
     |0=>simp at ht;subst ht;decide
     |1=>simp at ht;subst ht;decide
     |2=>simp at ht;subst ht;decide
     |(j+3)=>simp at ht
    rcases h3 with h3|h3<;>subst h3
    ·exact(show prog.wantsStandIn 25=false by kernel_rfl)
    ·exact(show prog.wantsStandIn 45=false by kernel_rfl)⟩)
  zk
#print axioms vmrefuses_holds
end Go.Proofs.YtfafpklefknomaaGreatDoor
