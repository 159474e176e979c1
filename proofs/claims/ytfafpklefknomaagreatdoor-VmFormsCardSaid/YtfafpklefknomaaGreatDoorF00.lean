import Derived.KernelRfl
import Derived.Test.YtfafpklefknomaaGreatDoorR39
import Derived.Test.YtfafpklefknomaaGreatDoorR38
import Derived.Test.YtfafpklefknomaaGreatDoorR33
import Derived.Test.YtfafpklefknomaaGreatDoorR34
open Nat(le_refl le_trans)
namespace Go.Proofs.YtfafpklefknomaaGreatDoor
open Go Go.ChangeShapes Go.WideShapes Go.ChangeAt Go.RowKit Go.Lib
open _root_.Go.Proofs.Tryz
set_option linter.all false
set_option maxRecDepth 100000
set_option maxHeartbeats 32000000
def Jdj(p:Nat)(w:World)(hp:p<=w.heap.size)(d:Array Value)(h:CV w p QcK d):Calls prog 16 #[.agg d] w (Qbj w (.bool false)):=by
 obtain⟨a0,c0,a1,c1,a2,c2,a3,c3,rfl,_⟩:=h.g
 have hcf:∀W,Calls prog 39 #[.agg #[.slice a0 0 c0,.slice a1 0 c1,.slice a2 0 c2,.slice a3 0 c3]] W (Qbj W (.bool false)):=by
  intro W;have HX:=Zh (zQ W (.cells #[.slice a0 0 c0,.slice a1 0 c1,.slice a2 0 c2,.slice a3 0 c3] 31));have HB:=Zh ((Below.refl W.heap.size W).alloc (Nat.le_refl _) (.cells #[.slice a0 0 c0,.slice a1 0 c1,.slice a2 0 c2,.slice a3 0 c3] 31));go_enter func39,ntmps39;go_upto_region 1 with fail;obtain⟨eb,xA⟩:∃eb,W.heap.size=eb:=⟨_,rfl⟩
  rw[xA]at HX |-;clear xA;generalize World.alloc W _=w1 at*;obtain⟨x0,x1,x2,x3⟩:=Qao HX.o;go_wp2;go_ret;exact⟨rfl,HB.o⟩
 have hl:QcK.ops.length=0/\QcK.starts.length=0/\QcK.params.length=0/\QcK.slots.length=0:=⟨rfl,rfl,rfl,rfl⟩
 rw[hl.1,hl.2.1,hl.2.2.1,hl.2.2.2];have HX:=Zh (zQ w (.cells #[.slice a0 0 c0,.slice a1 0 c1,.slice a2 0 c2,.slice a3 0 c3] 31));have HB:=Zh ((Below.refl w.heap.size w).alloc (Nat.le_refl _) (.cells #[.slice a0 0 c0,.slice a1 0 c1,.slice a2 0 c2,.slice a3 0 c3] 31));clear h hl hp;go_enter func16,ntmps16;go_upto_region 1 with fail;obtain⟨eb,xA⟩:∃eb,w.heap.size=eb:=⟨_,rfl⟩
 rw[xA]at HX |-;have HEB:=Zh xA;clear xA;generalize World.alloc w _=w1 at*;obtain⟨x0,x1,x2,x3⟩:=Qao HX.o;go_wp2_with fail;refine(hcf w1).mono ?_;clear hcf x0 x1 x2 x3;rintro e w2 ⟨rfl,hb⟩;have HFIN:Hi (Below w.heap.size w w2):=HB.o.trans (hb.mono HB.o.size);clear hb;go_wp2;go_ret;exact⟨rfl,HFIN.o⟩
theorem Qiy{P:Prop}(h:P:=by
  clear x0 x1 x2 x3;rintro e w6 ⟨rfl,hb6⟩;have HB6:Hi (Below w1.heap.size w1 w6):=HB5.o.trans (hb6.mono HB5.o.size);clear hb6;go_wp2;go_roundg (nf+1-(k+1))
  case measure=>have:=HGI.o;omega
  case rel=>exact⟨k+1,by have:=HGI.o;omega,rfl,by rw[HT0.o],HB6.o⟩):P:=h
def Y4(r:Qah)(hk:QeH r)(p:Nat)(w:World)(hp:p<=w.heap.size)(d:Array Value)(h:CV w p (Qac r) d):Calls prog 16 #[.agg d] w (Qbj w (.bool true)):=by
 have h0:=h;obtain⟨a0,c0,a1,c1,a2,c2,a3,c3,rfl,g0,g1,g2,g3⟩:=h.g;obtain⟨l1,l2,l3,l4⟩:=JL r;obtain⟨n0,hn0⟩:∃n0,(Qac r).ops.length=n0:=⟨_,rfl⟩
 obtain⟨nf,eA⟩:∃nf,r.funcs.length=nf:=⟨_,rfl⟩
 have hN:=hk.ops;have hF:=hk.fn;have vA:(Qac r).starts.length=(Qac r).params.length:=zo;have pA:(Qac r).params.length<=1000000000:=zo
 have cA:∀x∈(Qac r).params,0<=x:=by
  intro x hx;rw[K7]at hx;obtain⟨n,_,rfl⟩:=List.mem_map.1 hx;omega
 rw[eA]at l1 l2 l3 hF;rw[hn0]at hN l4;rw[l1,l2,l3,hn0]at h0 |-;obtain⟨sl,mA⟩:=YI r;rw[eA]at sl;obtain⟨b3,o3,rfl,k3⟩:=g3 nf _ sl;obtain⟨Z,hZ⟩:∃Z,QbK (Qac r) 0=Z:=⟨_,rfl⟩
 rw[hZ]at k3;have HZ:=Zh hZ;have HK:=Zh hk;have HG1:=Zh g1;have zB:=Zh g3;have cB:=Zh k3;have hA:=Zh eA;have yA:=Zh hn0;have HCV:=Zh h0;have uA:=Zh vA;have dA:=Zh pA;have zA:=Zh cA;have hb:=(Below.refl w.heap.size w).alloc (Nat.le_refl _) (.cells #[.slice a0 n0 c0,.slice a1 nf c1,.slice a2 nf c2,.slice (some ⟨b3,o3,none⟩) (nf+1) c3] 31);have HB:=Zh hb;have rA:=Zh (hb.mono hp);have HPS:=Zh hp;have HX:=Zh (BxB.of (zQ w (.cells #[.slice a0 n0 c0,.slice a1 nf c1,.slice a2 nf c2,.slice (some ⟨b3,o3,none⟩) (nf+1) c3] 31)));clear h h0 g0 g1 g2 g3 k3 sl hb hp hk hZ eA l1 l2 l3 l4 hn0 vA pA cA mA;go_enter func16,ntmps16;go_upto_region 1 with fail;obtain⟨eb,aB⟩:∃eb,w.heap.size=eb:=⟨_,rfl⟩
 rw[aB]at HX |-;clear aB;generalize World.alloc w _=w1 at*;obtain⟨x0,x1,x2,x3⟩:=Qao (HX.o _ zO);have hcf:=JiP r HK.o p w1 (le_trans HPS.o HB.o.size) _ (HCV.o.up rA.o);go_wp2_with fail;refine hcf.mono ?_;clear hcf x0 x1 x2 x3;rintro e w2 ⟨rfl,hb2⟩;have HB2:=Zh hb2;clear hb2;obtain⟨x0,x1,x2,x3⟩:=Qao (HX.o _ HB2.o);have gB:IntKind.i64.wrap ((nf:Int)+1)=((nf+1:Nat):Int):=by rw[IntWalk.i64_in _ zo];omega
 go_wp2_with fail;clear x0 x1 x2 x3;go_loopg [3,14] (nf+1) λg v3 v14 wr=>∃k:Nat,g+k=nf+1/\v14=Iv (k:Int)/\v3=Iv ((QcG (Qac r) k:Nat):Int)/\Hi (Below w1.heap.size w1 wr)
 case atStart=>exact⟨0,rfl,rfl,rfl,HB2.o⟩
 case round=>
 obtain⟨wl,rfl⟩:=zJ wr;obtain⟨k,hg,rfl,rfl,hbw⟩:=hrel
 by_cases hi:k<nf+1
 ·have dil:decide ((k:Int)<((nf+1:Nat):Int))=true:=zG zo;have kA:decide ((k:Int)<(nf:Int)+1)=true:=zG zo;have diN:decide (k<nf+1)=true:=zG hi;have hkn:k<=r.funcs.length:=by rw[hA.o];omega
  have hP:=VX HK.o.right k hkn;have HBL:Hi (Below p w wl):=rA.o.trans (hbw.o.mono (zv HB.o.size HPS.o));obtain⟨x0,x1,x2,x3⟩:=Qao (HX.o _ hbw.o);have z3:=cB.o _ HBL.o;obtain⟨F0,iA⟩:∃F0,QcG (Qac r) k=F0:=⟨_,rfl⟩
  obtain⟨T0,bA⟩:∃T0,bnd (Qac r) k=T0:=⟨_,rfl⟩
  obtain⟨S0,gA⟩:∃S0,QbK (Qac r) k=S0:=⟨_,rfl⟩
  rw[iA,bA,gA]at hP;rw[iA];have HP:=Zh hP;have HT0:Hi (QcG (Qac r) (k+1)=T0):=by unfold Hi QcG;rw[if_neg zo,Nat.add_sub_cancel];exact bA
  have HGI:Hi (gk+k=nf+1/\k<nf+1):=⟨hg,hi⟩
  have wk:IntKind.i64.wrap ((k:Int)+1)=((k+1:Nat):Int):=by rw[IntWalk.i64_in _ zo];omega
  have dB:IntKind.i64.wrap ((nf:Int)+1-1)=(nf:Int):=by rw[IntWalk.i64_in _ zo];omega
  have eB:IntKind.i64.wrap (((nf+1:Nat):Int)-1)=(nf:Int):=by rw[IntWalk.i64_in _ zo];omega
  have q2:(nf:Int)<((nf+1:Nat):Int):=zo;have q3:(nf:Int)<(nf:Int)+1:=zo
  have uB:k<nf->∃f,(Qac r).starts[k]?=some ((T0:Nat):Int)/\r.funcs[k]?=some f:=λhkf=>by
   obtain⟨f,hf,_,_,_,e1⟩:=YH (r:=r) (i:=k) (by rw[hA.o];exact hkf);exact⟨f,by rw[e1,bA],hf⟩
  have sA:k=nf->T0=n0:=λe=>by
   rw[<-bA,e,<-hA.o,Jfj,yA.o]
  have nA:k≠0->(Qac r).slots[k-1]?=some S0:=λe=>by
   obtain⟨f,_,_,e2,_,_⟩:=YH (r:=r) (i:=k-1) (by rw[hA.o];omega);rw[e2,show k-1+1=k by omega,gA]
  have tA:k=0->S0=Z:=λe=>by rw[<-gA,e];exact HZ.o
  have yB:=Zh uB;have qA:=Zh sA;have vB:=Zh nA;have xB:=Zh tA;clear hP iA bA gA hkn uB sA nA tA hg
  by_cases e0:k=0
  ·by_cases e1:k<nf
   ·obtain⟨f1,aA,_⟩:=yB.o e1;obtain⟨b1,o1,rfl,k1⟩:=HG1.o k _ aA;have z1:=k1 _ HBL.o;have j1:(k:Int)<(nf:Int):=zo;have d1:decide ((k:Int)<(nf:Int))=true:=zG zo;have jA:decide (k<nf)=true:=zG e1;clear aA k1;have hs:=xB.o e0;rw[hs,zG e0]at HP;have q0:((k:Int)==0)=true:=by rw[e0];rfl
    clear hs;clear e0 e1 hi;go_wp2_with fail;refine(Vq (Qac r) Z true F0 T0 HP.o (by rw[yA.o];exact hN) uA.o p wl (le_trans HPS.o (le_trans HB.o.size hbw.o.size)) _ (HCV.o.up HBL.o)).mono ?_;clear x0 x1 x2 x3 z3;rintro e w5 ⟨rfl,hb5⟩;have HB5:Hi (Below w1.heap.size w1 w5):=hbw.o.trans (hb5.mono hbw.o.size);have xA:Hi (Below p w w5):=HBL.o.trans (hb5.mono (le_trans HPS.o (le_trans HB.o.size hbw.o.size)));clear hb5;obtain⟨x0,x1,x2,x3⟩:=Qao (HX.o _ HB5.o);go_wp2_with fail;refine(Vp (Qac r) Z true F0 T0 HP.o (by rw[yA.o];exact hN) dA.o zA.o p w5 (le_trans HPS.o (le_trans HB.o.size HB5.o.size)) _ (HCV.o.up xA.o)).mono ?_;exact Qiy
   ·have ek:k=nf:=zo;have ht:=qA.o ek;rw[ht]at HP HT0;have d1:decide ((k:Int)<(nf:Int))=false:=zH zo;have jA:decide (k<nf)=false:=zH e1;clear ht ek;have hs:=xB.o e0;rw[hs,zG e0]at HP;have q0:((k:Int)==0)=true:=by rw[e0];rfl
    clear hs;clear e0 e1 hi;go_wp2_with fail;refine(Vq (Qac r) Z true F0 n0 HP.o (by rw[yA.o];exact hN) uA.o p wl (le_trans HPS.o (le_trans HB.o.size hbw.o.size)) _ (HCV.o.up HBL.o)).mono ?_;clear x0 x1 x2 x3 z3;rintro e w5 ⟨rfl,hb5⟩;have HB5:Hi (Below w1.heap.size w1 w5):=hbw.o.trans (hb5.mono hbw.o.size);have xA:Hi (Below p w w5):=HBL.o.trans (hb5.mono (le_trans HPS.o (le_trans HB.o.size hbw.o.size)));clear hb5;obtain⟨x0,x1,x2,x3⟩:=Qao (HX.o _ HB5.o);go_wp2_with fail;refine(Vp (Qac r) Z true F0 n0 HP.o (by rw[yA.o];exact hN) dA.o zA.o p w5 (le_trans HPS.o (le_trans HB.o.size HB5.o.size)) _ (HCV.o.up xA.o)).mono ?_;exact Qiy
  ·by_cases e1:k<nf
   ·obtain⟨f1,aA,_⟩:=yB.o e1;obtain⟨b1,o1,rfl,k1⟩:=HG1.o k _ aA;have z1:=k1 _ HBL.o;have j1:(k:Int)<(nf:Int):=zo;have d1:decide ((k:Int)<(nf:Int))=true:=zG zo;have jA:decide (k<nf)=true:=zG e1;clear aA k1;obtain⟨b4,o4,h4,k4⟩:=zB.o (k-1) _ (vB.o e0);have h4:=Option.some.inj h4;simp only[Addr.mk.injEq]at h4;obtain⟨rfl,rfl,_⟩:=h4;have z4:=k4 _ HBL.o;rw[zH e0]at HP;have q0:((k:Int)==0)=false:=zr;have bB:IntKind.i64.wrap ((k:Int)-1)=((k-1:Nat):Int):=by rw[IntWalk.i64_in _ zo];omega
    have j4:((k-1:Nat):Int)<((nf+1:Nat):Int):=zo;have j5:((k-1:Nat):Int)<(nf:Int)+1:=zo;have j6:0<=((k-1:Nat):Int):=zo;clear k4;clear e0 e1 hi;go_wp2_with fail;refine(Vq (Qac r) S0 false F0 T0 HP.o (by rw[yA.o];exact hN) uA.o p wl (le_trans HPS.o (le_trans HB.o.size hbw.o.size)) _ (HCV.o.up HBL.o)).mono ?_;clear x0 x1 x2 x3 z3;rintro e w5 ⟨rfl,hb5⟩;have HB5:Hi (Below w1.heap.size w1 w5):=hbw.o.trans (hb5.mono hbw.o.size);have xA:Hi (Below p w w5):=HBL.o.trans (hb5.mono (le_trans HPS.o (le_trans HB.o.size hbw.o.size)));clear hb5;obtain⟨x0,x1,x2,x3⟩:=Qao (HX.o _ HB5.o);go_wp2_with fail;refine(Vp (Qac r) S0 false F0 T0 HP.o (by rw[yA.o];exact hN) dA.o zA.o p w5 (le_trans HPS.o (le_trans HB.o.size HB5.o.size)) _ (HCV.o.up xA.o)).mono ?_;exact Qiy
   ·have ek:k=nf:=zo;have ht:=qA.o ek;rw[ht]at HP HT0;have d1:decide ((k:Int)<(nf:Int))=false:=zH zo;have jA:decide (k<nf)=false:=zH e1;clear ht ek;obtain⟨b4,o4,h4,k4⟩:=zB.o (k-1) _ (vB.o e0);have h4:=Option.some.inj h4;simp only[Addr.mk.injEq]at h4;obtain⟨rfl,rfl,_⟩:=h4;have z4:=k4 _ HBL.o;rw[zH e0]at HP;have q0:((k:Int)==0)=false:=zr;have bB:IntKind.i64.wrap ((k:Int)-1)=((k-1:Nat):Int):=by rw[IntWalk.i64_in _ zo];omega
    have j4:((k-1:Nat):Int)<((nf+1:Nat):Int):=zo;have j5:((k-1:Nat):Int)<(nf:Int)+1:=zo;have j6:0<=((k-1:Nat):Int):=zo;clear k4;clear e0 e1 hi;go_wp2_with fail;refine(Vq (Qac r) S0 false F0 n0 HP.o (by rw[yA.o];exact hN) uA.o p wl (le_trans HPS.o (le_trans HB.o.size hbw.o.size)) _ (HCV.o.up HBL.o)).mono ?_;clear x0 x1 x2 x3 z3;rintro e w5 ⟨rfl,hb5⟩;have HB5:Hi (Below w1.heap.size w1 w5):=hbw.o.trans (hb5.mono hbw.o.size);have xA:Hi (Below p w w5):=HBL.o.trans (hb5.mono (le_trans HPS.o (le_trans HB.o.size hbw.o.size)));clear hb5;obtain⟨x0,x1,x2,x3⟩:=Qao (HX.o _ HB5.o);go_wp2_with fail;refine(Vp (Qac r) S0 false F0 n0 HP.o (by rw[yA.o];exact hN) dA.o zA.o p w5 (le_trans HPS.o (le_trans HB.o.size HB5.o.size)) _ (HCV.o.up xA.o)).mono ?_;exact Qiy
 ·have dil:decide ((k:Int)<((nf+1:Nat):Int))=false:=zH zo;have kA:decide ((k:Int)<(nf:Int)+1)=false:=zH zo;have diN:decide (k<nf+1)=false:=zH hi;exact Qhx
def ex1:Qah:=⟨[],[⟨.mk 13 0 [] [.mk 0 3 [] [],.mk 3 0 Qco []],3,[120]⟩],0⟩
def ex2:Qah:=⟨[⟨[102],[0],1,.mk 17 0 [] [.mk 15 0 [] [.mk 2 0 [] [],.mk 0 0 [] []],.mk 20 0 [] [.mk 9 0 [] [.mk 2 0 [] [],.mk 0 1 [] []]]]⟩],[⟨.mk 20 0 [] [.mk 0 5 [] []],2,[121]⟩],0⟩
def cx1:Qaf:=⟨[⟨21,0,[]⟩,⟨0,3,[]⟩,⟨3,0,Qco⟩,⟨13,0,[]⟩,⟨17,6,[]⟩,⟨22,3,[120]⟩,⟨22,0,[]⟩],[],[],[0]⟩
def cx2:Qaf:=⟨[⟨21,0,[]⟩,⟨0,5,[]⟩,⟨19,0,[]⟩,⟨17,5,[]⟩,⟨22,2,[121]⟩,⟨22,0,[]⟩,⟨1,0,[]⟩,⟨0,0,[]⟩,⟨15,0,[]⟩,⟨18,15,[]⟩,⟨1,0,[]⟩,⟨0,1,[]⟩,⟨9,0,[]⟩,⟨19,0,[]⟩,⟨16,16,[]⟩,⟨0,1,[]⟩,⟨20,0,[]⟩],[6],[1],[1,0]⟩
def FZ:Qaj:=⟨[],0,0,0,0,0,0,0,0,false,false,[]⟩
def tx1:By:=[119,104,101,110,32,108,105,107,101,115,32,62,32,51,32,116,104,101,110,32,104,105,100,101,32,34,120,34,32,100,101,102,97,117,108,116,32,115,104,111,119]
def JkW:Qcl tx1=(ex1,0,0):=zk
def tx2:By:=[100,101,102,32,102,40,110,58,32,105,110,116,41,58,32,98,111,111,108,32,61,32,110,32,61,61,32,48,32,111,114,32,102,40,110,32,45,32,49,41,32,119,104,101,110,32,102,40,53,41,32,116,104,101,110,32,108,105,109,105,116,32,34,121,34,32,100,101,102,97,117,108,116,32,115,104,111,119]
def JkX:Qcl tx2=(ex2,0,0):=zk
def Jlq:Qac ex1=cx1:=zk
def Jlr:Qac ex2=cx2:=zk
def Jna:Qai ex1=cx1:=zk
def Jnb:Qai ex2=cx2:=zk
def JiU:Qat ex1=true:=zk
def JiV:Qat ex2=true:=zk
def Jfz{r:Qah}(h1:r.funcs.length<=1)(h2:r.clauses.length<=1)(h3:∀f∈r.funcs,f.name.length<=9223372036854775807/\f.params.length<=1000000/\NmN f.body/\siz (utN f.body)<=1000000)(h4:∀c∈r.clauses,NmN c.cond/\siz (utN c.cond)<=1000000/\c.reason.length<=9223372036854775807):RSz r:=⟨by omega,by omega,h3,h4⟩
def Jdk:RSz ex1:=by
 refine Jfz zp zp (by simp[ex1]) λc hc=>?_;simp[ex1]at hc;subst hc;exact⟨by simp[NmN,NmL,Qco],by simp[utN,utL,JD,Ju,JG],by simp⟩
def JiW:RSz ex2:=by
 refine Jfz zp zp (λf hf=>?_) λc hc=>?_
 ·simp[ex2]at hf;subst hf;exact⟨by simp,by simp,by simp[NmN,NmL],by simp[utN,utL,JD,Ju,JG]⟩
 ·simp[ex2]at hc;subst hc;exact⟨by simp[NmN,NmL],by simp[utN,utL,JD,Ju,JG],by simp⟩
def JiX:QeH ex1:=⟨JiU,by rw[Jlq];decide,by decide,λf hf=>(Jdk.fn f hf).2.1⟩
def Jnc:QeH ex2:=⟨JiV,by rw[Jlr];decide,by decide,λf hf=>(JiW.fn f hf).2.1⟩
def PsP.inw{w:World}{X:Qah×Int×Int}{e:Ending}{w':World}(h:PsP w X e w'):∃c,e=.returned (.tuple #[.agg c,Iv X.2.1,Iv X.2.2])/\QaV w' (In w') X.1 c/\Below w.heap.size w w':=by
 obtain⟨c,h1,h2,h3⟩:=h;exact⟨c,h1,h2.keep (λ_ _=>rfl) λb hb=>hb.2,h3⟩
def Zu(W:World):Qbx W Nl []:=⟨none,0,[],rfl,Nat.le_refl _,rfl,.inl rfl⟩
def YJ(W:World):QaT W Nl []:=⟨none,0,[],rfl,Nat.le_refl _,rfl,.inl rfl⟩
def Jdl(W:World)(hL:Laid W):Calls prog 15 #[.string ⟨#[119,104,101,110,32,108,105,107,101,115,32,62,32,51,32,116,104,101,110,32,104,105,100,101,32,34,120,34,32,100,101,102,97,117,108,116,32,115,104,111,119]⟩] W (λe w'=>∃c,e=.returned (.tuple #[.agg c,Iv 0,Iv 0])/\QaV w' (In w') ex1 c/\Below W.heap.size W w'):=by
 have h:=Qdn tx1 W zp hL;rw[JkW]at h;exact h.mono λe w' hp=>hp.inw
def Jeu(W:World)(c:Array Value)(h:QaV W (In W) ex1 c):Calls prog 10 #[.agg c] W (QfA W cx1):=by
 have h1:=Ki ex1 c W h Jdk λ_=>JiX.ops;rw[Jna]at h1;exact h1
def Jdm(W:World)(p:Nat)(hp:p<=W.heap.size)(d:Array Value)(h:CV W p cx1 d):Calls prog 16 #[.agg d] W (Qbj W (.bool true)):=Y4 ex1 JiX p W hp d (by rw[Jlq];exact h)
def Jdn(W:World)(hL:Laid W):Calls prog 15 #[.string ⟨#[100,101,102,32,102,40,110,58,32,105,110,116,41,58,32,98,111,111,108,32,61,32,110,32,61,61,32,48,32,111,114,32,102,40,110,32,45,32,49,41,32,119,104,101,110,32,102,40,53,41,32,116,104,101,110,32,108,105,109,105,116,32,34,121,34,32,100,101,102,97,117,108,116,32,115,104,111,119]⟩] W (λe w'=>∃c,e=.returned (.tuple #[.agg c,Iv 0,Iv 0])/\QaV w' (In w') ex2 c/\Below W.heap.size W w'):=by
 have h:=Qdn tx2 W zp hL;rw[JkX]at h;exact h.mono λe w' hp=>hp.inw
def Jev(W:World)(c:Array Value)(h:QaV W (In W) ex2 c):Calls prog 10 #[.agg c] W (QfA W cx2):=by
 have h1:=Ki ex2 c W h JiW λ_=>Jnc.ops;rw[Jnb]at h1;exact h1
def Jdo(W:World)(p:Nat)(hp:p<=W.heap.size)(d:Array Value)(h:CV W p cx2 d):Calls prog 16 #[.agg d] W (Qbj W (.bool true)):=Y4 ex2 Jnc p W hp d (by rw[Jlr];exact h)
def Jnd:QbB ex1 cx1 {FZ with likes:=4}=⟨3,[120],1,0⟩:=by decide +kernel
def JgA(W:World)(c d:Array Value)(p:Nat)(hp:p<=W.heap.size)(h:QaV W (In W) ex1 c)(hd:CV W p cx1 d):Calls prog 12 #[.agg c,.agg d,.agg #[Nl,Iv 4,Iv 0,Iv 0,Iv 0,Iv 0,Iv 0,Iv 0,Iv 0,.bool false,.bool false,Nl]] W (λe w'=>e=.returned (.agg #[Iv 3,.string ⟨#[120]⟩,Iv 1,Iv 0])/\Below W.heap.size W w'):=by
 have h1:=KM ex1 {FZ with likes:=4} cx1 c d Nl Nl p W h Jdk (λ_=>JiX.ops) ⟨by decide,by decide⟩ (Zu W) (YJ W) hp hd (by unfold QbI;decide);rw[Jnd]at h1;exact h1
def JiY(W:World):(binOp .eql 48 (.agg #[Iv 3,.string ⟨#[120]⟩,Iv 1,Iv 0]) (.agg #[Iv 3,.string ⟨#[120]⟩,Iv 1,Iv 0])).run prog W=.ok (.bool true) W:=zk
def Jne:QbB ex1 cx1 {FZ with likes:=3}=⟨0,[],1,0⟩:=by decide +kernel
def JgB(W:World)(c d:Array Value)(p:Nat)(hp:p<=W.heap.size)(h:QaV W (In W) ex1 c)(hd:CV W p cx1 d):Calls prog 12 #[.agg c,.agg d,.agg #[Nl,Iv 3,Iv 0,Iv 0,Iv 0,Iv 0,Iv 0,Iv 0,Iv 0,.bool false,.bool false,Nl]] W (λe w'=>e=.returned (.agg #[Iv 0,Em,Iv 1,Iv 0])/\Below W.heap.size W w'):=by
 have h1:=KM ex1 {FZ with likes:=3} cx1 c d Nl Nl p W h Jdk (λ_=>JiX.ops) ⟨by decide,by decide⟩ (Zu W) (YJ W) hp hd (by unfold QbI;decide);rw[Jne]at h1;exact h1
def JiZ(W:World):(binOp .eql 48 (.agg #[Iv 0,Em,Iv 1,Iv 0]) (.agg #[Iv 0,Em,Iv 1,Iv 0])).run prog W=.ok (.bool true) W:=zk
def Jnf:QbB ex2 cx2 {FZ with likes:=0}=⟨2,[121],7,0⟩:=by decide +kernel
def JgC(W:World)(c d:Array Value)(p:Nat)(hp:p<=W.heap.size)(h:QaV W (In W) ex2 c)(hd:CV W p cx2 d):Calls prog 12 #[.agg c,.agg d,.agg #[Nl,Iv 0,Iv 0,Iv 0,Iv 0,Iv 0,Iv 0,Iv 0,Iv 0,.bool false,.bool false,Nl]] W (λe w'=>e=.returned (.agg #[Iv 2,.string ⟨#[121]⟩,Iv 7,Iv 0])/\Below W.heap.size W w'):=by
 have h1:=KM ex2 {FZ with likes:=0} cx2 c d Nl Nl p W h JiW (λ_=>Jnc.ops) ⟨by decide,by decide⟩ (Zu W) (YJ W) hp hd (by unfold QbI;decide);rw[Jnf]at h1;exact h1
def Jja(W:World):(binOp .eql 48 (.agg #[Iv 2,.string ⟨#[121]⟩,Iv 7,Iv 0]) (.agg #[Iv 2,.string ⟨#[121]⟩,Iv 7,Iv 0])).run prog W=.ok (.bool true) W:=zk
def Jng:QbB ex1 cx2 {FZ with likes:=0}=⟨0,[],0,1⟩:=by decide +kernel
def JgD(W:World)(c d:Array Value)(p:Nat)(hp:p<=W.heap.size)(h:QaV W (In W) ex1 c)(hd:CV W p cx2 d):Calls prog 12 #[.agg c,.agg d,.agg #[Nl,Iv 0,Iv 0,Iv 0,Iv 0,Iv 0,Iv 0,Iv 0,Iv 0,.bool false,.bool false,Nl]] W (λe w'=>e=.returned (.agg #[Iv 0,Em,Iv 0,Iv 1])/\Below W.heap.size W w'):=by
 have h1:=KM ex1 {FZ with likes:=0} cx2 c d Nl Nl p W h Jdk (λ_=>JiX.ops) ⟨by decide,by decide⟩ (Zu W) (YJ W) hp hd (by unfold QbI;decide);rw[Jng]at h1;exact h1
def Jjb(W:World):(binOp .eql 48 (.agg #[Iv 0,Em,Iv 0,Iv 1]) (.agg #[Iv 0,Em,Iv 0,Iv 1])).run prog W=.ok (.bool true) W:=zk
def Jdp(W:World):Calls prog 16 #[.agg #[Nl,Nl,Nl,Nl]] W (Qbj W (.bool false)):=Jdj 0 W (Nat.zero_le _) _ (JcS W 0)
def CV.form1{W:World}{p:Nat}{d:Array Value}(h:CV W p cx1 d):∃a0 c0 a1 c1 a2 c2 a3 c3,d=#[.slice a0 7 c0,.slice a1 0 c1,.slice a2 0 c2,.slice a3 1 c3]/\OpG W p cx1.ops a0/\QfJ W p [0] a3:=by
 obtain⟨a0,c0,a1,c1,a2,c2,a3,c3,h1,h2,_,_,h5⟩:=h.g;exact⟨a0,c0,a1,c1,a2,c2,a3,c3,h1,h2,h5⟩
def CV.form2{W:World}{p:Nat}{d:Array Value}(h:CV W p cx2 d):∃a0 c0 a1 c1 a2 c2 a3 c3,d=#[.slice a0 17 c0,.slice a1 1 c1,.slice a2 1 c2,.slice a3 2 c3]/\QfJ W p [6] a1:=by
 obtain⟨a0,c0,a1,c1,a2,c2,a3,c3,h1,_,h3,_,_⟩:=h.g;exact⟨a0,c0,a1,c1,a2,c2,a3,c3,h1,h3⟩
def Qew:Array Value:=#[Iv 21,Iv 0,Em,Iv 0,Iv 3,Em,Iv 3,Iv 0,.string ⟨#[108,105,107,101,115]⟩,Iv 13,Iv 0,Em,Iv 17,Iv 6,Em,Iv 22,Iv 3,.string ⟨#[120]⟩,Iv 22,Iv 0,Em]
def JkY{i:Nat}{u:OpM}(hi:i<7)(h:cx1.ops[i]?=some u):Qew[i*3]?=some (Iv u.code)/\Qew[i*3+1]?=some (Iv u.n)/\Qew[i*3+2]?=some (.string (bs u.name)):=by
 have hk:i=0\/i=1\/i=2\/i=3\/i=4\/i=5\/i=6:=zo
 rcases hk with rfl|rfl|rfl|rfl|rfl|rfl|rfl<;>(have h':=Option.some.inj h;subst h';exact⟨rfl,rfl,rfl⟩)
def Jdq(w:World)(hL:Laid w):Calls prog 8 #[] w (Qbj w (.bool true)):=by
 obtain⟨R,hR⟩:∃R,Qbj w (.bool true)=R:=⟨_,rfl⟩
 rw[hR];have HR:Hi (Qbj w (.bool true)=R):=hR;have HL:=Zh hL;have HB0:Hi (Bel w w):=zO;clear hL hR;go_enter func8,ntmps8;go_wp2_with fail;refine(Jdl w (HL.o.below HB0.o)).mono ?_;rintro e u1 ⟨c1,rfl,iB,hb1⟩;obtain⟨rA,yB,jA,tA,rfl,_,_⟩:=iB.parts;have sA:Below u1.heap.size u1 (u1.alloc (.cells #[.slice rA ex1.funcs.length yB,.slice jA ex1.clauses.length tA,Iv ex1.action] 25)):=zO.alloc zP _;have rB:Hi (Bel w (u1.alloc (.cells #[.slice rA ex1.funcs.length yB,.slice jA ex1.clauses.length tA,Iv ex1.action] 25))):=Jd HB0.o (Jd hb1 sA);have HX1:=Zh (BxB.of (zQ u1 (.cells #[.slice rA ex1.funcs.length yB,.slice jA ex1.clauses.length tA,Iv ex1.action] 25)));have nA:=Zh (iB.up sA);have HP1:Hi (Below w.heap.size w (u1.alloc (.cells #[.slice rA ex1.funcs.length yB,.slice jA ex1.clauses.length tA,Iv ex1.action] 25))):=Jd hb1 sA;clear iB hb1 sA;go_upto_region 2 with fail;generalize World.alloc u1 _=v1 at*;generalize u1.heap.size=k1 at*;go_wp2_with fail;refine(Jdn v1 (HL.o.below rB.o)).mono ?_;rintro e u2 ⟨c2,rfl,zB,hb2⟩;obtain⟨hA,iA,mA,qA,rfl,_,_⟩:=zB.parts;have pA:Below u2.heap.size u2 (u2.alloc (.cells #[.slice hA ex2.funcs.length iA,.slice mA ex2.clauses.length qA,Iv ex2.action] 25)):=zO.alloc zP _;have HB2:Hi (Bel w (u2.alloc (.cells #[.slice hA ex2.funcs.length iA,.slice mA ex2.clauses.length qA,Iv ex2.action] 25))):=Jd rB.o (Jd hb2 pA);have HX2:=Zh (BxB.of (zQ u2 (.cells #[.slice hA ex2.funcs.length iA,.slice mA ex2.clauses.length qA,Iv ex2.action] 25)));have sB:=Zh (zB.up pA);have HP2:Hi (Below v1.heap.size v1 (u2.alloc (.cells #[.slice hA ex2.funcs.length iA,.slice mA ex2.clauses.length qA,Iv ex2.action] 25))):=Jd hb2 pA;clear zB hb2 pA;go_upto_region 3 with fail;generalize World.alloc u2 _=v2 at*;generalize u2.heap.size=k2 at*;obtain⟨r0,r1,r2⟩:=Qay (HX1.o v2 (HP2.o));have cr:=Jeu v2 _ (nA.o.up (HP2.o));go_wp2_with fail;refine cr.mono ?_;clear cr;rintro e u3 ⟨kC,rfl,zA,cB⟩;obtain⟨a0,b0,a1,b1,a2,b2,a3,b3,rfl,g1,h1⟩:=zA.form1;have aA:Below u3.heap.size u3 (u3.alloc (.cells #[.slice a0 7 b0,.slice a1 0 b1,.slice a2 0 b2,.slice a3 1 b3] 31)):=zO.alloc zP _;have dC:Hi (Bel w (u3.alloc (.cells #[.slice a0 7 b0,.slice a1 0 b1,.slice a2 0 b2,.slice a3 1 b3] 31))):=Jd HB2.o (Jd cB aA);have HX3:=Zh (BxB.of (zQ u3 (.cells #[.slice a0 7 b0,.slice a1 0 b1,.slice a2 0 b2,.slice a3 1 b3] 31)));have hB:Hi (CV (u3.alloc (.cells #[.slice a0 7 b0,.slice a1 0 b1,.slice a2 0 b2,.slice a3 1 b3] 31)) (u3.alloc (.cells #[.slice a0 7 b0,.slice a1 0 b1,.slice a2 0 b2,.slice a3 1 b3] 31)).heap.size cx1 #[.slice a0 7 b0,.slice a1 0 b1,.slice a2 0 b2,.slice a3 1 b3]):=(zA.up aA).mono zq;have HP3:Hi (Below v2.heap.size v2 (u3.alloc (.cells #[.slice a0 7 b0,.slice a1 0 b1,.slice a2 0 b2,.slice a3 1 b3] 31))):=Jd cB aA
 have uC:Hi (∀W,Below (u3.alloc (.cells #[.slice a0 7 b0,.slice a1 0 b1,.slice a2 0 b2,.slice a3 1 b3] 31)).heap.size (u3.alloc (.cells #[.slice a0 7 b0,.slice a1 0 b1,.slice a2 0 b2,.slice a3 1 b3] 31)) W->∀(i:Nat)(x:OpM),cx1.ops[i]?=some x->∃b o,a0=some ⟨b,o,none⟩/\W.cell? ⟨b,o+i*3,none⟩=some (Iv x.code)/\W.cell? ⟨b,o+i*3+1,none⟩=some (Iv x.n)/\W.cell? ⟨b,o+i*3+2,none⟩=some (.string (bs x.name))):=λW hW i x hi=>by
  obtain⟨b,o,h1,h2⟩:=g1 i x hi;exact⟨b,o,h1,h2 W (Jd aA hW)⟩
 obtain⟨s0,t0,rfl,aB⟩:=h1 0 0 rfl;have yC:Hi (∀W,Below (u3.alloc (.cells #[.slice a0 7 b0,.slice a1 0 b1,.slice a2 0 b2,.slice (some ⟨s0,t0,none⟩) 1 b3] 31)).heap.size (u3.alloc (.cells #[.slice a0 7 b0,.slice a1 0 b1,.slice a2 0 b2,.slice (some ⟨s0,t0,none⟩) 1 b3] 31)) W->W.cell? ⟨s0,t0,none⟩=some (Iv 0)):=λW hW=>aB W (Jd aA hW)
 clear g1 h1 aB;clear r0 r1 r2 zA cB aA;go_upto_region 4 with fail;generalize World.alloc u3 _=v3 at*;generalize u3.heap.size=k3 at*;have vC:Hi (Below v1.heap.size v1 v3):=Jd HP2.o HP3.o;obtain⟨r0,r1,r2⟩:=Qay (HX2.o v3 (HP3.o));have cr:=Jev v3 _ (sB.o.up (HP3.o));go_wp2_with fail;refine cr.mono ?_;clear cr;rintro e u4 ⟨hD,rfl,uA,jB⟩;obtain⟨d0,e0,d1,e1,d2,e2,d3,e3,rfl,h2⟩:=uA.form2;have dA:Below u4.heap.size u4 (u4.alloc (.cells #[.slice d0 17 e0,.slice d1 1 e1,.slice d2 1 e2,.slice d3 2 e3] 31)):=zO.alloc zP _;have gC:Hi (Bel w (u4.alloc (.cells #[.slice d0 17 e0,.slice d1 1 e1,.slice d2 1 e2,.slice d3 2 e3] 31))):=Jd dC.o (Jd jB dA);have HX4:=Zh (BxB.of (zQ u4 (.cells #[.slice d0 17 e0,.slice d1 1 e1,.slice d2 1 e2,.slice d3 2 e3] 31)));have dB:Hi (CV (u4.alloc (.cells #[.slice d0 17 e0,.slice d1 1 e1,.slice d2 1 e2,.slice d3 2 e3] 31)) (u4.alloc (.cells #[.slice d0 17 e0,.slice d1 1 e1,.slice d2 1 e2,.slice d3 2 e3] 31)).heap.size cx2 #[.slice d0 17 e0,.slice d1 1 e1,.slice d2 1 e2,.slice d3 2 e3]):=(uA.up dA).mono zq;have HP4:Hi (Below v3.heap.size v3 (u4.alloc (.cells #[.slice d0 17 e0,.slice d1 1 e1,.slice d2 1 e2,.slice d3 2 e3] 31))):=Jd jB dA;obtain⟨s1,t1,rfl,gB⟩:=h2 0 6 rfl;have tB:Hi (∀W,Below (u4.alloc (.cells #[.slice d0 17 e0,.slice (some ⟨s1,t1,none⟩) 1 e1,.slice d2 1 e2,.slice d3 2 e3] 31)).heap.size (u4.alloc (.cells #[.slice d0 17 e0,.slice (some ⟨s1,t1,none⟩) 1 e1,.slice d2 1 e2,.slice d3 2 e3] 31)) W->W.cell? ⟨s1,t1,none⟩=some (Iv 6)):=λW hW=>gB W (Jd dA hW)
 clear h2 gB;clear r0 r1 r2 uA jB dA;go_upto_region 5 with fail;generalize World.alloc u4 _=v4 at*;generalize u4.heap.size=k4 at*;go_upto_region 6 with fail;have bB:=Zh (BxB.of (zQ v4 (.cells Qew 34)));have yA:Hi (Below v4.heap.size v4 (v4.alloc (.cells Qew 34))):=zO.alloc zP _;obtain⟨v5,hv5⟩:∃v5,v5=v4.alloc (.cells Qew 34):=⟨_,rfl⟩
 rw[<-hv5]at bB yA;unfold Qew at hv5;rw[<-hv5];obtain⟨wb,mB⟩:∃wb,v4.heap.size=wb:=⟨_,rfl⟩
 rw[mB]at bB |-;clear hv5 mB;have xA:Hi (Below v3.heap.size v3 v5):=Jd HP4.o yA.o;have eB:Hi (Below v2.heap.size v2 v5):=Jd HP3.o xA.o;have vA:Hi (Below v1.heap.size v1 v5):=Jd HP2.o eB.o;have HB5:Hi (Bel w v5):=Jd gC.o yA.o;obtain⟨x0,x1,x2,x3⟩:=Qao (HX3.o v5 xA.o);obtain⟨y0,y1,y2,y3⟩:=Qao (HX4.o v5 yA.o);go_wp2_with fail;clear x0 x1 x2 x3 y0 y1 y2 y3;go_loopg [10] 7 λg v10 wr=>∃i:Nat,g+i=7/\v10=Iv (i:Int)/\Hi (Below v5.heap.size v5 wr)
 case atStart=>exact⟨0,rfl,rfl,zO⟩
 case round=>
 obtain⟨wl,rfl⟩:=zJ wr;obtain⟨i,hg,rfl,hws⟩:=hrel
 by_cases hi:i<7
 ·have dil:decide ((i:Int)<7)=true:=zG zo;have diN:decide (i<7)=true:=zG hi;obtain⟨u,hu⟩:∃u,cx1.ops[i]?=some u:=⟨_,List.getElem?_eq_getElem (show i<cx1.ops.length from hi)⟩
  obtain⟨bo,oo,rfl,p0,p1,p2⟩:=uC.o wl (Jd xA.o hws.o) i u hu;obtain⟨g0,g1,g2⟩:=JkY hi hu;have hh:=bB.o wl hws.o;have q0:=(Ja hh (i*3)).trans g0;have q1:=(Ja hh (i*3+1)).trans g1;have q2:=(Ja hh (i*3+2)).trans g2;obtain⟨x0,x1,x2,x3⟩:=Qao (HX3.o wl (Jd xA.o hws.o));have j0:0<=(i:Int):=zo;have j1:(i:Int)<7:=zo;have wk:IntKind.i64.wrap ((i:Int)+1)=((i+1:Nat):Int):=by rw[IntWalk.i64_in _ zo];omega
  have uB:=Jel u u;rw[zG (rfl:u=u)]at uB;unfold opV at uB;have HGI:=Zh (And.intro hg hi);have HW:=Zh hws.o;clear hu g0 g1 g2 hh hg hi hws x1 x2 x3;go_upto_region 11 with fail;go_region_held (λW=>W.cell? ⟨k3,0,none⟩=some (.slice (some ⟨bo,oo,none⟩) 7 b0)/\W.cell? ⟨bo,oo+i*3,none⟩=some (Iv u.code)/\W.cell? ⟨bo,oo+i*3+1,none⟩=some (Iv u.n)/\W.cell? ⟨bo,oo+i*3+2,none⟩=some (.string (bs u.name))/\W.cell? ⟨wb,i*3,none⟩=some (Iv u.code)/\W.cell? ⟨wb,i*3+1,none⟩=some (Iv u.n)/\W.cell? ⟨wb,i*3+2,none⟩=some (.string (bs u.name))) (go_keep) (fail);clear x0 p0 p1 p2 q0 q1 q2 uB;go_wp2;go_roundg (7-(i+1))
  case measure=>have:=HGI.o;omega
  case rel=>exact⟨i+1,by have:=HGI.o;omega,rfl,HW.o.drew⟩
 have dil:decide ((i:Int)<7)=false:=zH zo;have diN:decide (i<7)=false:=zH hi;have bA:=Zh hws.o;clear hi hg hws;go_upto_region 13 with fail;clear dil diN;obtain⟨z0,rfl⟩:=zJ wl;obtain⟨r0,r1,r2⟩:=Qay (HX1.o z0 (Jd vA.o bA.o));obtain⟨x0,x1,x2,x3⟩:=Qao (HX3.o z0 (Jd xA.o bA.o));have cr:=JgA z0 _ _ v3.heap.size ((Jd xA.o bA.o)).size (nA.o.up (Jd vA.o bA.o)) (hB.o.up (Jd xA.o bA.o));go_wp2_with fail;refine cr.mono ?_;clear cr r0 r1 r2 x0 x1 x2 x3;rintro e y1 ⟨rfl,hb⟩;have zC:=Zh (BxB.of (zQ y1 (.cells #[Iv 3,.string ⟨#[120]⟩,Iv 1,Iv 0] 48)));have aC:Hi (Below z0.heap.size z0 (y1.alloc (.cells #[Iv 3,.string ⟨#[120]⟩,Iv 1,Iv 0] 48))):=Jd hb (zO.alloc zP _);have cA:Hi (Below v5.heap.size v5 (y1.alloc (.cells #[Iv 3,.string ⟨#[120]⟩,Iv 1,Iv 0] 48))):=Jd bA.o aC.o;clear hb;go_upto_region 14 with fail;generalize World.alloc y1 _=z1 at*;generalize y1.heap.size=j1 at*;obtain⟨r0,r1,r2⟩:=Qay (HX1.o z1 (Jd vA.o cA.o));obtain⟨x0,x1,x2,x3⟩:=Qao (HX3.o z1 (Jd xA.o cA.o));have cr:=JgB z1 _ _ v3.heap.size ((Jd xA.o cA.o)).size (nA.o.up (Jd vA.o cA.o)) (hB.o.up (Jd xA.o cA.o));go_wp2_with fail;refine cr.mono ?_;clear cr r0 r1 r2 x0 x1 x2 x3;rintro e y2 ⟨rfl,hb⟩;have HQ2:=Zh (BxB.of (zQ y2 (.cells #[Iv 0,Em,Iv 1,Iv 0] 48)));have nB:Hi (Below z1.heap.size z1 (y2.alloc (.cells #[Iv 0,Em,Iv 1,Iv 0] 48))):=Jd hb (zO.alloc zP _);have HZ2:Hi (Below v5.heap.size v5 (y2.alloc (.cells #[Iv 0,Em,Iv 1,Iv 0] 48))):=Jd cA.o nB.o;clear hb;go_upto_region 15 with fail;generalize World.alloc y2 _=z2 at*;generalize y2.heap.size=j2 at*;obtain⟨r0,r1,r2⟩:=Qay (HX2.o z2 (Jd eB.o HZ2.o));obtain⟨x0,x1,x2,x3⟩:=Qao (HX4.o z2 (Jd yA.o HZ2.o));have cr:=JgC z2 _ _ v4.heap.size ((Jd yA.o HZ2.o)).size (sB.o.up (Jd eB.o HZ2.o)) (dB.o.up (Jd yA.o HZ2.o));go_wp2_with fail;refine cr.mono ?_;clear cr r0 r1 r2 x0 x1 x2 x3;rintro e y3 ⟨rfl,hb⟩;have bC:=Zh (BxB.of (zQ y3 (.cells #[Iv 2,.string ⟨#[121]⟩,Iv 7,Iv 0] 48)));have qB:Hi (Below z2.heap.size z2 (y3.alloc (.cells #[Iv 2,.string ⟨#[121]⟩,Iv 7,Iv 0] 48))):=Jd hb (zO.alloc zP _);have HZ3:Hi (Below v5.heap.size v5 (y3.alloc (.cells #[Iv 2,.string ⟨#[121]⟩,Iv 7,Iv 0] 48))):=Jd HZ2.o qB.o;clear hb;go_upto_region 16 with fail;generalize World.alloc y3 _=z3 at*;generalize y3.heap.size=j3 at*;obtain⟨r0,r1,r2⟩:=Qay (HX1.o z3 (Jd vA.o HZ3.o));obtain⟨x0,x1,x2,x3⟩:=Qao (HX4.o z3 (Jd yA.o HZ3.o));have cr:=JgD z3 _ _ v4.heap.size ((Jd yA.o HZ3.o)).size (nA.o.up (Jd vA.o HZ3.o)) (dB.o.up (Jd yA.o HZ3.o));go_wp2_with fail;refine cr.mono ?_;clear cr r0 r1 r2 x0 x1 x2 x3;rintro e y4 ⟨rfl,hb⟩;have eC:=Zh (BxB.of (zQ y4 (.cells #[Iv 0,Em,Iv 0,Iv 1] 48)));have kB:Hi (Below z3.heap.size z3 (y4.alloc (.cells #[Iv 0,Em,Iv 0,Iv 1] 48))):=Jd hb (zO.alloc zP _);have kA:Hi (Below v5.heap.size v5 (y4.alloc (.cells #[Iv 0,Em,Iv 0,Iv 1] 48))):=Jd HZ3.o kB.o;clear hb;go_upto_region 17 with fail;generalize World.alloc y4 _=z4 at*;generalize y4.heap.size=j4 at*;obtain⟨x0,x1,x2,x3⟩:=Qao (HX3.o z4 (Jd xA.o kA.o));have cr:=Jdm z4 v3.heap.size (Jd xA.o kA.o).size _ (hB.o.up (Jd xA.o kA.o));go_wp2_with fail;refine cr.mono ?_;clear cr x0 x1 x2 x3;rintro e z5 ⟨rfl,hb5⟩;have xB:=Zh (Jd kA.o hb5);have hC:=Zh hb5;clear hb5;obtain⟨x0,x1,x2,x3⟩:=Qao (HX4.o z5 (Jd yA.o xB.o));have cr:=Jdo z5 v4.heap.size (Jd yA.o xB.o).size _ (dB.o.up (Jd yA.o xB.o));go_wp2_with fail;refine cr.mono ?_;clear cr x0 x1 x2 x3;rintro e z6 ⟨rfl,hb6⟩;have iC:=Zh (Jd xB.o hb6);have xC:=Zh (Jd hC.o hb6);clear hb6;have cr:=Jdp z6;go_wp2_with fail;refine cr.mono ?_;clear cr;rintro e z7 ⟨rfl,hb7⟩;have HZ7:=Zh (Jd iC.o hb7);have pB:Hi (Below z4.heap.size z4 z7):=Jd xC.o hb7;have eA:Hi (Below z3.heap.size z3 z7):=Jd kB.o pB.o;have gA:Hi (Below z2.heap.size z2 z7):=Jd qB.o eA.o;have vB:Hi (Below z1.heap.size z1 z7):=Jd nB.o gA.o;clear hb7;obtain⟨x0,x1,x2,x3⟩:=Qao (HX3.o z7 (Jd xA.o HZ7.o));obtain⟨y0,y1,y2,y3⟩:=Qao (HX4.o z7 (Jd yA.o HZ7.o));have aB:=yC.o z7 (Jd xA.o HZ7.o);have gB:=tB.o z7 (Jd yA.o HZ7.o);obtain⟨gD,iD,rC,uD⟩:=Qao (zC.o z7 vB.o);obtain⟨jC,xD,pC,kD⟩:=Qao (HQ2.o z7 gA.o);obtain⟨zD,yD,cD,qC⟩:=Qao (bC.o z7 eA.o);obtain⟨vD,eD,dD,bD⟩:=Qao (eC.o z7 pB.o);have nC:=JiY;have jD:=JiZ;have tC:=Jja;have aD:=Jjb
 have HT:Hi (R (.returned (.bool true)) z7):=by
  rw[<-HR.o];exact⟨rfl,Jd HB5.o HZ7.o⟩
 clear HR;go_wp2;exact HT.o
end Go.Proofs.YtfafpklefknomaaGreatDoor


