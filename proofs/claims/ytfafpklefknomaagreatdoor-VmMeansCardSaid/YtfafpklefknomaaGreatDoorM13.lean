import Derived.KernelRfl
import Derived.Deep.Slices
import Derived.Deep.Fields
import Derived.SliceStrings
import Derived.ChangeSlices
import Derived.ChangeMaps5
import Derived.ChangeArms
import Derived.SizedLaws
import Derived.Test.YtfafpklefknomaaGreatDoorCards
import Derived.Test.YtfafpklefknomaaGreatDoorTie
import Derived.SevenTiedAt
import Derived.ChangeVars
import Derived.JoinedOf
import Derived.JoinedAt
import Derived.RowKit
import Derived.RowKit3
import Derived.RowKitTokens
import Derived.Test.YtfafpklefknomaaGreatDoorM12
import Derived.Test.YtfafpklefknomaaGreatDoorM10
import Derived.Test.YtfafpklefknomaaGreatDoorM07
import Derived.Test.YtfafpklefknomaaGreatDoorM00
import Derived.Test.YtfafpklefknomaaGreatDoorM09
import Derived.Test.YtfafpklefknomaaGreatDoorM08
open List(getD_eq_getElem?_getD getElem?_eq_getElem getElem?_map map_cons mem_map sum_cons)
open Nat(le_refl le_trans)
namespace Go.Proofs.YtfafpklefknomaaGreatDoor
open Go Go.ChangeShapes Go.WideShapes Go.ChangeAt Go.RowKit Go.Lib
open _root_.Go.Proofs.Tryz
set_option linter.all false
set_option maxRecDepth 100000
set_option maxHeartbeats 32000000
def zz{P:Prop}(h:P:=by exact ⟨a+1,_,_,by have:=P2.o;omega,by have:=P2.o;omega,rfl,BB.o.cp,BB.o.dp,BB.o.dk,LD.o,BB.o.chg⟩):P:=h
def Qio(o:OpM)(a t:Nat):Prop:=(o.code≠16/\o.code≠20/\o.code≠22/\t=a+1)\/(isJ o/\o.n=(t:Int))
def DpK(dep:Nat->Int)(fr m:Nat)(ds:List Int)(ks:List Bool):Prop:=ds.length=m/\ks.length=m/\∀i,i<m->ks.getD i false=true->ds.getD i 0=dep (fr+i)/\0<=dep (fr+i)/\dep (fr+i)<=(i:Int)
def DpR(c:Qaf)(fr te a:Nat)(ks:List Bool):Prop:=∀t,fr<=t->t<te->(t=fr\/∃a' o,fr<=a'/\a'<a/\c.ops[a']?=some o/\Qio o a' t)->ks.getD (t-fr) false=true
variable{i fr m te fuel b0 n base:Nat}{α H:Type}
def Ks{l:List α}{x z:α}(h:i<l.length):(l.set i x).getD i z=x:=by
 rw[getD_eq_getElem?_getD,List.getElem?_set_self h];rfl
def VL{l:List α}{j:Nat}{x z:α}(h:i≠j):(l.set i x).getD j z=l.getD j z:=by
 rw[getD_eq_getElem?_getD,getD_eq_getElem?_getD,List.getElem?_set_ne h]
variable{dep:Nat->Int}{ds:List Int}{ks:List Bool}
def DpK.mark(h:DpK dep fr m ds ks)(hi:i<m){x:Int}(hx:x=dep (fr+i))(h0:0<=x)(h1:x<=(i:Int)):DpK dep fr m (ds.set i x) (ks.set i true):=by
 obtain⟨g1,g2,g3⟩:=h;refine⟨by rw[List.length_set];exact g1,by rw[List.length_set];exact g2,λj hj hk=>?_⟩
 by_cases e:i=j
 ·subst e;rw[Ks zo,<-hx];exact⟨rfl,h0,h1⟩
 ·rw[VL e]at hk |-;exact g3 j hj hk
def VM{j:Nat}(h:ks.getD j false=true):(ks.set i true).getD j false=true:=by
 by_cases e:i=j
 ·subst e
  by_cases hl:i<ks.length
  ·exact Ks hl
  ·rw[getD_eq_getElem?_getD,List.getElem?_eq_none zo]at h
   cases h
 ·rw[VL e];exact h
variable{c:Qaf}
def DpR.next{a:Nat}{ks':List Bool}(h:DpR c fr te a ks)(hm:∀j,ks.getD j false=true->ks'.getD j false=true){o:OpM}(ho:c.ops[a]?=some o)(he:∀t,fr<=t->t<te->Qio o a t->ks'.getD (t-fr) false=true):DpR c fr te (a+1) ks':=by
 intro t t1 t2 ht
 rcases ht with rfl|⟨a',o',g1,g2,g3,g4⟩
 ·exact hm _ (h _ t1 t2 (.inl rfl))
 ·by_cases e:a'=a
  ·subst e;rw[ho]at g3;obtain rfl:=Option.some.inj g3;exact he t t1 t2 g4
  ·exact hm _ (h t t1 t2 (.inr ⟨a',o',g1,by omega,g3,g4⟩))
def DpR.first(c:Qaf)(h0:ks.getD 0 false=true):DpR c fr te fr ks:=by
 intro t t1 t2 ht
 rcases ht with rfl|⟨a',o',g1,g2,_⟩
 ·rw[Nat.sub_self];exact h0
 ·omega
def Qfx:(prog.info? 4).map (λi=>(i.zero,i.size,i.bytes))=some (some (.bool false),1,1):=zk
def QfS(n:Nat)(hn:n<=1000000000)(W:World):(Instr.makeSlice 168 (Iv (n:Int)) (Iv (n:Int))).run prog W=.ok (.slice (some ⟨W.heap.size,0,none⟩) n n) (W.alloc (.cells (madeCells #[.bool false] n) 4)):=
 run_make_row' 168 4 (.bool false) 1 underlying168 Qfx rfl .i64 .i64 n zo zo W
def Qjd(n:Nat):madeCells #[Iv 0] n=(Qad (List.replicate n 0)).toArray:=by
 apply Array.ext';rw[toList_madeCells_one];unfold Qad;simp
def Qje(n:Nat):madeCells #[.bool false] n=(Qcq (List.replicate n false)).toArray:=by
 apply Array.ext';rw[toList_madeCells_one];unfold Qcq;simp
def Jop(w:World)(o0 o1 o2 o3 o4 o5 o6:Obj):yr w (((((((w.alloc o0).alloc o1).alloc o2).alloc o3).alloc o4).alloc o5).alloc o6)/\
  (((((((w.alloc o0).alloc o1).alloc o2).alloc o3).alloc o4).alloc o5).alloc o6).heap[w.heap.size]?=some o0/\(((((((w.alloc o0).alloc o1).alloc o2).alloc o3).alloc o4).alloc o5).alloc o6).heap[w.heap.size+1]?=some o1/\
  (((((((w.alloc o0).alloc o1).alloc o2).alloc o3).alloc o4).alloc o5).alloc o6).heap[w.heap.size+1+1]?=some o2/\(((((((w.alloc o0).alloc o1).alloc o2).alloc o3).alloc o4).alloc o5).alloc o6).heap[w.heap.size+1+1+1]?=some o3/\
  (((((((w.alloc o0).alloc o1).alloc o2).alloc o3).alloc o4).alloc o5).alloc o6).heap[w.heap.size+1+1+1+1]?=some o4/\(((((((w.alloc o0).alloc o1).alloc o2).alloc o3).alloc o4).alloc o5).alloc o6).heap[w.heap.size+1+1+1+1+1]?=some o5/\
  (((((((w.alloc o0).alloc o1).alloc o2).alloc o3).alloc o4).alloc o5).alloc o6).heap[w.heap.size+1+1+1+1+1+1]?=some o6:=by
 have h0:=zQ w o0;have h1:=zQ (w.alloc o0) o1;have h2:=zQ ((w.alloc o0).alloc o1) o2;have h3:=zQ (((w.alloc o0).alloc o1).alloc o2) o3;have h4:=zQ ((((w.alloc o0).alloc o1).alloc o2).alloc o3) o4;have h5:=zQ (((((w.alloc o0).alloc o1).alloc o2).alloc o3).alloc o4) o5;have h6:=zQ ((((((w.alloc o0).alloc o1).alloc o2).alloc o3).alloc o4).alloc o5) o6;simp only[World.size_alloc]at h1 h2 h3 h4 h5 h6;refine⟨(((((((zO.alloc (Nat.le_refl _) _).alloc (by simp only[World.size_alloc];omega) _).alloc (by simp only[World.size_alloc];omega) _).alloc (by simp only[World.size_alloc];omega) _).alloc (by simp only[World.size_alloc];omega) _).alloc (by simp only[World.size_alloc];omega) _).alloc (by simp only[World.size_alloc];omega) _),?_,?_,?_,?_,?_,?_,h6⟩
 ·exact Jf (Jf (Jf (Jf (Jf (Jf h0)))))
 ·exact Jf (Jf (Jf (Jf (Jf h1))))
 ·exact Jf (Jf (Jf (Jf h2)))
 ·exact Jf (Jf (Jf h3))
 ·exact Jf (Jf h4)
 ·exact Jf h5
def Jdi(h:∀x∈c.params,0<=x)(o:OpM):0<=QaA c o:=by
 unfold QaA
 repeat' split
 all_goals try omega
 rw[getD_eq_getElem?_getD]
 cases hx:c.params[o.n.toNat]? with
 |none=>exact Int.le_refl _
 |some x=>exact h x (List.mem_of_getElem? hx)
def JiT(o:OpM):0<=Qbl o/\Qbl o<=1:=by
 unfold Qbl
 repeat' split
 all_goals omega
structure DpS(dep:Nat->Int)(fr te m cb bt bk bf bd gd gq:Nat)(C:Array Value)(w4:World)(ds:List Int)(ks:List Bool)(W:World):Prop where
 cp:Qfa W bt bk bf bd fr te gd gq
 dp:QdO W gd gq m ds ks
 dk:DpK dep fr m ds ks
 box:W.heap[cb]?=some (.cells C 31 (0,0))
 chg:Chg [gd,gq] w4 W
variable{W w:World}
def DpS.up{cb bt bk bf bd gd gq:Nat}{C:Array Value}{w4 W':World}(h:DpS dep fr te m cb bt bk bf bd gd gq C w4 ds ks W)(hb:yr W W'):DpS dep fr te m cb bt bk bf bd gd gq C w4 ds ks W':=
 ⟨h.cp.keep λb hb'=>hb.block _ (hb'.elim (λe=>e ▸ Jb h.cp.t) λhb'=>hb'.elim (λe=>e ▸ Jb h.cp.k) λhb'=>hb'.elim (λe=>e ▸ Jb h.cp.f) λe=>e ▸ Jb h.cp.d),h.dp.up hb,h.dk,(hb.block _ (Jb h.box)).trans h.box,h.chg.trans (Chg.of_below hb _)⟩
def DpS.turn{cb bt bk bf bd gd gq:Nat}{C:Array Value}{w4 W':World}{ds':List Int}{ks':List Bool}(h:DpS dep fr te m cb bt bk bf bd gd gq C w4 ds ks W)(C3:cb≠gd/\cb≠gq)(h1:Qfa W' bt bk bf bd fr te gd gq)(h2:QdO W' gd gq m ds' ks')(h3:Chg [gd,gq] W W')(h4:DpK dep fr m ds' ks'):DpS dep fr te m cb bt bk bf bd gd gq C w4 ds' ks' W':=
 ⟨h1,h2,h4,h3.heap_some (by simp;exact C3) h.box,h.chg.trans h3⟩
def Qkj{P:Prop}(h:P:=by
  have F7:o.code≠16:=by omega
  have T3:o.code≠20:=by omega
  have PB:o.code≠22:=by omega
  have d8:a+1<te:=OH.o F7 T3 PB;have E7:fr<=a+1:=by have:=P2.o;omega
  have MD:dep (a+1)=D+(U-P):=by
   have h:=PA.o.next F7 T3 PB;rw[DD.o.1,DD.o.2,SC.o.1]at h;omega
  have hcn:=VK w7 bt bk bf bd fr te gd gq (ds.set (nn-fr) (D+(U-P))) (ks.set (nn-fr) true) (a+1) (D+(U-P)) o7.o.cp (by rw[HM.o];exact o7.o.dp) R8.o.1 (E7) (d8) (by omega) R8.o.2.1 (λhk=>by
   have h:=(o7.o.dk.2.2 (a+1-fr) (by have:=HM.o;have:=P2.o;have:=d8;omega) hk).1;rw[h,<-MD]
   congr 1
   have:=P2.o
   omega)
  rw[HM.o]at hcn;have uG:=Zh MD;clear MD;go_wp2_with fail;refine hcn.mono ?_;clear hcn y0 y1 y2;rintro e w8 ⟨rfl,B8,Q9,hch⟩;have BB:=Zh (o7.o.turn R8.o.2.2 B8 Q9 hch (o7.o.dk.mark (i:=a+1-fr) (by have:=HM.o;have:=P2.o;have:=d8;omega) (by rw[<-uG.o];congr 1;have:=P2.o;omega) C4.o.1 (by have:=C4.o.2;have:=P2.o;have:=ND.o.1;omega)));have vG:=Zh (hch.heap_some (by have:=A9.o;simp;exact this) X9.o);clear B8 Q9 hch;obtain⟨y0,y1,y2⟩:=Qay vG.o
  have LD:Hi (DpR c fr te (a+1) ((ks.set (nn-fr) true).set (a+1-fr) true)):=ED.o.next (λ_ h=>VM (VM h)) HO.o λt t1 t2 he=>by
   rcases he with⟨_,_,_,rfl⟩|⟨_,h⟩
   ·exact Ks (by rw[List.length_set,E5.o.dk.2.1];have:=HM.o;have:=P2.o;omega)
   ·have e:t=nn:=by have:=OB.o.2;omega
    subst e;exact VM (Ks (by rw[E5.o.dk.2.1];have:=HM.o;have:=P2.o;omega))
  go_wp2;go_roundg (te-(a+1))
  case measure=>have:=P2.o;omega
  case rel=>exact zz):P:=h
def Qki{P:Prop}(h:P:=by
  have F7:o.code≠16:=by omega
  have T3:o.code≠20:=by omega
  have PB:o.code≠22:=by omega
  have d8:a+1<te:=OH.o F7 T3 PB;have E7:fr<=a+1:=by have:=P2.o;omega
  have MD:dep (a+1)=D+(U-P):=by
   have h:=PA.o.next F7 T3 PB;rw[DD.o.1,DD.o.2,SC.o.1]at h;omega
  have hcn:=VK w6 bt bk bf bd fr te gd gq ds ks (a+1) (D+(U-P)) E5.o.cp (by rw[HM.o];exact E5.o.dp) R8.o.1 (E7) (d8) (by omega) R8.o.2.1 (λhk=>by
   have h:=(E5.o.dk.2.2 (a+1-fr) (by have:=HM.o;have:=P2.o;have:=d8;omega) hk).1;rw[h,<-MD]
   congr 1
   have:=P2.o
   omega)
  rw[HM.o]at hcn;have uG:=Zh MD;clear MD;go_wp2_with fail;refine hcn.mono ?_;clear hcn y0 y1 y2 tk tf k0;rintro e w8 ⟨rfl,B8,Q9,hch⟩;have BB:=Zh (E5.o.turn R8.o.2.2 B8 Q9 hch (E5.o.dk.mark (i:=a+1-fr) (by have:=HM.o;have:=P2.o;have:=d8;omega) (by rw[<-uG.o];congr 1;have:=P2.o;omega) C4.o.1 (by have:=C4.o.2;have:=P2.o;have:=ND.o.1;omega)));have vG:=Zh (hch.heap_some (by have:=A9.o;simp;exact this) X7.o);clear B8 Q9 hch;obtain⟨y0,y1,y2⟩:=Qay vG.o
  have LD:Hi (DpR c fr te (a+1) (ks.set (a+1-fr) true)):=ED.o.next (λ_ h=>VM h) HO.o λt t1 t2 he=>by
   rcases he with⟨_,_,_,rfl⟩|⟨h,_⟩
   ·exact Ks (by rw[E5.o.dk.2.1];have:=HM.o;have:=P2.o;omega)
   ·unfold isJ at h;omega
  go_wp2;go_roundg (te-(a+1))
  case measure=>have:=P2.o;omega
  case rel=>exact zz):P:=h
def Qjq{P:Prop}(h:P:=by
  go_wp2;go_roundg (te-(a+1))
  case measure=>have:=P2.o;omega
  case rel=>exact⟨a+1,ds,ks,by have:=P2.o;omega,by have:=P2.o;omega,rfl,E5.o.cp,E5.o.dp,E5.o.dk,LD.o,E5.o.chg⟩):P:=h
def Qgw{P:Prop}(h:P:=by
  have h:=PA.o.jump hj;rw[DD.o.1,DD.o.2,SC.o.1,hnn,Int.toNat_natCast]at h
  omega):P:=h
def Vp(c:Qaf)(L:Int)(main:Bool)(fr te:Nat)(hP:QeC c L main fr te)(hlen:c.ops.length<=40000000)(hpl:c.params.length<=1000000000)(fE:∀x∈c.params,0<=x)(p:Nat)(w:World)(hp:p<=w.heap.size)(d:Array Value)(h:CV w p c d):
  Calls prog 41 #[.agg d,Iv (fr:Nat),Iv (te:Nat)] w (Qbj w (.bool true)):=by
 obtain⟨a0,c0,a1,c1,a2,c2,a3,c3,rfl,g0,g1,g2,g3⟩:=h.g;have E6:=Zh h;obtain⟨M4,jB,uA,dep,aA,hA⟩:=hP;obtain⟨n0,R4⟩:=yt c.ops.length
 obtain⟨n1,P4⟩:=yt c.starts.length
 obtain⟨n2,xA⟩:=yt c.params.length
 obtain⟨n3,vA⟩:=yt c.slots.length
 rw[R4,P4,xA,vA]at E6 |-;rw[R4]at hlen jB;rw[xA]at hpl;obtain⟨m,hm⟩:=yt (te-fr)
 have xB:0<m:=zo;have iC:IntKind.i64.wrap ((te:Int)-(fr:Int))=(m:Int):=by rw[IntWalk.i64_in _ zo];omega
 have qB:=QdZ m zo;have tB:=QfS m zo;have sB:∀(fn:Fn)(first cap:Array Value)(w:World),(Instr.makeFunc fn first cap).run prog w=.ok (.func fn first cap) w:=λ_ _ _ _=>rfl
 have HG:=Zh g0;have kB:=Zh hA;have xC:=Zh uA;have iB:=Zh aA;have L4:=Zh hp;have rA:=Zh fE;have HM:=Zh hm;have nB:=Zh xA;clear h g0 g1 g2 g3 hp hA uA aA fE R4 P4 xA vA hm;go_enter func41,ntmps41;go_upto_region 3 with fail;clear qB tB;have N2:=Jop w (.cells (zm a0 n0 c0 a1 n1 c1 a2 n2 c2 a3 n3 c3) 31) (.cells #[Iv (fr:Nat)] 3) (.cells #[Iv (te:Nat)] 3) (.cells (madeCells #[Iv 0] m) 3) (.cells #[.slice (some ⟨w.heap.size+1+1+1,0,none⟩) m m] 29) (.cells (madeCells #[.bool false] m) 4) (.cells #[.slice (some ⟨w.heap.size+1+1+1+1+1,0,none⟩) m m] 168);have T7:=Zh N2.1;have yB:=Zh N2.2;clear N2;rw[Qjd,Qje]at T7 yB |-;generalize World.alloc _ (.cells #[.slice (some ⟨w.heap.size+1+1+1+1+1,0,none⟩) m m] 168)=w3 at*
 have R8:Hi (w.heap.size+1+1+1≠w.heap.size+1+1+1+1+1/\(∀b,b=w.heap.size+1+1\/b=w.heap.size+1+1+1+1+1+1\/b=w.heap.size+1\/b=w.heap.size+1+1+1+1->b≠w.heap.size+1+1+1/\b≠w.heap.size+1+1+1+1+1)/\w.heap.size≠w.heap.size+1+1+1/\w.heap.size≠w.heap.size+1+1+1+1+1):=by
  refine⟨by omega,λb hb=>by omega,by omega,by omega⟩
 have D6:Hi (∀b,b=w.heap.size+1+1+1\/b=w.heap.size+1+1+1+1+1->w.heap.size<=b):=λb hb=>by omega
 generalize w.heap.size+1+1+1+1+1+1=bk at*;generalize w.heap.size+1+1+1+1+1=gq at*;generalize w.heap.size+1+1+1+1=bd at*;generalize w.heap.size+1+1+1=gd at*;generalize w.heap.size+1+1=bt at*;generalize w.heap.size+1=bf at*;obtain⟨cb,C3⟩:=yt w.heap.size
 have gA:=yB.o;rw[C3]at gA R8 |-;obtain⟨r0,r1,r2,r3,r4,r5,r6⟩:=gA;have Y6:=Zh r0;have I7:Hi (Qfa w3 bt bk bf bd fr te gd gq):=⟨r2,by rw[HM.o];exact r6,r1,by rw[HM.o];exact r4⟩
 have CB:Hi (QdO w3 gd gq m (List.replicate m 0) (List.replicate m false)):=⟨r3,r5,by simp,by simp⟩
 have t1:=JV r6;obtain⟨k0,k1⟩:=CB.o.k xB;have j0:(0:Int)<(m:Int):=zo;clear r0 r1 r2 r3 r4 r5 r6 C3 yB;go_upto_region 5 with fail;clear t1 k0 k1 sB;have bB:=Zh (CB.o.setk R8.o.1 0 true);have X6:Hi (Qfa (w3.setCell ⟨gq,0,none⟩ (.bool true)) bt bk bf bd fr te gd gq):=I7.o.keep λb hb=>heap_setCell_other _ _ _ _ (by have:=(R8.o.2.1 b hb).2;simpa using this)
 have uB:Hi ((w3.setCell ⟨gq,0,none⟩ (.bool true)).heap[cb]?=_):=Ji Y6.o (by simpa using R8.o.2.2.2) (.bool true);have qA:Hi (yr w (w3.setCell ⟨gq,0,none⟩ (.bool true))):=T7.o.setCell (by simpa using D6.o gq (.inr rfl)) _
 have hB:Hi (DpK dep fr m (List.replicate m 0) ((List.replicate m false).set 0 true)):=by
  refine⟨by simp,by simp,λi hi hk=>?_⟩
  by_cases e:i=0
  ·subst e;rw[Nat.add_zero,iB.o];exact⟨by simp[getD_eq_getElem?_getD,xB],Int.le_refl _,Int.le_refl _⟩
  ·rw[VL zo]at hk;simp[getD_eq_getElem?_getD,hi]at hk
 have aB:Hi (DpR c fr te fr ((List.replicate m false).set 0 true)):=DpR.first c (Ks (by simpa using xB))
 clear CB I7 Y6 T7;generalize World.setCell w3 _ _=w4 at*;have t2:=JV X6.o.f;go_wp2_with fail;clear t2;go_loopg [10] m λg v10 wr=>∃(a:Nat) (ds:List Int) (ks:List Bool),g+a=te/\fr<=a/\v10=Iv (a:Int)/\Hi (Qfa wr bt bk bf bd fr te gd gq/\QdO wr gd gq m ds ks/\DpK dep fr m ds ks/\DpR c fr te a ks/\Chg [gd,gq] w4 wr)
 case atStart=>exact⟨fr,_,_,by have:=HM.o;omega,Nat.le_refl _,rfl,X6.o,bB.o,hB.o,aB.o,Chg.refl _ _⟩
 case round=>
 clear bB X6 hB aB;obtain⟨wl,rfl⟩:=zJ wr;obtain⟨a,ds,ks,hg,eA,rfl,A2⟩:=hrel;have A0:=Zh A2.o.1;have dA:=Zh A2.o.2.1;have tA:=Zh A2.o.2.2.1;have ED:=Zh A2.o.2.2.2.1;have L9:=Zh A2.o.2.2.2.2;clear A2;have tt:=JV A0.o.t
 by_cases hi:a<te
 ·have dil:decide ((a:Int)<(te:Int))=true:=zG zo;have diN:decide (a<te)=true:=zG hi;obtain⟨i,sA⟩:=yt (a-fr)
  have cA:i<m:=by have:=HM.o;omega
  have hkn:ks.getD i false=true:=by
   rw[<-sA];refine ED.o a eA hi ?_
   by_cases e:a=fr
   ·exact .inl e
   ·obtain⟨a',o',g1,g2,g3,g4⟩:=xC.o a zo hi;exact .inr ⟨a',o',g1,g2,g3,g4⟩
  obtain⟨o,ho,eB,dB⟩:=kB.o a eA hi;obtain⟨pA,nA,mA⟩:=tA.o.2.2 i cA hkn;have gB:fr+i=a:=zo;rw[gB]at pA nA mA;obtain⟨D,hD⟩:=yt (dep a)
  rw[hD]at pA nA mA
  have O4:Hi (Below p w wl):=by
   have hb:=qA.o;have hc:=L9.o
   exact Kr (hb.mono L4.o) hc.os hc.tape hc.output hc.size (λk hk=>hc.block k (Nat.lt_of_lt_of_le hk (le_trans L4.o hb.size)) (by
    have h1:=D6.o gd (.inl rfl);have h2:=D6.o gq (.inr rfl);have h3:=L4.o;simp
    omega))
  obtain⟨b0,o0,rfl,kc⟩:=HG.o a o ho;obtain⟨p0,p1,p2⟩:=kc _ O4.o;have bA:Hi (wl.heap[cb]?=_):=L9.o.heap_some (by have:=R8.o.2.2;simp;exact this) uB.o;obtain⟨x0,x1,x2,x3⟩:=Qao bA.o;have tk:=JV A0.o.k;have tf:=JV A0.o.f;have td:=JV A0.o.d;rw[HM.o]at tk td;have d0:=(dA.o.d cA).1;rw[pA]at d0;have k0:=(dA.o.k cA).1;rw[hkn]at k0;have eC:IntKind.i64.wrap ((a:Int)-(fr:Int))=(i:Int):=by rw[IntWalk.i64_in _ zo];omega
  have j0:0<=(a:Int):=zo;have j1:(a:Int)<(n0:Int):=zo;have j2:(i:Int)<(m:Int):=zo;have j3:0<=(i:Int):=zo;have wk:IntKind.i64.wrap ((a:Int)+1)=((a+1:Nat):Int):=by rw[IntWalk.i64_in _ zo];omega
  have PA:=Zh eB;have OH:=Zh dB;have HO:=Zh ho;have SC:=Zh (And.intro hD (And.intro nA mA));have ND:=Zh (And.intro sA cA);have rB:=Zh hkn;have P2:=Zh (And.intro hg (And.intro eA hi));clear eB dB ho hD pA nA mA sA cA hkn gB hg eA hi kc;go_upto_region 8 with fail;go_region_held (λW=>W.cell? ⟨cb,0,none⟩=some (.slice (some ⟨b0,o0,none⟩) n0 c0)/\W.cell? ⟨b0,o0+a*3,none⟩=some (Iv o.code)/\W.cell? ⟨b0,o0+a*3+1,none⟩=some (Iv o.n)/\W.cell? ⟨b0,o0+a*3+2,none⟩=some (Sv o.name)/\W.cell? ⟨bd,0,none⟩=some (.slice (some ⟨gd,0,none⟩) m m)/\W.cell? ⟨bf,0,none⟩=some (Iv (fr:Nat))/\W.cell? ⟨gd,i,none⟩=some (Iv D)) (go_keep) (fail);obtain⟨ob,cB⟩:=yt wl.heap.size
  have X7:=Zh (zQ wl (.cells (yu o) 34))
  have A9:Hi (ob≠gd/\ob≠gq):=by
   have h1:=Jb dA.o.hd;have h2:=Jb dA.o.hk;unfold Hi;omega
  rw[cB]at X7 |-;have vB:yr wl (wl.alloc (.cells (yu o) 34)).drew:=(zO.alloc (Nat.le_refl _) _).drew;have E5:=Zh (DpS.up (dep:=dep) (w4:=w4) (C:=(zm (some ⟨b0,o0,none⟩) n0 c0 a1 n1 c1 a2 n2 c2 a3 n3 c3)) ⟨A0.o,dA.o,tA.o,bA.o,L9.o⟩ vB);have T6:=Zh (O4.o.trans (vB.mono (le_trans L4.o (le_trans qA.o.size L9.o.size))));replace X7:Hi ((wl.alloc (.cells (yu o) 34)).drew.heap[ob]?=_):=X7.o;clear cB vB p0 p1 p2 x0 x1 x2 x3 tk tf td tt d0 k0 A0 dA tA bA L9 O4;generalize World.drew _=w5 at*;obtain⟨x0,x1,x2,x3⟩:=Qao E5.o.box;obtain⟨y0,y1,y2⟩:=Qay X7.o;have zB:=Jgg c o p w5 (le_trans L4.o (le_trans qA.o.size E5.o.chg.size)) _ (E6.o.up T6.o) PA.o.code PA.o.nc (by rw[nB.o];exact hpl);have iA:=PA.o.pops;obtain⟨P,hP⟩:=yt (QaA c o)
  obtain⟨U,hU⟩:=yt (Qbl o)
  rw[hP,hU]at zB;rw[hP,SC.o.1]at iA;have pB:0<=P:=by rw[<-hP];exact Jdi rA.o o
  have yC:0<=U/\U<=1:=by rw[<-hU];exact JiT o
  have DD:=Zh (And.intro hP hU);have q0:decide (D<P)=false:=zH zo;clear hP hU;go_wp2_with fail;refine zB.mono ?_;clear zB x0 x1 x2 x3 y0 y1 y2;rintro e w6 ⟨rfl,M2⟩;replace E5:=Zh (E5.o.up M2);replace X7:=Zh ((M2.block _ (Jb X7.o)).trans X7.o);clear M2 T6;have tk:=JV E5.o.cp.k;have tf:=JV E5.o.cp.f;rw[HM.o]at tk;have k0:=(E5.o.dp.k ND.o.2).1;rw[rB.o]at k0;have mB:=SC.o.2;have cA:=ND.o.2;have W8:m<=40000000:=by have:=HM.o;omega
  have uC:IntKind.i64.wrap (U-P)=U-P:=IntWalk.i64_in _ zo;have gC:IntKind.i64.wrap (D+(U-P))=D+(U-P):=IntWalk.i64_in _ zo;have C4:Hi (0<=D+(U-P)/\D+(U-P)<=(i:Int)+1):=by unfold Hi;omega
  clear mB cA iA pB yC W8;obtain⟨y0,y1,y2⟩:=Qay X7.o
  by_cases c20:o.code=20
  ·as_aux_lemma=>
   rw[c20]at y0;have q1:(D==1)=true:=by rw[<-SC.o.1,PA.o.ret c20];rfl
   have LD:Hi (DpR c fr te (a+1) ks):=ED.o.next (λ_ h=>h) HO.o λt _ _ he=>by
    rcases he with⟨_,h,_⟩|⟨h,_⟩
    ·exact absurd c20 h
    ·unfold isJ at h;omega
   exact Qjq
  by_cases c22:o.code=22
  ·as_aux_lemma=>
   rw[c22]at y0;have q1:(D==0)=true:=by rw[<-SC.o.1,PA.o.cl (.inr c22)];rfl
   have LD:Hi (DpR c fr te (a+1) ks):=ED.o.next (λ_ h=>h) HO.o λt _ _ he=>by
    rcases he with⟨_,_,h,_⟩|⟨h,_⟩
    ·exact absurd c22 h
    ·unfold isJ at h;omega
   exact Qjq
  by_cases c16:o.code=16
  ·as_aux_lemma=>
   rw[c16]at y0;have hj:isJ o:=by unfold isJ;omega
   have kA:=PA.o.nj hj;obtain⟨nn,hnn⟩:∃nn:Nat,o.n=(nn:Int):=⟨o.n.toNat,by omega⟩
   rw[hnn]at y1 kA;have P4:fr<=nn:=by have:=P2.o;omega
   have xA:nn<te:=by have:=P2.o;omega
   have vA:a<nn:=zo;have OB:=Zh (And.intro vA hnn)
   have zA:dep (nn)=D+(U-P):=by
    exact Qgw
   have yA:=VK w6 bt bk bf bd fr te gd gq ds ks (nn) (D+(U-P)) E5.o.cp (by rw[HM.o];exact E5.o.dp) R8.o.1 (P4) (xA) zo R8.o.2.1 (λhk=>by
    have h:=(E5.o.dk.2.2 (nn-fr) (by have:=HM.o;have:=P2.o;have:=xA;omega) hk).1;rw[h,<-zA]
    congr 1
    have:=P2.o
    omega)
   rw[HM.o]at yA;have jA:=Zh zA;clear zA;go_wp2_with fail;refine yA.mono ?_;clear yA y0 y1 y2 tk tf k0;rintro e w7 ⟨rfl,B8,Q9,hch⟩;have o7:=Zh (E5.o.turn R8.o.2.2 B8 Q9 hch (E5.o.dk.mark (i:=nn-fr) (by have:=HM.o;have:=P2.o;have:=xA;omega) (by rw[<-jA.o];congr 1;have:=P2.o;omega) C4.o.1 (by have:=C4.o.2;have:=P2.o;have:=ND.o.1;have:=OB.o.1;omega)));have X9:=Zh (hch.heap_some (by have:=A9.o;simp;exact this) X7.o);clear B8 Q9 hch;obtain⟨y0,y1,y2⟩:=Qay X9.o;rw[c16]at y0
   have LD:Hi (DpR c fr te (a+1) (ks.set (nn-fr) true)):=ED.o.next (λ_ h=>VM h) HO.o λt t1 t2 he=>by
    rcases he with⟨h,_⟩|⟨_,h⟩
    ·exact absurd c16 h
    ·have e:t=nn:=by have:=OB.o.2;omega
     subst e;exact Ks (by rw[E5.o.dk.2.1];have:=HM.o;have:=P2.o;omega)
   go_wp2;go_roundg (te-(a+1))
   case measure=>have:=P2.o;omega
   case rel=>exact⟨a+1,_,_,by have:=P2.o;omega,by have:=P2.o;omega,rfl,o7.o.cp,o7.o.dp,o7.o.dk,LD.o,o7.o.chg⟩
  by_cases c17:o.code=17
  ·as_aux_lemma=>
   rw[c17]at y0;have hj:isJ o:=by unfold isJ;omega
   have kA:=PA.o.nj hj;obtain⟨nn,hnn⟩:∃nn:Nat,o.n=(nn:Int):=⟨o.n.toNat,by omega⟩
   rw[hnn]at y1 kA;have P4:fr<=nn:=by have:=P2.o;omega
   have xA:nn<te:=by have:=P2.o;omega
   have vA:a<nn:=zo;have OB:=Zh (And.intro vA hnn)
   have zA:dep (nn)=D+(U-P):=by
    exact Qgw
   have yA:=VK w6 bt bk bf bd fr te gd gq ds ks (nn) (D+(U-P)) E5.o.cp (by rw[HM.o];exact E5.o.dp) R8.o.1 (P4) (xA) zo R8.o.2.1 (λhk=>by
    have h:=(E5.o.dk.2.2 (nn-fr) (by have:=HM.o;have:=P2.o;have:=xA;omega) hk).1;rw[h,<-zA]
    congr 1
    have:=P2.o
    omega)
   rw[HM.o]at yA;have jA:=Zh zA;clear zA;go_wp2_with fail;refine yA.mono ?_;clear yA y0 y1 y2 tk tf k0;rintro e w7 ⟨rfl,B8,Q9,hch⟩;have o7:=Zh (E5.o.turn R8.o.2.2 B8 Q9 hch (E5.o.dk.mark (i:=nn-fr) (by have:=HM.o;have:=P2.o;have:=xA;omega) (by rw[<-jA.o];congr 1;have:=P2.o;omega) C4.o.1 (by have:=C4.o.2;have:=P2.o;have:=ND.o.1;have:=OB.o.1;omega)));have X9:=Zh (hch.heap_some (by have:=A9.o;simp;exact this) X7.o);clear B8 Q9 hch;obtain⟨y0,y1,y2⟩:=Qay X9.o;rw[c17]at y0;exact Qkj
  by_cases c18:o.code=18
  ·as_aux_lemma=>
   rw[c18]at y0;have hj:isJ o:=by unfold isJ;omega
   have kA:=PA.o.nj hj;obtain⟨nn,hnn⟩:∃nn:Nat,o.n=(nn:Int):=⟨o.n.toNat,by omega⟩
   rw[hnn]at y1 kA;have P4:fr<=nn:=by have:=P2.o;omega
   have xA:nn<te:=by have:=P2.o;omega
   have vA:a<nn:=zo;have OB:=Zh (And.intro vA hnn)
   have zA:dep (nn)=D+(U-P):=by
    exact Qgw
   have yA:=VK w6 bt bk bf bd fr te gd gq ds ks (nn) (D+(U-P)) E5.o.cp (by rw[HM.o];exact E5.o.dp) R8.o.1 (P4) (xA) zo R8.o.2.1 (λhk=>by
    have h:=(E5.o.dk.2.2 (nn-fr) (by have:=HM.o;have:=P2.o;have:=xA;omega) hk).1;rw[h,<-zA]
    congr 1
    have:=P2.o
    omega)
   rw[HM.o]at yA;have jA:=Zh zA;clear zA;go_wp2_with fail;refine yA.mono ?_;clear yA y0 y1 y2 tk tf k0;rintro e w7 ⟨rfl,B8,Q9,hch⟩;have o7:=Zh (E5.o.turn R8.o.2.2 B8 Q9 hch (E5.o.dk.mark (i:=nn-fr) (by have:=HM.o;have:=P2.o;have:=xA;omega) (by rw[<-jA.o];congr 1;have:=P2.o;omega) C4.o.1 (by have:=C4.o.2;have:=P2.o;have:=ND.o.1;have:=OB.o.1;omega)));have X9:=Zh (hch.heap_some (by have:=A9.o;simp;exact this) X7.o);clear B8 Q9 hch;obtain⟨y0,y1,y2⟩:=Qay X9.o;rw[c18]at y0;exact Qkj
  by_cases c21:o.code=21
  ·as_aux_lemma=>
   rw[c21]at y0;have q1:(D==0)=true:=by rw[<-SC.o.1,PA.o.cl (.inl c21)];rfl
   exact Qki
  ·as_aux_lemma=>
   have zC:(o.code==16)=false:=zM c16;have vC:(o.code==17)=false:=zM c17;have aC:(o.code==18)=false:=zM c18;have hC:(o.code==20)=false:=zM c20;have bC:(o.code==21)=false:=zM c21;have dC:(o.code==22)=false:=zM c22;exact Qki
 ·have dil:decide ((a:Int)<(te:Int))=false:=zH zo;have diN:decide (a<te)=false:=zH hi
  have C0:Hi (yr w wl):=by
   have hb:=qA.o;have hc:=L9.o
   exact Kr hb hc.os hc.tape hc.output hc.size (λk hk=>hc.block k (Nat.lt_of_lt_of_le hk hb.size) (by
    have h1:=D6.o gd (.inl rfl);have h2:=D6.o gq (.inr rfl);simp
    omega))
  clear hi hg eA;go_wp2;go_ret;exact⟨rfl,C0.o⟩
def ux5{P:Prop}(h:P:=by
  clear U8 hn T4 HM;go_wp2_with fail;go_region;go_wp2_with fail;clear y0 y1 y2 x0 x1 x2 x3;go_roundg (te-(a+1))
  case measure=>have:=P2.o;omega
  case rel=>exact⟨a+1,by have:=P2.o;omega,by have:=P2.o;omega,rfl,G1.o.drew⟩):P:=h
def QfE{P:Prop}(h:P:=by
  have e1:nm=[]:=by rw[<-T4];exact HM.o.nn (by omega) (by omega) (by omega) (by omega)
  rw[e1,show Sv []=.string ⟨#[]⟩ from rfl]at y2;clear e1;have e2:n=0:=by rw[<-hn];exact HM.o.nz (by omega) (by omega) (by omega) (by unfold isJ;omega) (by omega) (by omega)
  rw[e2]at y1;clear e2
  exact ux5):P:=h
def QiN{P:Prop}(h:P:=by
  have e1:nm=[]:=by rw[<-T4];exact HM.o.nn (by omega) (by omega) (by omega) (by omega)
  rw[e1,show Sv []=.string ⟨#[]⟩ from rfl]at y2;clear e1;have hf:=HM.o.nj (by unfold isJ;omega);rw[hn]at hf;have f1:(a:Int)<n:=hf.1;have f2:n<(te:Int):=by have:=hf.2;have:=P2.o;omega
  have f3:decide ((a:Int)<n)=true:=zG f1;have f4:decide (n<(te:Int))=true:=zG f2;clear hf
  exact ux5):P:=h
def QjK{P:Prop}(h:P:=by
  have e1:nm=[]:=by rw[<-T4];exact HM.o.nn (by omega) (by omega) (by omega) (by omega)
  rw[e1,show Sv []=.string ⟨#[]⟩ from rfl]at y2;clear e1;have hf:=HM.o.nv (by omega);rw[hn]at hf;have f1:0<=n:=hf.1;have f2:n<L:=by have:=hf.2;have:=P2.o;omega
  have f3:decide (0<=n)=true:=zG f1;have f4:decide (n<L)=true:=zG f2;clear hf
  exact ux5):P:=h
def Qia{P:Prop}(h:P:=by
  have u1:=Jj nm;have e2:n=0:=by rw[<-hn];exact HM.o.nz (by omega) (by omega) (by omega) (by unfold isJ;omega) (by omega) (by omega)
  rw[e2]at y1;clear e2
  exact ux5):P:=h
def Vq(c:Qaf)(L:Int)(main:Bool)(fr te:Nat)(hP:QeC c L main fr te)(hlen:c.ops.length<=40000000)(hsl:c.starts.length=c.params.length)(p:Nat)(w:World)(hp:p<=w.heap.size)(d:Array Value)(h:CV w p c d):
  Calls prog 40 #[.agg d,Iv (fr:Nat),Iv (te:Nat),Iv L,.bool main] w (Qbj w (.bool true)):=by
 obtain⟨a0,c0,a1,c1,a2,c2,a3,c3,rfl,g0,g1,g2,g3⟩:=h.g;obtain⟨M4,gA,_,dep,_,yA⟩:=hP;obtain⟨n0,R4⟩:=yt c.ops.length
 obtain⟨n1,P4⟩:=yt c.starts.length
 obtain⟨n2,bA⟩:=yt c.params.length
 obtain⟨n3,aA⟩:=yt c.slots.length
 rw[R4,P4,bA,aA];have kA:Hi (c.params.length=n1):=by unfold Hi;omega
 rw[R4]at hlen gA;have hb:=(Below.refl w.heap.size w).alloc (Nat.le_refl _) (.cells (zm a0 n0 c0 a1 n1 c1 a2 n2 c2 a3 n3 c3) 31);have HB:=Zh hb;have hA:=Zh (hb.mono hp);have L4:=Zh hp;have HX:=Zh (BxB.of (zQ w (.cells (zm a0 n0 c0 a1 n1 c1 a2 n2 c2 a3 n3 c3) 31)));have HG:=Zh g0;have iA:=Zh yA;clear h g0 g1 g2 g3 hb hp yA hsl R4 P4 bA aA;go_enter func40,ntmps40;go_upto_region 1 with fail;obtain⟨eb,dA⟩:=yt w.heap.size
 rw[dA]at HX |-;clear dA;generalize World.alloc w _=w1 at*;go_wp2_with fail;go_loopg [11] (te-fr) λg v11 wr=>∃a:Nat,g+a=te/\fr<=a/\v11=Iv (a:Int)/\Hi (yr w1 wr)
 case atStart=>exact⟨fr,by omega,Nat.le_refl _,rfl,zO⟩
 case round=>
  obtain⟨wl,rfl⟩:=zJ wr;obtain⟨a,hg,xA,rfl,G1⟩:=hrel
  by_cases hi:a<te
  ·have dil:decide ((a:Int)<(te:Int))=true:=zG zo;have diN:decide (a<te)=true:=zG hi;obtain⟨o,ho,hm,_⟩:=iA.o a xA hi;have vA:Below p w wl:=hA.o.trans (G1.o.mono (zv HB.o.size L4.o));obtain⟨b0,o0,rfl,kc⟩:=HG.o a o ho;obtain⟨p0,p1,p2⟩:=kc _ vA;obtain⟨x0,x1,x2,x3⟩:=Qao (HX.o _ G1.o);have k0:0<=(a:Int):=zo;have k1:(a:Int)<(n0:Int):=zo;have wk:IntKind.i64.wrap ((a:Int)+1)=((a+1:Nat):Int):=by rw[IntWalk.i64_in _ zo];omega
   have P2:Hi (gk+a=te/\fr<=a/\a<te):=⟨hg,xA,hi⟩
   have HM:=Zh hm;clear hm ho kc vA hg xA hi;go_upto_region 5 with fail;have uA:=Zh (zQ wl (.cells (yu o) 34));replace G1:=Zh (G1.o.alloc G1.o.size (.cells (yu o) 34));clear p0 p1 p2 x0 x1 x2 x3;obtain⟨yb,zA⟩:=yt wl.heap.size
   rw[zA]at uA |-;clear zA;generalize World.alloc wl _=w2 at*;obtain⟨x0,x1,x2,x3⟩:=Qao (HX.o _ G1.o);obtain⟨y0,y1,y2⟩:=Qay uA.o;obtain⟨kc,U8⟩:=yt o.code
   have cA:=HM.o.code;rw[U8]at y0 cA;have eA:kc=0\/kc=1\/kc=2\/kc=3\/kc=4\/kc=5\/kc=6\/kc=7\/kc=8\/kc=9\/kc=10\/kc=11\/kc=12\/kc=13\/kc=14\/kc=15\/kc=16\/kc=17\/kc=18\/kc=19\/kc=20\/kc=21\/kc=22:=zo;clear cA;obtain⟨n,hn⟩:=yt o.n
   obtain⟨nm,T4⟩:=yt o.name
   rw[hn]at y1;rw[T4]at y2
   rcases eA with rfl|rfl|rfl|rfl|rfl|rfl|rfl|rfl|rfl|rfl|rfl|rfl|rfl|rfl|rfl|rfl|rfl|rfl|rfl|rfl|rfl|rfl|rfl
   ·as_aux_lemma=>
    have e1:nm=[]:=by rw[<-T4];exact HM.o.nn zo zo zo zo
    rw[e1,show Sv []=.string ⟨#[]⟩ from rfl]at y2;clear e1;have hf:=HM.o.n0 U8;rw[hn]at hf;have f1:0<=n:=hf.1;have f2:n<=1125899906842624:=by have:=hf.2;have:=P2.o;omega
    have f3:decide (0<=n)=true:=zG f1;have f4:decide (n<=1125899906842624)=true:=zG f2;clear hf;exact ux5
   ·as_aux_lemma=>
    exact QjK
   ·as_aux_lemma=>
    exact QjK
   ·as_aux_lemma=>
    have u1:=Jj nm;have e2:n=0:=by rw[<-hn];exact HM.o.nz zo zo zo (by unfold isJ;omega) zo zo
    rw[e2]at y1;clear e2;have xA:=HM.o.nm U8;rw[T4]at xA;have jA:=Zh xA;clear xA;clear U8 hn T4 HM;go_wp2_with fail;go_region;go_wp2_with fail;refine(Jgf nm w2.drew jA.o).mono ?_;rintro e w3 ⟨rfl,rfl⟩;go_wp2_with fail;clear y0 y1 y2 x0 x1 x2 x3;go_roundg (te-(a+1))
    case measure=>have:=P2.o;omega
    case rel=>exact⟨a+1,by have:=P2.o;omega,by have:=P2.o;omega,rfl,G1.o.drew⟩
   ·as_aux_lemma=>
    exact Qia
   ·as_aux_lemma=>
    exact Qia
   ·as_aux_lemma=>
    exact QfE
   ·as_aux_lemma=>
    exact QfE
   ·as_aux_lemma=>
    exact QfE
   ·as_aux_lemma=>
    exact QfE
   ·as_aux_lemma=>
    exact QfE
   ·as_aux_lemma=>
    exact QfE
   ·as_aux_lemma=>
    exact QfE
   ·as_aux_lemma=>
    exact QfE
   ·as_aux_lemma=>
    exact QfE
   ·as_aux_lemma=>
    exact QfE
   ·as_aux_lemma=>
    exact QiN
   ·as_aux_lemma=>
    exact QiN
   ·as_aux_lemma=>
    exact QiN
   ·as_aux_lemma=>
    have e1:nm=[]:=by rw[<-T4];exact HM.o.nn zo zo zo zo
    rw[e1,show Sv []=.string ⟨#[]⟩ from rfl]at y2;clear e1;have hf:=HM.o.nc U8;rw[hn]at hf;rw[kA.o]at hf;have f1:0<=n:=hf.1;have f2:n<(n1:Int):=by have:=hf.2;have:=P2.o;omega
    have f3:decide (0<=n)=true:=zG f1;have f4:decide (n<(n1:Int))=true:=zG f2;clear hf;exact ux5
   ·as_aux_lemma=>
    have e1:nm=[]:=by rw[<-T4];exact HM.o.nn zo zo zo zo
    rw[e1,show Sv []=.string ⟨#[]⟩ from rfl]at y2;clear e1;have e2:n=0:=by rw[<-hn];exact HM.o.nz zo zo zo (by unfold isJ;omega) zo zo
    rw[e2]at y1;clear e2;have e3:main=false:=HM.o.pl.1 U8;subst e3;exact ux5
   ·as_aux_lemma=>
    have e1:nm=[]:=by rw[<-T4];exact HM.o.nn zo zo zo zo
    rw[e1,show Sv []=.string ⟨#[]⟩ from rfl]at y2;clear e1;have e2:n=0:=by rw[<-hn];exact HM.o.nz zo zo zo (by unfold isJ;omega) zo zo
    rw[e2]at y1;clear e2;have e3:main=true:=HM.o.pl.2 zo;subst e3;exact ux5
   ·as_aux_lemma=>
    have u1:=Jj nm;have hf:=HM.o.ne U8;rw[hn]at hf;have f1:0<=n:=hf.1;have f2:n<=3:=by have:=hf.2;have:=P2.o;omega
    have f3:decide (0<=n)=true:=zG f1;have f4:decide (n<=3)=true:=zG f2;clear hf;have e3:main=true:=HM.o.pl.2 zo;subst e3;exact ux5
  ·have dil:decide ((a:Int)<(te:Int))=false:=zH zo;have diN:decide (a<te)=false:=zH hi;have C0:Hi (yr w wl):=HB.o.trans (G1.o.mono HB.o.size);clear hi hg xA;go_wp2;go_ret;exact⟨rfl,C0.o⟩
def Jdj(p:Nat)(w:World)(hp:p<=w.heap.size)(d:Array Value)(h:CV w p QcK d):Calls prog 16 #[.agg d] w (Qbj w (.bool false)):=by
 obtain⟨a0,c0,a1,c1,a2,c2,a3,c3,rfl,_⟩:=h.g
 have T1:∀W,Calls prog 39 #[.agg (zm a0 0 c0 a1 0 c1 a2 0 c2 a3 0 c3)] W (Qbj W (.bool false)):=by
  intro W;have HX:=Zh (zQ W (.cells (zm a0 0 c0 a1 0 c1 a2 0 c2 a3 0 c3) 31));have HB:=Zh ((Below.refl W.heap.size W).alloc (Nat.le_refl _) (.cells (zm a0 0 c0 a1 0 c1 a2 0 c2 a3 0 c3) 31));go_enter func39,ntmps39;go_upto_region 1 with fail;obtain⟨eb,xA⟩:=yt W.heap.size
  rw[xA]at HX |-;clear xA;generalize World.alloc W _=w1 at*;obtain⟨x0,x1,x2,x3⟩:=Qao HX.o;go_wp2;go_ret;exact⟨rfl,HB.o⟩
 have hl:QcK.ops.length=0/\QcK.starts.length=0/\QcK.params.length=0/\QcK.slots.length=0:=⟨rfl,rfl,rfl,rfl⟩
 rw[hl.1,hl.2.1,hl.2.2.1,hl.2.2.2];have HX:=Zh (zQ w (.cells (zm a0 0 c0 a1 0 c1 a2 0 c2 a3 0 c3) 31));have HB:=Zh ((Below.refl w.heap.size w).alloc (Nat.le_refl _) (.cells (zm a0 0 c0 a1 0 c1 a2 0 c2 a3 0 c3) 31));clear h hl hp;go_enter func16,ntmps16;go_upto_region 1 with fail;obtain⟨eb,xA⟩:=yt w.heap.size
 rw[xA]at HX |-;have I9:=Zh xA;clear xA;generalize World.alloc w _=w1 at*;obtain⟨x0,x1,x2,x3⟩:=Qao HX.o;go_wp2_with fail;refine(T1 w1).mono ?_;clear T1 x0 x1 x2 x3;rintro e w2 ⟨rfl,hb⟩;have C0:Hi (yr w w2):=HB.o.trans (hb.mono HB.o.size);clear hb;go_wp2;go_ret;exact⟨rfl,C0.o⟩
def Qiy{P:Prop}(h:P:=by
  clear x0 x1 x2 x3;rintro e w6 ⟨rfl,M2⟩;have U7:Hi (yr w1 w6):=T6.o.trans (M2.mono T6.o.size);clear M2;go_wp2;go_roundg (nf+1-(k+1))
  case measure=>have:=P2.o;omega
  case rel=>exact⟨k+1,by have:=P2.o;omega,rfl,by rw[wG.o],U7.o⟩):P:=h
def Y4(r:Qah)(hk:QeH r)(p:Nat)(w:World)(hp:p<=w.heap.size)(d:Array Value)(h:CV w p (Qac r) d):Calls prog 16 #[.agg d] w (Qbj w (.bool true)):=by
 have h0:=h;obtain⟨a0,c0,a1,c1,a2,c2,a3,c3,rfl,g0,g1,g2,g3⟩:=h.g;obtain⟨l1,l2,l3,l4⟩:=JL r;obtain⟨n0,R4⟩:=yt ((Qac r).ops.length)
 obtain⟨nf,eA⟩:=yt r.funcs.length
 have hN:=hk.ops;have hF:=hk.fn;have vA:(Qac r).starts.length=(Qac r).params.length:=zo;have pA:(Qac r).params.length<=1000000000:=zo
 have cA:∀x∈(Qac r).params,0<=x:=by
  intro x hx;rw[K7]at hx;obtain⟨n,_,rfl⟩:=List.mem_map.1 hx;omega
 rw[eA]at l1 l2 l3 hF;rw[R4]at hN l4;rw[l1,l2,l3,R4]at h0 |-;obtain⟨sl,mA⟩:=YI r;rw[eA]at sl;obtain⟨b3,o3,rfl,k3⟩:=g3 nf _ sl;obtain⟨Z,hZ⟩:=yt (QbK (Qac r) 0)
 rw[hZ]at k3;have HZ:=Zh hZ;have HK:=Zh hk;have O5:=Zh g1;have zB:=Zh g3;have cB:=Zh k3;have hA:=Zh eA;have yA:=Zh R4;have E6:=Zh h0;have uA:=Zh vA;have dA:=Zh pA;have zA:=Zh cA;have hb:=(Below.refl w.heap.size w).alloc (Nat.le_refl _) (.cells (zm a0 n0 c0 a1 nf c1 a2 nf c2 (some ⟨b3,o3,none⟩) (nf+1) c3) 31);have HB:=Zh hb;have rA:=Zh (hb.mono hp);have L4:=Zh hp;have HX:=Zh (BxB.of (zQ w (.cells (zm a0 n0 c0 a1 nf c1 a2 nf c2 (some ⟨b3,o3,none⟩) (nf+1) c3) 31)));clear h h0 g0 g1 g2 g3 k3 sl hb hp hk hZ eA l1 l2 l3 l4 R4 vA pA cA mA;go_enter func16,ntmps16;go_upto_region 1 with fail;obtain⟨eb,aB⟩:=yt w.heap.size
 rw[aB]at HX |-;clear aB;generalize World.alloc w _=w1 at*;obtain⟨x0,x1,x2,x3⟩:=Qao (HX.o _ zO);have T1:=JiP r HK.o p w1 (le_trans L4.o HB.o.size) _ (E6.o.up rA.o);go_wp2_with fail;refine T1.mono ?_;clear T1 x0 x1 x2 x3;rintro e w2 ⟨rfl,I0⟩;have A6:=Zh I0;clear I0;obtain⟨x0,x1,x2,x3⟩:=Qao (HX.o _ A6.o);have gB:IntKind.i64.wrap ((nf:Int)+1)=((nf+1:Nat):Int):=by rw[IntWalk.i64_in _ zo];omega
 go_wp2_with fail;clear x0 x1 x2 x3;go_loopg [3,14] (nf+1) λg v3 v14 wr=>∃k:Nat,g+k=nf+1/\v14=Iv (k:Int)/\v3=Iv ((QcG (Qac r) k:Nat):Int)/\Hi (yr w1 wr)
 case atStart=>exact⟨0,rfl,rfl,rfl,A6.o⟩
 case round=>
 obtain⟨wl,rfl⟩:=zJ wr;obtain⟨k,hg,rfl,rfl,G1⟩:=hrel
 by_cases hi:k<nf+1
 ·have dil:decide ((k:Int)<((nf+1:Nat):Int))=true:=zG zo;have kA:decide ((k:Int)<(nf:Int)+1)=true:=zG zo;have diN:decide (k<nf+1)=true:=zG hi;have hkn:k<=r.funcs.length:=by rw[hA.o];omega
  have hP:=VX HK.o.right k hkn;have O4:Hi (Below p w wl):=rA.o.trans (G1.o.mono (zv HB.o.size L4.o));obtain⟨x0,x1,x2,x3⟩:=Qao (HX.o _ G1.o);have z3:=cB.o _ O4.o;obtain⟨F0,iA⟩:=yt (QcG (Qac r) k)
  obtain⟨T0,bA⟩:=yt (bnd (Qac r) k)
  obtain⟨S0,gA⟩:=yt (QbK (Qac r) k)
  rw[iA,bA,gA]at hP;rw[iA];have HP:=Zh hP;have wG:Hi (QcG (Qac r) (k+1)=T0):=by unfold Hi QcG;rw[if_neg zo,Nat.add_sub_cancel];exact bA
  have P2:Hi (gk+k=nf+1/\k<nf+1):=⟨hg,hi⟩
  have wk:IntKind.i64.wrap ((k:Int)+1)=((k+1:Nat):Int):=by rw[IntWalk.i64_in _ zo];omega
  have dB:IntKind.i64.wrap ((nf:Int)+1-1)=(nf:Int):=by rw[IntWalk.i64_in _ zo];omega
  have eB:IntKind.i64.wrap (((nf+1:Nat):Int)-1)=(nf:Int):=by rw[IntWalk.i64_in _ zo];omega
  have q2:(nf:Int)<((nf+1:Nat):Int):=zo;have q3:(nf:Int)<(nf:Int)+1:=zo
  have uB:k<nf->∃f,(Qac r).starts[k]?=some ((T0:Nat):Int)/\r.funcs[k]?=some f:=λhkf=>by
   obtain⟨f,hf,_,_,_,e1⟩:=YH (r:=r) (i:=k) (by rw[hA.o];exact hkf);exact⟨f,by rw[e1,bA],hf⟩
  have sA:k=nf->T0=n0:=λe=>by
   rw[<-bA,e,<-hA.o,Jfj,yA.o]
  have nA:k≠0->(Qac r).slots[k-1]?=some S0:=λe=>by
   obtain⟨f,_,_,e2,_,_⟩:=YH (r:=r) (i:=k-1) (by rw[hA.o];omega);rw[e2,show k-1+1=k by omega,gA]
  have tA:k=0->S0=Z:=λe=>by rw[<-gA,e];exact HZ.o
  have yB:=Zh uB;have qA:=Zh sA;have vB:=Zh nA;have xB:=Zh tA;clear hP iA bA gA hkn uB sA nA tA hg
  by_cases e0:k=0
  ·by_cases e1:k<nf
   ·obtain⟨f1,aA,_⟩:=yB.o e1;obtain⟨b1,o1,rfl,k1⟩:=O5.o k _ aA;have z1:=k1 _ O4.o;have j1:(k:Int)<(nf:Int):=zo;have d1:decide ((k:Int)<(nf:Int))=true:=zG zo;have jA:decide (k<nf)=true:=zG e1;clear aA k1;have hs:=xB.o e0;rw[hs,zG e0]at HP;have q0:((k:Int)==0)=true:=by rw[e0];rfl
    clear hs;clear e0 e1 hi;go_wp2_with fail;refine(Vq (Qac r) Z true F0 T0 HP.o (by rw[yA.o];exact hN) uA.o p wl (le_trans L4.o (le_trans HB.o.size G1.o.size)) _ (E6.o.up O4.o)).mono ?_;clear x0 x1 x2 x3 z3;rintro e w5 ⟨rfl,I3⟩;have T6:Hi (yr w1 w5):=G1.o.trans (I3.mono G1.o.size);have xA:Hi (Below p w w5):=O4.o.trans (I3.mono (le_trans L4.o (le_trans HB.o.size G1.o.size)));clear I3;obtain⟨x0,x1,x2,x3⟩:=Qao (HX.o _ T6.o);go_wp2_with fail;refine(Vp (Qac r) Z true F0 T0 HP.o (by rw[yA.o];exact hN) dA.o zA.o p w5 (le_trans L4.o (le_trans HB.o.size T6.o.size)) _ (E6.o.up xA.o)).mono ?_;exact Qiy
   ·have ek:k=nf:=zo;have ht:=qA.o ek;rw[ht]at HP wG;have d1:decide ((k:Int)<(nf:Int))=false:=zH zo;have jA:decide (k<nf)=false:=zH e1;clear ht ek;have hs:=xB.o e0;rw[hs,zG e0]at HP;have q0:((k:Int)==0)=true:=by rw[e0];rfl
    clear hs;clear e0 e1 hi;go_wp2_with fail;refine(Vq (Qac r) Z true F0 n0 HP.o (by rw[yA.o];exact hN) uA.o p wl (le_trans L4.o (le_trans HB.o.size G1.o.size)) _ (E6.o.up O4.o)).mono ?_;clear x0 x1 x2 x3 z3;rintro e w5 ⟨rfl,I3⟩;have T6:Hi (yr w1 w5):=G1.o.trans (I3.mono G1.o.size);have xA:Hi (Below p w w5):=O4.o.trans (I3.mono (le_trans L4.o (le_trans HB.o.size G1.o.size)));clear I3;obtain⟨x0,x1,x2,x3⟩:=Qao (HX.o _ T6.o);go_wp2_with fail;refine(Vp (Qac r) Z true F0 n0 HP.o (by rw[yA.o];exact hN) dA.o zA.o p w5 (le_trans L4.o (le_trans HB.o.size T6.o.size)) _ (E6.o.up xA.o)).mono ?_;exact Qiy
  ·by_cases e1:k<nf
   ·obtain⟨f1,aA,_⟩:=yB.o e1;obtain⟨b1,o1,rfl,k1⟩:=O5.o k _ aA;have z1:=k1 _ O4.o;have j1:(k:Int)<(nf:Int):=zo;have d1:decide ((k:Int)<(nf:Int))=true:=zG zo;have jA:decide (k<nf)=true:=zG e1;clear aA k1;obtain⟨b4,o4,h4,k4⟩:=zB.o (k-1) _ (vB.o e0);have h4:=Option.some.inj h4;simp only[Addr.mk.injEq]at h4;obtain⟨rfl,rfl,_⟩:=h4;have z4:=k4 _ O4.o;rw[zH e0]at HP;have q0:((k:Int)==0)=false:=zr;have bB:IntKind.i64.wrap ((k:Int)-1)=((k-1:Nat):Int):=by rw[IntWalk.i64_in _ zo];omega
    have j4:((k-1:Nat):Int)<((nf+1:Nat):Int):=zo;have j5:((k-1:Nat):Int)<(nf:Int)+1:=zo;have j6:0<=((k-1:Nat):Int):=zo;clear k4;clear e0 e1 hi;go_wp2_with fail;refine(Vq (Qac r) S0 false F0 T0 HP.o (by rw[yA.o];exact hN) uA.o p wl (le_trans L4.o (le_trans HB.o.size G1.o.size)) _ (E6.o.up O4.o)).mono ?_;clear x0 x1 x2 x3 z3;rintro e w5 ⟨rfl,I3⟩;have T6:Hi (yr w1 w5):=G1.o.trans (I3.mono G1.o.size);have xA:Hi (Below p w w5):=O4.o.trans (I3.mono (le_trans L4.o (le_trans HB.o.size G1.o.size)));clear I3;obtain⟨x0,x1,x2,x3⟩:=Qao (HX.o _ T6.o);go_wp2_with fail;refine(Vp (Qac r) S0 false F0 T0 HP.o (by rw[yA.o];exact hN) dA.o zA.o p w5 (le_trans L4.o (le_trans HB.o.size T6.o.size)) _ (E6.o.up xA.o)).mono ?_;exact Qiy
   ·have ek:k=nf:=zo;have ht:=qA.o ek;rw[ht]at HP wG;have d1:decide ((k:Int)<(nf:Int))=false:=zH zo;have jA:decide (k<nf)=false:=zH e1;clear ht ek;obtain⟨b4,o4,h4,k4⟩:=zB.o (k-1) _ (vB.o e0);have h4:=Option.some.inj h4;simp only[Addr.mk.injEq]at h4;obtain⟨rfl,rfl,_⟩:=h4;have z4:=k4 _ O4.o;rw[zH e0]at HP;have q0:((k:Int)==0)=false:=zr;have bB:IntKind.i64.wrap ((k:Int)-1)=((k-1:Nat):Int):=by rw[IntWalk.i64_in _ zo];omega
    have j4:((k-1:Nat):Int)<((nf+1:Nat):Int):=zo;have j5:((k-1:Nat):Int)<(nf:Int)+1:=zo;have j6:0<=((k-1:Nat):Int):=zo;clear k4;clear e0 e1 hi;go_wp2_with fail;refine(Vq (Qac r) S0 false F0 n0 HP.o (by rw[yA.o];exact hN) uA.o p wl (le_trans L4.o (le_trans HB.o.size G1.o.size)) _ (E6.o.up O4.o)).mono ?_;clear x0 x1 x2 x3 z3;rintro e w5 ⟨rfl,I3⟩;have T6:Hi (yr w1 w5):=G1.o.trans (I3.mono G1.o.size);have xA:Hi (Below p w w5):=O4.o.trans (I3.mono (le_trans L4.o (le_trans HB.o.size G1.o.size)));clear I3;obtain⟨x0,x1,x2,x3⟩:=Qao (HX.o _ T6.o);go_wp2_with fail;refine(Vp (Qac r) S0 false F0 n0 HP.o (by rw[yA.o];exact hN) dA.o zA.o p w5 (le_trans L4.o (le_trans HB.o.size T6.o.size)) _ (E6.o.up xA.o)).mono ?_;exact Qiy
 ·have dil:decide ((k:Int)<((nf+1:Nat):Int))=false:=zH zo;have kA:decide ((k:Int)<(nf:Int)+1)=false:=zH zo;have diN:decide (k<nf+1)=false:=zH hi;exact Qhx
def ex1:Qah:=⟨[],[⟨.mk 13 0 [] [.mk 0 3 [] [],.mk 3 0 Qco []],3,[120]⟩],0⟩
def ex2:Qah:=⟨[⟨[102],[0],1,.mk 17 0 [] [.mk 15 0 [] [.mk 2 0 [] [],.mk 0 0 [] []],.mk 20 0 [] [.mk 9 0 [] [.mk 2 0 [] [],.mk 0 1 [] []]]]⟩],[⟨.mk 20 0 [] [.mk 0 5 [] []],2,[121]⟩],0⟩
def cx1:Qaf:=⟨[⟨21,0,[]⟩,⟨0,3,[]⟩,⟨3,0,Qco⟩,⟨13,0,[]⟩,⟨17,6,[]⟩,⟨22,3,[120]⟩,⟨22,0,[]⟩],[],[],[0]⟩
def cx2:Qaf:=⟨[⟨21,0,[]⟩,⟨0,5,[]⟩,⟨19,0,[]⟩,⟨17,5,[]⟩,⟨22,2,[121]⟩,⟨22,0,[]⟩,⟨1,0,[]⟩,⟨0,0,[]⟩,⟨15,0,[]⟩,⟨18,15,[]⟩,⟨1,0,[]⟩,⟨0,1,[]⟩,⟨9,0,[]⟩,⟨19,0,[]⟩,⟨16,16,[]⟩,⟨0,1,[]⟩,⟨20,0,[]⟩],[6],[1],[1,0]⟩
def FZ:Qaj:=⟨[],0,0,0,0,0,0,0,0,false,false,[]⟩
def tx1:By:=[119,104,101,110,32,108,105,107,101,115,32,62,32,51,32,116,104,101,110,32,104,105,100,101,32,34,120,34,32,100,101,102,97,117,108,116,32,115,104,111,119]
def JkW:Qcl tx1=(ex1,0,0):=zk
def tx2:By:=[100,101,102,32,102,40,110,58,32,105,110,116,41,58,32,98,111,111,108,32,61,32,110,32,61,61,32,48,32,111,114,32,102,40,110,32,45,32,49,41,32,119,104,101,110,32,102,40,53,41,32,116,104,101,110,32,108,105,109,105,116,32,34,121,34,32,100,101,102,97,117,108,116,32,115,104,111,119]
def JkX:Qcl tx2=(ex2,0,0):=zk
def Jlq:Qac ex1=cx1:=zk
def Jlr:Qac ex2=cx2:=zk
def Jna:Qai ex1=cx1:=zk
def Jnb:Qai ex2=cx2:=zk
def JiU:Qat ex1=true:=zk
def JiV:Qat ex2=true:=zk
variable{r:Qah}
def Jfz(h1:r.funcs.length<=1)(h2:r.clauses.length<=1)(h3:∀f∈r.funcs,f.name.length<=9223372036854775807/\f.params.length<=1000000/\NmN f.body/\siz (utN f.body)<=1000000)(h4:∀c∈r.clauses,NmN c.cond/\siz (utN c.cond)<=1000000/\c.reason.length<=9223372036854775807):RSz r:=⟨by omega,by omega,h3,h4⟩
def Jdk:RSz ex1:=by
 refine Jfz zp zp (by simp[ex1]) λc hc=>?_;simp[ex1]at hc;subst hc;exact⟨by simp[NmN,NmL,Qco],by simp[utN,utL,JD,Ju,JG],by simp⟩
def JiW:RSz ex2:=by
 refine Jfz zp zp (λf hf=>?_) λc hc=>?_
 ·simp[ex2]at hf;subst hf;exact⟨by simp,by simp,by simp[NmN,NmL],by simp[utN,utL,JD,Ju,JG]⟩
 ·simp[ex2]at hc;subst hc;exact⟨by simp[NmN,NmL],by simp[utN,utL,JD,Ju,JG],by simp⟩
def JiX:QeH ex1:=⟨JiU,by rw[Jlq];decide,by decide,λf hf=>(Jdk.fn f hf).2.1⟩
def Jnc:QeH ex2:=⟨JiV,by rw[Jlr];decide,by decide,λf hf=>(JiW.fn f hf).2.1⟩
def PsP.inw{X:Qah×Int×Int}{e:Ending}{w':World}(h:PsP w X e w'):∃c,e=.returned (.tuple #[.agg c,Iv X.2.1,Iv X.2.2])/\QaV w' (In w') X.1 c/\yr w w':=by
 obtain⟨c,h1,h2,h3⟩:=h;exact⟨c,h1,h2.keep (λ_ _=>rfl) λb hb=>hb.2,h3⟩
def Zu(W:World):Qbx W Nl []:=⟨none,0,[],rfl,Nat.le_refl _,rfl,.inl rfl⟩
def YJ(W:World):QaT W Nl []:=⟨none,0,[],rfl,Nat.le_refl _,rfl,.inl rfl⟩
def Jdl(W:World)(hL:Laid W):Calls prog 15 #[.string ⟨#[119,104,101,110,32,108,105,107,101,115,32,62,32,51,32,116,104,101,110,32,104,105,100,101,32,34,120,34,32,100,101,102,97,117,108,116,32,115,104,111,119]⟩] W (λe w'=>∃c,e=.returned (.tuple #[.agg c,Iv 0,Iv 0])/\QaV w' (In w') ex1 c/\yr W w'):=by
 have h:=Qdn tx1 W zp hL;rw[JkW]at h;exact h.mono λe w' hp=>hp.inw
def Jeu(W:World)(c:Array Value)(h:QaV W (In W) ex1 c):Calls prog 10 #[.agg c] W (QfA W cx1):=by
 have h1:=Ki ex1 c W h Jdk λ_=>JiX.ops;rw[Jna]at h1;exact h1
def Jdm(W:World)(p:Nat)(hp:p<=W.heap.size)(d:Array Value)(h:CV W p cx1 d):Calls prog 16 #[.agg d] W (Qbj W (.bool true)):=Y4 ex1 JiX p W hp d (by rw[Jlq];exact h)
def Jdn(W:World)(hL:Laid W):Calls prog 15 #[.string ⟨#[100,101,102,32,102,40,110,58,32,105,110,116,41,58,32,98,111,111,108,32,61,32,110,32,61,61,32,48,32,111,114,32,102,40,110,32,45,32,49,41,32,119,104,101,110,32,102,40,53,41,32,116,104,101,110,32,108,105,109,105,116,32,34,121,34,32,100,101,102,97,117,108,116,32,115,104,111,119]⟩] W (λe w'=>∃c,e=.returned (.tuple #[.agg c,Iv 0,Iv 0])/\QaV w' (In w') ex2 c/\yr W w'):=by
 have h:=Qdn tx2 W zp hL;rw[JkX]at h;exact h.mono λe w' hp=>hp.inw
def Jev(W:World)(c:Array Value)(h:QaV W (In W) ex2 c):Calls prog 10 #[.agg c] W (QfA W cx2):=by
 have h1:=Ki ex2 c W h JiW λ_=>Jnc.ops;rw[Jnb]at h1;exact h1
def Jdo(W:World)(p:Nat)(hp:p<=W.heap.size)(d:Array Value)(h:CV W p cx2 d):Calls prog 16 #[.agg d] W (Qbj W (.bool true)):=Y4 ex2 Jnc p W hp d (by rw[Jlr];exact h)
def Jnd:QbB ex1 cx1 {FZ with likes:=4}=⟨3,[120],1,0⟩:=by decide +kernel
def JgA(W:World)(c d:Array Value)(p:Nat)(hp:p<=W.heap.size)(h:QaV W (In W) ex1 c)(hd:CV W p cx1 d):Calls prog 12 #[.agg c,.agg d,.agg #[Nl,Iv 4,Iv 0,Iv 0,Iv 0,Iv 0,Iv 0,Iv 0,Iv 0,.bool false,.bool false,Nl]] W (λe w'=>e=.returned (.agg (yh 3 (.string ⟨#[120]⟩) 1 0))/\yr W w'):=by
 have h1:=KM ex1 {FZ with likes:=4} cx1 c d Nl Nl p W h Jdk (λ_=>JiX.ops) ⟨by decide,by decide⟩ (Zu W) (YJ W) hp hd (by unfold QbI;decide);rw[Jnd]at h1;exact h1
def JiY(W:World):(binOp .eql 48 (.agg (yh 3 (.string ⟨#[120]⟩) 1 0)) (.agg (yh 3 (.string ⟨#[120]⟩) 1 0))).run prog W=.ok (.bool true) W:=zk
def Jne:QbB ex1 cx1 {FZ with likes:=3}=⟨0,[],1,0⟩:=by decide +kernel
def JgB(W:World)(c d:Array Value)(p:Nat)(hp:p<=W.heap.size)(h:QaV W (In W) ex1 c)(hd:CV W p cx1 d):Calls prog 12 #[.agg c,.agg d,.agg #[Nl,Iv 3,Iv 0,Iv 0,Iv 0,Iv 0,Iv 0,Iv 0,Iv 0,.bool false,.bool false,Nl]] W (λe w'=>e=.returned (.agg (yh 0 Em 1 0))/\yr W w'):=by
 have h1:=KM ex1 {FZ with likes:=3} cx1 c d Nl Nl p W h Jdk (λ_=>JiX.ops) ⟨by decide,by decide⟩ (Zu W) (YJ W) hp hd (by unfold QbI;decide);rw[Jne]at h1;exact h1
def JiZ(W:World):(binOp .eql 48 (.agg (yh 0 Em 1 0)) (.agg (yh 0 Em 1 0))).run prog W=.ok (.bool true) W:=zk
def Jnf:QbB ex2 cx2 {FZ with likes:=0}=⟨2,[121],7,0⟩:=by decide +kernel
def JgC(W:World)(c d:Array Value)(p:Nat)(hp:p<=W.heap.size)(h:QaV W (In W) ex2 c)(hd:CV W p cx2 d):Calls prog 12 #[.agg c,.agg d,.agg #[Nl,Iv 0,Iv 0,Iv 0,Iv 0,Iv 0,Iv 0,Iv 0,Iv 0,.bool false,.bool false,Nl]] W (λe w'=>e=.returned (.agg (yh 2 (.string ⟨#[121]⟩) 7 0))/\yr W w'):=by
 have h1:=KM ex2 {FZ with likes:=0} cx2 c d Nl Nl p W h JiW (λ_=>Jnc.ops) ⟨by decide,by decide⟩ (Zu W) (YJ W) hp hd (by unfold QbI;decide);rw[Jnf]at h1;exact h1
def Jja(W:World):(binOp .eql 48 (.agg (yh 2 (.string ⟨#[121]⟩) 7 0)) (.agg (yh 2 (.string ⟨#[121]⟩) 7 0))).run prog W=.ok (.bool true) W:=zk
def Jng:QbB ex1 cx2 {FZ with likes:=0}=⟨0,[],0,1⟩:=by decide +kernel
def JgD(W:World)(c d:Array Value)(p:Nat)(hp:p<=W.heap.size)(h:QaV W (In W) ex1 c)(hd:CV W p cx2 d):Calls prog 12 #[.agg c,.agg d,.agg #[Nl,Iv 0,Iv 0,Iv 0,Iv 0,Iv 0,Iv 0,Iv 0,Iv 0,.bool false,.bool false,Nl]] W (λe w'=>e=.returned (.agg (yh 0 Em 0 1))/\yr W w'):=by
 have h1:=KM ex1 {FZ with likes:=0} cx2 c d Nl Nl p W h Jdk (λ_=>JiX.ops) ⟨by decide,by decide⟩ (Zu W) (YJ W) hp hd (by unfold QbI;decide);rw[Jng]at h1;exact h1
def Jjb(W:World):(binOp .eql 48 (.agg (yh 0 Em 0 1)) (.agg (yh 0 Em 0 1))).run prog W=.ok (.bool true) W:=zk
def Jdp(W:World):Calls prog 16 #[.agg #[Nl,Nl,Nl,Nl]] W (Qbj W (.bool false)):=Jdj 0 W (Nat.zero_le _) _ (JcS W 0)
variable{d:Array Value}
def CV.form1{p:Nat}(h:CV W p cx1 d):∃a0 c0 a1 c1 a2 c2 a3 c3,d=(zm a0 7 c0 a1 0 c1 a2 0 c2 a3 1 c3)/\OpG W p cx1.ops a0/\QfJ W p [0] a3:=by
 obtain⟨a0,c0,a1,c1,a2,c2,a3,c3,h1,h2,_,_,h5⟩:=h.g;exact⟨a0,c0,a1,c1,a2,c2,a3,c3,h1,h2,h5⟩
def CV.form2{p:Nat}(h:CV W p cx2 d):∃a0 c0 a1 c1 a2 c2 a3 c3,d=(zm a0 17 c0 a1 1 c1 a2 1 c2 a3 2 c3)/\QfJ W p [6] a1:=by
 obtain⟨a0,c0,a1,c1,a2,c2,a3,c3,h1,_,h3,_,_⟩:=h.g;exact⟨a0,c0,a1,c1,a2,c2,a3,c3,h1,h3⟩
def Qew:Array Value:=#[Iv 21,Iv 0,Em,Iv 0,Iv 3,Em,Iv 3,Iv 0,.string ⟨#[108,105,107,101,115]⟩,Iv 13,Iv 0,Em,Iv 17,Iv 6,Em,Iv 22,Iv 3,.string ⟨#[120]⟩,Iv 22,Iv 0,Em]
def JkY{u:OpM}(hi:i<7)(h:cx1.ops[i]?=some u):Qew[i*3]?=some (Iv u.code)/\Qew[i*3+1]?=some (Iv u.n)/\Qew[i*3+2]?=some (Sv u.name):=by
 have hk:i=0\/i=1\/i=2\/i=3\/i=4\/i=5\/i=6:=zo
 rcases hk with rfl|rfl|rfl|rfl|rfl|rfl|rfl<;>(have h':=Option.some.inj h;subst h';exact⟨rfl,rfl,rfl⟩)
def Jdq(w:World)(hL:Laid w):Calls prog 8 #[] w (Qbj w (.bool true)):=by
 obtain⟨R,hR⟩:=yt (Qbj w (.bool true))
 rw[hR];have HR:Hi (Qbj w (.bool true)=R):=hR;have HL:=Zh hL;have H5:Hi (Bel w w):=zO;clear hL hR;go_enter func8,ntmps8;go_wp2_with fail;refine(Jdl w (HL.o.below H5.o)).mono ?_;rintro e u1 ⟨c1,rfl,iB,L1⟩;obtain⟨rA,yB,jA,tA,rfl,_,_⟩:=iB.parts;have sA:yr u1 (u1.alloc (.cells (zY rA ex1.funcs.length yB jA ex1.clauses.length tA ex1.action) 25)):=zO.alloc zP _;have rB:Hi (Bel w (u1.alloc (.cells (zY rA ex1.funcs.length yB jA ex1.clauses.length tA ex1.action) 25))):=Jd H5.o (Jd L1 sA);have B0:=Zh (BxB.of (zQ u1 (.cells (zY rA ex1.funcs.length yB jA ex1.clauses.length tA ex1.action) 25)));have nA:=Zh (iB.up sA);have R9:Hi (yr w (u1.alloc (.cells (zY rA ex1.funcs.length yB jA ex1.clauses.length tA ex1.action) 25))):=Jd L1 sA;clear iB L1 sA;go_upto_region 2 with fail;generalize World.alloc u1 _=v1 at*;generalize u1.heap.size=k1 at*;go_wp2_with fail;refine(Jdn v1 (HL.o.below rB.o)).mono ?_;rintro e u2 ⟨c2,rfl,zB,I0⟩;obtain⟨hA,iA,mA,qA,rfl,_,_⟩:=zB.parts;have pA:yr u2 (u2.alloc (.cells (zY hA ex2.funcs.length iA mA ex2.clauses.length qA ex2.action) 25)):=zO.alloc zP _;have A6:Hi (Bel w (u2.alloc (.cells (zY hA ex2.funcs.length iA mA ex2.clauses.length qA ex2.action) 25))):=Jd rB.o (Jd I0 pA);have L3:=Zh (BxB.of (zQ u2 (.cells (zY hA ex2.funcs.length iA mA ex2.clauses.length qA ex2.action) 25)));have sB:=Zh (zB.up pA);have B3:Hi (yr v1 (u2.alloc (.cells (zY hA ex2.funcs.length iA mA ex2.clauses.length qA ex2.action) 25))):=Jd I0 pA;clear zB I0 pA;go_upto_region 3 with fail;generalize World.alloc u2 _=v2 at*;generalize u2.heap.size=k2 at*;obtain⟨r0,r1,r2⟩:=Qay (B0.o v2 (B3.o));have cr:=Jeu v2 _ (nA.o.up (B3.o));go_wp2_with fail;refine cr.mono ?_;clear cr;rintro e u3 ⟨kC,rfl,zA,cB⟩;obtain⟨a0,b0,a1,b1,a2,b2,a3,b3,rfl,g1,h1⟩:=zA.form1;have aA:yr u3 (u3.alloc (.cells (zm a0 7 b0 a1 0 b1 a2 0 b2 a3 1 b3) 31)):=zO.alloc zP _;have dC:Hi (Bel w (u3.alloc (.cells (zm a0 7 b0 a1 0 b1 a2 0 b2 a3 1 b3) 31))):=Jd A6.o (Jd cB aA);have S5:=Zh (BxB.of (zQ u3 (.cells (zm a0 7 b0 a1 0 b1 a2 0 b2 a3 1 b3) 31)));have hB:Hi (CV (u3.alloc (.cells (zm a0 7 b0 a1 0 b1 a2 0 b2 a3 1 b3) 31)) (u3.alloc (.cells (zm a0 7 b0 a1 0 b1 a2 0 b2 a3 1 b3) 31)).heap.size cx1 (zm a0 7 b0 a1 0 b1 a2 0 b2 a3 1 b3)):=(zA.up aA).mono zq;have O7:Hi (yr v2 (u3.alloc (.cells (zm a0 7 b0 a1 0 b1 a2 0 b2 a3 1 b3) 31))):=Jd cB aA
 have uC:Hi (∀W,Below (u3.alloc (.cells (zm a0 7 b0 a1 0 b1 a2 0 b2 a3 1 b3) 31)).heap.size (u3.alloc (.cells (zm a0 7 b0 a1 0 b1 a2 0 b2 a3 1 b3) 31)) W->∀(i:Nat)(x:OpM),cx1.ops[i]?=some x->∃b o,a0=some ⟨b,o,none⟩/\W.cell? ⟨b,o+i*3,none⟩=some (Iv x.code)/\W.cell? ⟨b,o+i*3+1,none⟩=some (Iv x.n)/\W.cell? ⟨b,o+i*3+2,none⟩=some (Sv x.name)):=λW hW i x hi=>by
  obtain⟨b,o,h1,h2⟩:=g1 i x hi;exact⟨b,o,h1,h2 W (Jd aA hW)⟩
 obtain⟨s0,t0,rfl,aB⟩:=h1 0 0 rfl;have yC:Hi (∀W,Below (u3.alloc (.cells (zm a0 7 b0 a1 0 b1 a2 0 b2 (some ⟨s0,t0,none⟩) 1 b3) 31)).heap.size (u3.alloc (.cells (zm a0 7 b0 a1 0 b1 a2 0 b2 (some ⟨s0,t0,none⟩) 1 b3) 31)) W->W.cell? ⟨s0,t0,none⟩=some (Iv 0)):=λW hW=>aB W (Jd aA hW)
 clear g1 h1 aB;clear r0 r1 r2 zA cB aA;go_upto_region 4 with fail;generalize World.alloc u3 _=v3 at*;generalize u3.heap.size=k3 at*;have vC:Hi (yr v1 v3):=Jd B3.o O7.o;obtain⟨r0,r1,r2⟩:=Qay (L3.o v3 (O7.o));have cr:=Jev v3 _ (sB.o.up (O7.o));go_wp2_with fail;refine cr.mono ?_;clear cr;rintro e u4 ⟨hD,rfl,uA,jB⟩;obtain⟨d0,e0,d1,e1,d2,e2,d3,e3,rfl,h2⟩:=uA.form2;have dA:yr u4 (u4.alloc (.cells (zm d0 17 e0 d1 1 e1 d2 1 e2 d3 2 e3) 31)):=zO.alloc zP _;have gC:Hi (Bel w (u4.alloc (.cells (zm d0 17 e0 d1 1 e1 d2 1 e2 d3 2 e3) 31))):=Jd dC.o (Jd jB dA);have M7:=Zh (BxB.of (zQ u4 (.cells (zm d0 17 e0 d1 1 e1 d2 1 e2 d3 2 e3) 31)));have dB:Hi (CV (u4.alloc (.cells (zm d0 17 e0 d1 1 e1 d2 1 e2 d3 2 e3) 31)) (u4.alloc (.cells (zm d0 17 e0 d1 1 e1 d2 1 e2 d3 2 e3) 31)).heap.size cx2 (zm d0 17 e0 d1 1 e1 d2 1 e2 d3 2 e3)):=(uA.up dA).mono zq;have M8:Hi (yr v3 (u4.alloc (.cells (zm d0 17 e0 d1 1 e1 d2 1 e2 d3 2 e3) 31))):=Jd jB dA;obtain⟨s1,t1,rfl,gB⟩:=h2 0 6 rfl;have tB:Hi (∀W,Below (u4.alloc (.cells (zm d0 17 e0 (some ⟨s1,t1,none⟩) 1 e1 d2 1 e2 d3 2 e3) 31)).heap.size (u4.alloc (.cells (zm d0 17 e0 (some ⟨s1,t1,none⟩) 1 e1 d2 1 e2 d3 2 e3) 31)) W->W.cell? ⟨s1,t1,none⟩=some (Iv 6)):=λW hW=>gB W (Jd dA hW)
 clear h2 gB;clear r0 r1 r2 uA jB dA;go_upto_region 5 with fail;generalize World.alloc u4 _=v4 at*;generalize u4.heap.size=k4 at*;go_upto_region 6 with fail;have bB:=Zh (BxB.of (zQ v4 (.cells Qew 34)));have yA:Hi (yr v4 (v4.alloc (.cells Qew 34))):=zO.alloc zP _;obtain⟨v5,GB⟩:∃v5,v5=v4.alloc (.cells Qew 34):=⟨_,rfl⟩
 rw[<-GB]at bB yA;unfold Qew at GB;rw[<-GB];obtain⟨wb,mB⟩:=yt v4.heap.size
 rw[mB]at bB |-;clear GB mB;have xA:Hi (yr v3 v5):=Jd M8.o yA.o;have eB:Hi (yr v2 v5):=Jd O7.o xA.o;have vA:Hi (yr v1 v5):=Jd B3.o eB.o;have T6:Hi (Bel w v5):=Jd gC.o yA.o;obtain⟨x0,x1,x2,x3⟩:=Qao (S5.o v5 xA.o);obtain⟨y0,y1,y2,y3⟩:=Qao (M7.o v5 yA.o);go_wp2_with fail;clear x0 x1 x2 x3 y0 y1 y2 y3;go_loopg [10] 7 λg v10 wr=>∃i:Nat,g+i=7/\v10=Iv (i:Int)/\Hi (yr v5 wr)
 case atStart=>exact⟨0,rfl,rfl,zO⟩
 case round=>
 obtain⟨wl,rfl⟩:=zJ wr;obtain⟨i,hg,rfl,A2⟩:=hrel
 by_cases hi:i<7
 ·have dil:decide ((i:Int)<7)=true:=zG zo;have diN:decide (i<7)=true:=zG hi;obtain⟨u,hu⟩:∃u,cx1.ops[i]?=some u:=⟨_,List.getElem?_eq_getElem (show i<cx1.ops.length from hi)⟩
  obtain⟨bo,oo,rfl,p0,p1,p2⟩:=uC.o wl (Jd xA.o A2.o) i u hu;obtain⟨g0,g1,g2⟩:=JkY hi hu;have hh:=bB.o wl A2.o;have q0:=(Ja hh (i*3)).trans g0;have q1:=(Ja hh (i*3+1)).trans g1;have q2:=(Ja hh (i*3+2)).trans g2;obtain⟨x0,x1,x2,x3⟩:=Qao (S5.o wl (Jd xA.o A2.o));have j0:0<=(i:Int):=zo;have j1:(i:Int)<7:=zo;have wk:IntKind.i64.wrap ((i:Int)+1)=((i+1:Nat):Int):=by rw[IntWalk.i64_in _ zo];omega
  have uB:=Jel u u;rw[zG (rfl:u=u)]at uB;unfold opV at uB;have P2:=Zh (And.intro hg hi);have HW:=Zh A2.o;clear hu g0 g1 g2 hh hg hi A2 x1 x2 x3;go_upto_region 11 with fail;go_region_held (λW=>W.cell? ⟨k3,0,none⟩=some (.slice (some ⟨bo,oo,none⟩) 7 b0)/\W.cell? ⟨bo,oo+i*3,none⟩=some (Iv u.code)/\W.cell? ⟨bo,oo+i*3+1,none⟩=some (Iv u.n)/\W.cell? ⟨bo,oo+i*3+2,none⟩=some (Sv u.name)/\W.cell? ⟨wb,i*3,none⟩=some (Iv u.code)/\W.cell? ⟨wb,i*3+1,none⟩=some (Iv u.n)/\W.cell? ⟨wb,i*3+2,none⟩=some (Sv u.name)) (go_keep) (fail);clear x0 p0 p1 p2 q0 q1 q2 uB;go_wp2;go_roundg (7-(i+1))
  case measure=>have:=P2.o;omega
  case rel=>exact⟨i+1,by have:=P2.o;omega,rfl,HW.o.drew⟩
 have dil:decide ((i:Int)<7)=false:=zH zo;have diN:decide (i<7)=false:=zH hi;have bA:=Zh A2.o;clear hi hg A2;go_upto_region 13 with fail;clear dil diN;obtain⟨z0,rfl⟩:=zJ wl;obtain⟨r0,r1,r2⟩:=Qay (B0.o z0 (Jd vA.o bA.o));obtain⟨x0,x1,x2,x3⟩:=Qao (S5.o z0 (Jd xA.o bA.o));have cr:=JgA z0 _ _ v3.heap.size ((Jd xA.o bA.o)).size (nA.o.up (Jd vA.o bA.o)) (hB.o.up (Jd xA.o bA.o));go_wp2_with fail;refine cr.mono ?_;clear cr r0 r1 r2 x0 x1 x2 x3;rintro e y1 ⟨rfl,hb⟩;have zC:=Zh (BxB.of (zQ y1 (.cells (yh 3 (.string ⟨#[120]⟩) 1 0) 48)));have aC:Hi (yr z0 (y1.alloc (.cells (yh 3 (.string ⟨#[120]⟩) 1 0) 48))):=Jd hb (zO.alloc zP _);have cA:Hi (yr v5 (y1.alloc (.cells (yh 3 (.string ⟨#[120]⟩) 1 0) 48))):=Jd bA.o aC.o;clear hb;go_upto_region 14 with fail;generalize World.alloc y1 _=z1 at*;generalize y1.heap.size=j1 at*;obtain⟨r0,r1,r2⟩:=Qay (B0.o z1 (Jd vA.o cA.o));obtain⟨x0,x1,x2,x3⟩:=Qao (S5.o z1 (Jd xA.o cA.o));have cr:=JgB z1 _ _ v3.heap.size ((Jd xA.o cA.o)).size (nA.o.up (Jd vA.o cA.o)) (hB.o.up (Jd xA.o cA.o));go_wp2_with fail;refine cr.mono ?_;clear cr r0 r1 r2 x0 x1 x2 x3;rintro e y2 ⟨rfl,hb⟩;have H9:=Zh (BxB.of (zQ y2 (.cells (yh 0 Em 1 0) 48)));have nB:Hi (yr z1 (y2.alloc (.cells (yh 0 Em 1 0) 48))):=Jd hb (zO.alloc zP _);have I5:Hi (yr v5 (y2.alloc (.cells (yh 0 Em 1 0) 48))):=Jd cA.o nB.o;clear hb;go_upto_region 15 with fail;generalize World.alloc y2 _=z2 at*;generalize y2.heap.size=j2 at*;obtain⟨r0,r1,r2⟩:=Qay (L3.o z2 (Jd eB.o I5.o));obtain⟨x0,x1,x2,x3⟩:=Qao (M7.o z2 (Jd yA.o I5.o));have cr:=JgC z2 _ _ v4.heap.size ((Jd yA.o I5.o)).size (sB.o.up (Jd eB.o I5.o)) (dB.o.up (Jd yA.o I5.o));go_wp2_with fail;refine cr.mono ?_;clear cr r0 r1 r2 x0 x1 x2 x3;rintro e y3 ⟨rfl,hb⟩;have bC:=Zh (BxB.of (zQ y3 (.cells (yh 2 (.string ⟨#[121]⟩) 7 0) 48)));have qB:Hi (yr z2 (y3.alloc (.cells (yh 2 (.string ⟨#[121]⟩) 7 0) 48))):=Jd hb (zO.alloc zP _);have m9:Hi (yr v5 (y3.alloc (.cells (yh 2 (.string ⟨#[121]⟩) 7 0) 48))):=Jd I5.o qB.o;clear hb;go_upto_region 16 with fail;generalize World.alloc y3 _=z3 at*;generalize y3.heap.size=j3 at*;obtain⟨r0,r1,r2⟩:=Qay (B0.o z3 (Jd vA.o m9.o));obtain⟨x0,x1,x2,x3⟩:=Qao (M7.o z3 (Jd yA.o m9.o));have cr:=JgD z3 _ _ v4.heap.size ((Jd yA.o m9.o)).size (nA.o.up (Jd vA.o m9.o)) (dB.o.up (Jd yA.o m9.o));go_wp2_with fail;refine cr.mono ?_;clear cr r0 r1 r2 x0 x1 x2 x3;rintro e y4 ⟨rfl,hb⟩;have eC:=Zh (BxB.of (zQ y4 (.cells (yh 0 Em 0 1) 48)));have kB:Hi (yr z3 (y4.alloc (.cells (yh 0 Em 0 1) 48))):=Jd hb (zO.alloc zP _);have kA:Hi (yr v5 (y4.alloc (.cells (yh 0 Em 0 1) 48))):=Jd m9.o kB.o;clear hb;go_upto_region 17 with fail;generalize World.alloc y4 _=z4 at*;generalize y4.heap.size=j4 at*;obtain⟨x0,x1,x2,x3⟩:=Qao (S5.o z4 (Jd xA.o kA.o));have cr:=Jdm z4 v3.heap.size (Jd xA.o kA.o).size _ (hB.o.up (Jd xA.o kA.o));go_wp2_with fail;refine cr.mono ?_;clear cr x0 x1 x2 x3;rintro e z5 ⟨rfl,I3⟩;have xB:=Zh (Jd kA.o I3);have hC:=Zh I3;clear I3;obtain⟨x0,x1,x2,x3⟩:=Qao (M7.o z5 (Jd yA.o xB.o));have cr:=Jdo z5 v4.heap.size (Jd yA.o xB.o).size _ (dB.o.up (Jd yA.o xB.o));go_wp2_with fail;refine cr.mono ?_;clear cr x0 x1 x2 x3;rintro e z6 ⟨rfl,M2⟩;have iC:=Zh (Jd xB.o M2);have xC:=Zh (Jd hC.o M2);clear M2;have cr:=Jdp z6;go_wp2_with fail;refine cr.mono ?_;clear cr;rintro e z7 ⟨rfl,r8⟩;have IC:=Zh (Jd iC.o r8);have pB:Hi (yr z4 z7):=Jd xC.o r8;have eA:Hi (yr z3 z7):=Jd kB.o pB.o;have gA:Hi (yr z2 z7):=Jd qB.o eA.o;have vB:Hi (yr z1 z7):=Jd nB.o gA.o;clear r8;obtain⟨x0,x1,x2,x3⟩:=Qao (S5.o z7 (Jd xA.o IC.o));obtain⟨y0,y1,y2,y3⟩:=Qao (M7.o z7 (Jd yA.o IC.o));have aB:=yC.o z7 (Jd xA.o IC.o);have gB:=tB.o z7 (Jd yA.o IC.o);obtain⟨gD,iD,rC,uD⟩:=Qao (zC.o z7 vB.o);obtain⟨jC,xD,pC,kD⟩:=Qao (H9.o z7 gA.o);obtain⟨zD,yD,cD,qC⟩:=Qao (bC.o z7 eA.o);obtain⟨vD,eD,dD,bD⟩:=Qao (eC.o z7 pB.o);have nC:=JiY;have jD:=JiZ;have tC:=Jja;have aD:=Jjb
 have HT:Hi (R (.returned (.bool true)) z7):=by
  rw[<-HR.o];exact⟨rfl,Jd T6.o IC.o⟩
 clear HR;go_wp2;exact HT.o
def sF(l:List FnM):Nat:=(l.map λf=>szE 0 f.body+f.params.length).sum
def sC(l:List ClM):Nat:=(l.map λc=>szE 0 c.cond).sum
def QfZ(r:Qah):Bool:=decide (r.funcs.length<=6)&&(decide (r.clauses.length<=6)&&decide (sF r.funcs+sC r.clauses<=300))
def Jnh{l:List FnM}{f:FnM}(h:l[i]?=some f):sF (l.take (i+1))=sF (l.take i)+(szE 0 f.body+f.params.length):=by
 rw[List.take_add_one,h,Option.toList_some,sF,sF,List.map_append,List.sum_append];simp
def Jni{l:List ClM}{f:ClM}(h:l[i]?=some f):sC (l.take (i+1))=sC (l.take i)+szE 0 f.cond:=by
 rw[List.take_add_one,h,Option.toList_some,sC,sC,List.map_append,List.sum_append];simp
def JbS{w0:World}(r:Qah)(c:Array Value)(W:World)(h1:QaV w0 (In w0) r c)(hb:Bel w0 W)(hp:∀f∈r.funcs,f.params.length<=200000000000000):Calls prog 9 #[.agg c] W (Qbj W (.bool (QfZ r))):=by
 obtain⟨fv,cv,rfl,f1,k1⟩:=h1;obtain⟨ad,cc,rfl,g1⟩:=Qdy.of FnX.len f1;obtain⟨bd,dc,rfl,g2⟩:=Qdy.of ClX.len k1;obtain⟨q,hq⟩:=yt (QfZ r)
 rw[hq];unfold QfZ at hq;obtain⟨fl,hfl⟩:=yt r.funcs.length
 obtain⟨cl,hcl⟩:=yt r.clauses.length
 rw[hfl,hcl]at hq;have cA:=Zh hfl;have dA:=Zh hcl;have O5:=Zh g1;have U9:=Zh g2;rw[hfl,hcl];clear f1 k1 g1 g2 hfl hcl;have HX:=Zh (BxB.of (zQ W (.cells (zY ad fl cc bd cl dc r.action) 25)));have H5:Hi (Bel W (W.alloc (.cells (zY ad fl cc bd cl dc r.action) 25))):=zO.alloc (Nat.le_refl _) _;have U2:=Zh (Jd hb H5.o);clear hb;have D3:=Zh hp;clear hp;go_enter func9,ntmps9;go_upto_region 1 with fail;generalize World.alloc W _=w1 at*;generalize W.heap.size=xb at*;have M5:Hi (Bel w1 w1):=zO;obtain⟨x0,x1,x2⟩:=Qay (HX.o _ M5.o)
 by_cases e3:6<fl
 ·have q3:decide ((fl:Int)>6)=true:=zG zo;have A3:q=false:=by rw[<-hq,zH (by omega:¬fl<=6)];rfl
  subst A3;clear hq e3;go_wp2;go_ret;exact⟨rfl,Jd H5.o M5.o⟩
 have q3:decide ((fl:Int)>6)=false:=zH zo
 by_cases e4:6<cl
 ·have q4:decide ((cl:Int)>6)=true:=zG zo;have A3:q=false:=by rw[<-hq,zH (by omega:¬cl<=6)];simp
  subst A3;clear hq e3 e4;go_wp2;go_ret;exact⟨rfl,Jd H5.o M5.o⟩
 have q4:decide ((cl:Int)>6)=false:=zH zo
 have eA:decide (sF r.funcs+sC r.clauses<=300)=q:=by
  rw[<-hq,zG (by omega:fl<=6),zG (by omega:cl<=6)];simp
 have HQ:=Zh eA;have HE:Hi (fl<=6/\cl<=6):=⟨by omega,by omega⟩
 clear hq eA e3 e4;go_wp2_with fail;go_loopg [3,4] fl λg v3 v4 wr=>∃i N:Nat,g+i=fl/\v3=Iv (N:Int)/\v4=Iv (i:Int)/\Hi (Bel w1 wr/\N=sF (r.funcs.take i)/\N<=i*200000000024801)
 case atStart=>exact⟨0,0,rfl,rfl,rfl,M5.o,rfl,by decide⟩
 case round=>
 clear M5 q3 q4 x0 x1 x2;obtain⟨wl,rfl⟩:=zJ wr;obtain⟨i,N,hg,rfl,rfl,A2⟩:=hrel;have M5:Hi (Bel w1 wl):=A2.o.1;have HN:=Zh A2.o.2.1;have T2:=Zh A2.o.2.2;clear A2;obtain⟨x0,x1,x2⟩:=Qay (HX.o _ M5.o)
 by_cases hi:i<fl
 ·have dil:decide ((i:Int)<(fl:Int))=true:=zG zo;have diN:decide (i<fl)=true:=zG hi;obtain⟨f,hf⟩:∃f,r.funcs[i]?=some f:=⟨_,List.getElem?_eq_getElem (by rw[cA.o];exact hi)⟩
  obtain⟨b1,o1,E7,hk1⟩:=O5.o (List.ne_nil_of_mem (List.mem_of_getElem? hf));subst E7;obtain⟨d1,T5,hc1⟩:=hk1 i f hf;obtain⟨pa,pc,xa,xc,rfl,uA,xA⟩:=T5.form;have O4:=Zh (Jd U2.o M5.o);have p0:wl.cell? ⟨b1,o1+i*7,none⟩=some (Sv f.name):=hc1 wl O4.o 0 _ rfl;have p1:wl.cell? ⟨b1,o1+i*7+1,none⟩=some (.slice pa f.params.length pc):=hc1 wl O4.o 1 _ rfl;have p3:wl.cell? ⟨b1,o1+i*7+3,none⟩=some (Iv f.body.kind):=hc1 wl O4.o 3 _ rfl;have p4:wl.cell? ⟨b1,o1+i*7+4,none⟩=some (Iv f.body.num):=hc1 wl O4.o 4 _ rfl;have p5:wl.cell? ⟨b1,o1+i*7+5,none⟩=some (Sv f.body.name):=hc1 wl O4.o 5 _ rfl;have p6:wl.cell? ⟨b1,o1+i*7+6,none⟩=some (.slice xa f.body.kids.length xc):=hc1 wl O4.o 6 _ rfl;have k0:0<=(i:Int):=zo;have k1:(i:Int)<(fl:Int):=zo;obtain⟨m,hm⟩:=yt f.params.length
  have gA:m<=200000000000000:=by rw[<-hm];exact D3.o f (List.mem_of_getElem? hf)
  rw[hm]at p1;obtain⟨z,hz⟩:=yt (szE 0 f.body)
  have FA:=JhY 0 f.body;rw[hz]at FA;have cq:=YA f.body 0 _ wl zp xA O4.o;rw[hz]at cq;rw[show ((0:Nat):Int)=0 from rfl]at cq;have yA:Hi (N+z+m=sF (r.funcs.take (i+1))):=by rw[Hi,Jnh hf,<-HN.o,hz,hm,Nat.add_assoc]
  have vA:=T2.o;have zA:=HE.o;have HG:Hi (gk+i=fl/\i<fl/\N+z+m<=(i+1)*200000000024801):=⟨hg,hi,by omega⟩
  have wk:IntKind.i64.wrap ((i:Int)+1)=((i+1:Nat):Int):=by rw[IntWalk.i64_in _ zo];omega
  have wz:IntKind.i64.wrap ((N:Int)+(z:Int))=((N+z:Nat):Int):=by rw[IntWalk.i64_in _ zo];omega
  have jA:IntKind.i64.wrap (((N+z:Nat):Int)+(m:Int))=((N+z+m:Nat):Int):=by rw[IntWalk.i64_in _ zo];omega
  have iA:IntKind.i64.wrap ((N:Int)+(z:Int)+(m:Int))=(N:Int)+(z:Int)+(m:Int):=IntWalk.i64_in _ zo
  have aA:∀W,Bel w1 W->Calls prog 19 #[.agg (zg f.body.kind f.body.num f.body.name xa f.body.kids.length xc),Iv 0] W (Qbj W (Iv (z:Nat))):=λW hW=>by
   have cq:=YA f.body 0 _ W zp xA (Jd U2.o hW);rw[hz]at cq;exact cq
  have KC:Hi (∀W,Bel w1 W->W.cell? ⟨b1,o1+i*7+1,none⟩=some (.slice pa m pc)/\W.cell? ⟨b1,o1+i*7+3,none⟩=some (Iv f.body.kind)/\W.cell? ⟨b1,o1+i*7+4,none⟩=some (Iv f.body.num)/\W.cell? ⟨b1,o1+i*7+5,none⟩=some (Sv f.body.name)/\W.cell? ⟨b1,o1+i*7+6,none⟩=some (.slice xa f.body.kids.length xc)):=λW hW=>by
   have hl:=Jd U2.o hW;exact⟨by rw[<-hm];exact hc1 W hl 1 _ rfl,hc1 W hl 3 _ rfl,hc1 W hl 4 _ rfl,hc1 W hl 5 _ rfl,hc1 W hl 6 _ rfl⟩
  have CQ:=Zh aA;clear hg hi hf hk1 T5 hc1 uA xA hz FA vA zA gA hm HN T2 aA p0 p1 p3 p4 p5 p6;go_upto_region 7 with fail;have HD:Hi (Bel w1 wl.drew):=M5.o.drew;clear x0 x1 x2;refine wp_region_held_drew (S:=(λW=>W.cell? ⟨xb,0,none⟩=some (.slice (some ⟨b1,o1,none⟩) fl cc)/\W.cell? ⟨b1,o1+i*7+1,none⟩=some (.slice pa m pc)/\W.cell? ⟨b1,o1+i*7+3,none⟩=some (Iv f.body.kind)/\W.cell? ⟨b1,o1+i*7+4,none⟩=some (Iv f.body.num)/\W.cell? ⟨b1,o1+i*7+5,none⟩=some (Sv f.body.name)/\W.cell? ⟨b1,o1+i*7+6,none⟩=some (.slice xa f.body.kids.length xc))) zk (⟨(Qay (HX.o _ HD.o)).1,KC.o _ HD.o⟩) λhH=>?_;refine zK 0 ?_
  refine zK 1 ?_;refine zK 2 ?_;refine zK 3 ?_;refine zK 4 ?_;refine zK 5 ?_;refine zK 6 ?_;refine zK 9 ?_;refine zK 10 ?_;refine zK 11 ?_;refine zK 12 ?_;refine zK 13 ?_;refine zK 14 ?_;refine zK 15 ?_;try simp only[zX]
  refine ZS 7 rfl λK hK=>?_
  (have cq:=CQ.o _ HD.o;go_simp;go_at_call 19;refine cq.mono ?_;clear cq;rintro e w8 ⟨rfl,H7⟩)
  have IA:Hi (Bel w1 w8):=Jd HD.o H7;clear H7;refine zU hK (⟨(Qay (HX.o _ IA.o)).1,KC.o _ IA.o⟩) λhH=>?_;clear hK K
  try simp only[zX]
  refine zK 8 ?_;refine zK 16 ?_;refine zK 17 ?_;try simp only[zX]
  refine wpAnyH_done zk ?_ _;clear hH CQ KC HD;go_wp2;go_roundg (fl-(i+1))
  case measure=>have:=HG.o;omega
  case rel=>exact⟨i+1,N+z+m,by have:=HG.o;omega,rfl,rfl,IA.o,yA.o,HG.o.2.2⟩
 have dil:decide ((i:Int)<(fl:Int))=false:=zH zo;have diN:decide (i<fl)=false:=zH hi;have bA:r.funcs.take i=r.funcs:=List.take_of_length_le (by rw[cA.o];omega);have H9:=Zh HQ.o
 have yA:Hi (N=sF r.funcs/\N<=1300000000000000):=by
  have h:=HN.o;have h2:=T2.o;have h3:=HE.o;rw[bA]at h;exact⟨h,by omega⟩
 clear hg hi bA HN T2 HQ;go_wp2_with fail;clear dil diN x0 x1 x2;go_loopg [3,5] cl λg v3 v5 wr=>∃i M:Nat,g+i=cl/\v3=Iv (M:Int)/\v5=Iv (i:Int)/\Hi (Bel w1 wr/\M=N+sC (r.clauses.take i)/\M<=1300000000000000+i*24801)
 case atStart=>exact⟨0,N,rfl,rfl,rfl,M5.o,rfl,by have:=yA.o;omega⟩
 case round=>
 clear M5;obtain⟨wm,rfl⟩:=zJ wr;obtain⟨j,M,hg,rfl,rfl,A2⟩:=hrel;have M5:Hi (Bel w1 wm):=A2.o.1;have HN:=Zh A2.o.2.1;have T2:=Zh A2.o.2.2;clear A2;obtain⟨x0,x1,x2⟩:=Qay (HX.o _ M5.o)
 by_cases hi:j<cl
 ·have dil:decide ((j:Int)<(cl:Int))=true:=zG zo;have diN:decide (j<cl)=true:=zG hi;obtain⟨f,hf⟩:∃f,r.clauses[j]?=some f:=⟨_,List.getElem?_eq_getElem (by rw[dA.o];exact hi)⟩
  obtain⟨b1,o1,E7,hk1⟩:=U9.o (List.ne_nil_of_mem (List.mem_of_getElem? hf));subst E7;obtain⟨d1,T5,hc1⟩:=hk1 j f hf;obtain⟨xa,xc,rfl,xA⟩:=T5.form;have O4:=Zh (Jd U2.o M5.o);have p0:wm.cell? ⟨b1,o1+j*6,none⟩=some (Iv f.cond.kind):=hc1 wm O4.o 0 _ rfl;have p1:wm.cell? ⟨b1,o1+j*6+1,none⟩=some (Iv f.cond.num):=hc1 wm O4.o 1 _ rfl;have p2:wm.cell? ⟨b1,o1+j*6+2,none⟩=some (Sv f.cond.name):=hc1 wm O4.o 2 _ rfl;have p3:wm.cell? ⟨b1,o1+j*6+3,none⟩=some (.slice xa f.cond.kids.length xc):=hc1 wm O4.o 3 _ rfl;have k0:0<=(j:Int):=zo;have k1:(j:Int)<(cl:Int):=zo;obtain⟨z,hz⟩:=yt (szE 0 f.cond)
  have FA:=JhY 0 f.cond;rw[hz]at FA;have cq:=YA f.cond 0 _ wm zp xA O4.o;rw[hz]at cq;rw[show ((0:Nat):Int)=0 from rfl]at cq;have OB:Hi (M+z=N+sC (r.clauses.take (j+1))):=by rw[Hi,Jni hf,HN.o,hz,Nat.add_assoc]
  have vA:=T2.o;have zA:=HE.o;have HG:Hi (gk+j=cl/\j<cl/\M+z<=1300000000000000+(j+1)*24801):=⟨hg,hi,by omega⟩
  have wk:IntKind.i64.wrap ((j:Int)+1)=((j+1:Nat):Int):=by rw[IntWalk.i64_in _ zo];omega
  have wz:IntKind.i64.wrap ((M:Int)+(z:Int))=((M+z:Nat):Int):=by rw[IntWalk.i64_in _ zo];omega
  clear hg hi hf hk1 T5 hc1 xA hz FA vA zA HN T2;go_wp2_with fail;refine cq.mono ?_;rintro e w8 ⟨rfl,H7⟩;have IA:Hi (Bel w1 w8):=Jd M5.o H7;clear cq x0 x1 x2 p0 p1 p2 p3 H7;go_wp2;go_roundg (cl-(j+1))
  case measure=>have:=HG.o;omega
  case rel=>exact⟨j+1,M+z,by have:=HG.o;omega,rfl,rfl,IA.o,OB.o,HG.o.2.2⟩
 have dil:decide ((j:Int)<(cl:Int))=false:=zH zo;have diN:decide (j<cl)=false:=zH hi
 have hA:decide ((M:Int)<=300)=q:=by
  have h:=HN.o;rw[List.take_of_length_le (by rw[dA.o];omega),yA.o.1]at h;rw[<-H9.o,<-h];exact decide_eq_decide.2 zo
 clear hg hi HN T2;go_wp2;go_ret;exact⟨rfl,Jd H5.o M5.o⟩
open Go.ChangeShapes Go.WideShapes Go.RowKit Go.Deep
open Go.Joins
variable{p:List MemPlace}{v:Value}
variable{l cs:List Value}{e t:TypeId}{fs:Array Field}
section
variable {H:Type}{enc:TypeId×Value->H}{P:Program}{w:World}{base:Nat}{spare:Nat->Bool}{held:Bool}
def Y5{x:DataW H×List MemPlace}(ht:P.underlying t=some (.slice e))(he:P.underlying e=some (.struct fs))
  (hone:oneCellFields P fs=true) (hC:P.cellsOf e=fs.size) (h:DataW.trod enc P w base spare held fuel t cs=some x):
  (cs=[Nl]/\x=(.nil,[]))\/
  ∃(a:Addr) (len cap m:Nat) (D:Nat->DataW H) (Pl:Nat->List MemPlace),cs=[.slice (some a) len cap]/\base<=a.block/\len<=cap/\cap<=maxLen/\m=(if spare a.block then cap else len)/\
   x=(.slice ((List.range len).map D) ((List.range (m-len)).map λj=>D (len+j)),MemPlace.row a (m*fs.size)++(List.range m).flatMap Pl)/\
   ∀i,i<m->∃(ys:List (DataW H×List MemPlace)) (n:Nat),D i=.agg (ys.map (·.1))/\Pl i=ys.flatMap (·.2)/\ys.length=fs.size/\
    ∀(j:Nat)(f:Field),fs[j]?=some f->∃(v:Value) (y:DataW H×List MemPlace),w.cell? (a.add (i*fs.size+j))=some v/\ys[j]?=some y/\DataW.trod enc P w base spare held n f.type [v]=some y:=by
 rcases open_slice ht h with h0|⟨a,len,cap,m,n,D,Pl,hcs,hb,hl,hm,hmm,hx,hi⟩
 ·exact .inl h0
 ·refine .inr ⟨a,len,cap,m,D,Pl,hcs,hb,hl,hm,hmm,by rw[hC]at hx;exact hx,λi him=>?_⟩;obtain⟨zA,hc,vA⟩:=hi i him;rw[hC]at hc;obtain⟨ys,n',dA,hy,cA,aA,hf⟩:=DataW.trod_struct he vA;obtain⟨_,hcl,hat⟩:=World.cells?_some hc;simp only[Prod.mk.injEq]at hy;refine⟨ys,n',hy.1,hy.2,aA,λj f hj=>?_⟩;obtain⟨ho,hk⟩:=hone_of hone j f hj;have bA:j<fs.size:=(Array.getElem?_eq_some_iff.1 hj).1;have yA:=hat j bA;have hv:zA[j]?=some (zA[j]'(by omega)):=getElem?_eq_getElem zo;have h1:=hf j f hj;rw[ho,hk]at h1
  have xA:(zA.drop j).take 1=[zA[j]'(by omega)]:=by
   rw[List.drop_eq_getElem_cons zo];rfl
  rw[xA]at h1;have uA:ys[j]?=some (ys[j]'(by omega)):=getElem?_eq_getElem zo;refine⟨_,_,?_,uA,h1.trans uA⟩;rw[<-Go.Deep.add_add,yA,hv]
def JfA{r:Go.Reach}{d:DataW H}(hs:P.underlying t=some (.struct fs))(hone:oneCellFields P fs=true)(hC:P.cellsOf t=fs.size)
  (hv:Value.okWide P w r b0 t v) (h:DataW.Trod enc P w base spare held t v d p):
  ∃cs:List Value,v=.agg cs.toArray/\cs.length=fs.size/\∀(j:Nat)(f:Field),fs[j]?=some f->∃(v:Value) (y:DataW H×List MemPlace) (n:Nat),cs[j]?=some v/\DataW.trod enc P w base spare held n f.type [v]=some y:=by
 obtain⟨cs,rfl,hsz⟩:=okWide_struct hs hv;obtain⟨l⟩:=cs;obtain⟨zA,hf⟩:=h;obtain⟨ys,n,_,hx,_,vA,hg⟩:=DataW.trod_struct hs hf;have yA:l.length=fs.size:=hsz.trans hC;refine⟨l,rfl,yA,λj f hj=>?_⟩;obtain⟨ho,hk⟩:=hone_of hone j f hj;have aA:j<fs.size:=(Array.getElem?_eq_some_iff.1 hj).1;have h1:=hg j f hj;rw[ho,hk]at h1;have hcl:(Value.cells (.agg l.toArray)).toList=l:=rfl;rw[hcl]at h1
 have xA:(l.drop j).take 1=[l[j]'(by omega)]:=by
  rw[List.drop_eq_getElem_cons zo];rfl
 rw[xA]at h1;have uA:ys[j]?=some (ys[j]'(by omega)):=getElem?_eq_getElem zo;exact⟨_,_,n,getElem?_eq_getElem zo,h1.trans uA⟩
end
def Jdr(z:α){P:Nat->α->Prop}(h:∀i,i<n->∃x,P i x):∃f:Nat->α,∀i,i<n->P i (f i):=
 ⟨λi=>if hi:i<n then (h i hi).choose else z,λi hi=>by
  have:=(h i hi).choose_spec
  simpa[hi] using this⟩
def Jbg(z:α){P:Nat->α->Prop}(h:∀i,i<n->∃x,P i x):∃l:List α,l.length=n/\(∀i x,l[i]?=some x->P i x)/\∀x,x∈l->∃i,i<n/\P i x:=by
 obtain⟨f,hf⟩:=Jdr z h;refine⟨(List.range n).map f,by simp,λi x hx=>?_,λx hx=>?_⟩
 ·simp only[List.getElem?_map]at hx
  have hil:i<n:=by
   rcases Nat.lt_or_ge i n with h|h
   ·exact h
   ·rw[List.getElem?_eq_none (by simpa using h)]at hx;simp at hx
  rw[List.getElem?_range hil]at hx;simp only[Option.map_some,Option.some.injEq]at hx;subst hx;exact hf i hil
 ·obtain⟨i,hi,rfl⟩:=List.mem_map.1 hx;exact⟨i,by simpa using hi,hf i (by simpa using hi)⟩
variable{a:Addr}
def Jds(h:w.cell? a=some v):a.spot=none:=by
 unfold World.cell? at h;split at h
 ·cases hs:a.spot with
  |none=>rfl
  |some x=>simp[hs]at h
 ·cases h
def Jjd(h:w.cell? a=some v):a.block<w.heap.size:=by
 refine Nat.lt_of_not_le λhn=>?_
 unfold World.cell? at h;rw[Array.getElem?_eq_none hn]at h;simp at h
def Jje(h:a.spot=none)(n:Nat):a.add n=⟨a.block,a.off+n,none⟩:=by
 unfold Addr.add;split
 ·next e=>subst e;cases a;simp_all
 ·rfl
def YK:maxLen=9223372036854775807:=rfl
def JfB{α:Type}(R:α->List Value->Prop)(g:α->List Value)(hg:∀a,R a (g a)):∀l:List α,QbM R l (l.flatMap g)
 |[]=>rfl
 |a::l=>⟨g a,_,hg a,by simp,JfB R g hg l⟩
def Qhk{P:Prop}(h:P:=by
  refine⟨b,?_,?_⟩
  ·rw[Nat.div_eq_sub_div hm (by omega)];exact h1
  ·rw[Nat.mod_eq_sub_mod (by omega)]
   exact h2):P:=h
def Jau{α:Type}(g:α->List Value)(m:Nat)(hm:0<m)(hg:∀a,(g a).length=m):∀(l:List α)(i:Nat)(u:Value),(l.flatMap g)[i]?=some u->∃a,l[i / m]?=some a/\(g a)[i % m]?=some u
 |[],i,u,h=>by simp at h
 |a::l,i,u,h=>by
  rw[List.flatMap_cons]at h
  by_cases hi:i<m
  ·rw[List.getElem?_append_left (by rw[hg];exact hi)]at h;exact⟨a,by rw[Nat.div_eq_of_lt hi];rfl,by rw[Nat.mod_eq_of_lt hi];exact h⟩
  ·rw[List.getElem?_append_right (by rw[hg];omega),hg]at h;obtain⟨b,h1,h2⟩:=Jau g m hm hg l (i-m) u h;exact Qhk
def YL{cap:Nat}{R:α->List Value->Prop}(g:α->List Value)(m:Nat)(hm:0<m)(hgl:∀a,(g a).length=m)(hg:∀a,R a (g a)){l:List α}(hc:l.length<=cap)
  (h:∀i x,l[i]?=some x->∀j u,(g x)[j]?=some u->W.cell? (a.add (i*m+j))=some u):Qan W (In W) R l (.slice (some a) l.length cap):=by
 refine⟨some a,cap,l.flatMap g,rfl,hc,JfB R g hg l,?_⟩
 cases l with
 |nil=>exact .inl rfl
 |cons x0 l0=>
  refine .inr ?_;obtain⟨u0,zA⟩:∃u,(g x0)[0]?=some u:=⟨_,getElem?_eq_getElem (by rw[hgl];exact hm)⟩
  have h0:=h 0 x0 rfl 0 u0 zA;have yA:W.cell? a=some u0:=by simpa[Addr.add] using h0
  have xA:=Jds yA;refine⟨a.block,a.off,by rw[<-xA],Jjd yA,λj u hj=>?_⟩;obtain⟨x,hx,hu⟩:=Jau g m hm hgl _ _ _ hj;have h1:=h _ x hx _ u hu;rw[Jje xA,show j / m*m+j % m=j by rw[Nat.mul_comm];exact Nat.div_add_mod j m]at h1;exact h1
def zBf{P:Prop}(h:P:=by
  simp at hcs;subst hcs;exact⟨none,0,[],rfl,none,0,[],rfl,Nat.le_refl _,rfl,.inl rfl⟩):P:=h
variable{held:Bool}{spare:Nat->Bool}
def Jjf{enc:TypeId×Value->H}{x:DataW H×List MemPlace}
  (hf:DataW.trod enc prog w base spare held fuel 42 [v]=some x):
  ∃(la:Option Addr) (lc:Nat) (l:List (By×Int)),v=.slice la l.length lc/\Qbx w (.slice la l.length lc) l:=by
 rcases Y5 underlying42 underlying82 zk zk hf with⟨hcs,hx⟩|⟨a',len',cap',m,D,Pl,hcs,_,hl,hm,hmm,hx,hi⟩
 ·exact zBf
 ·simp at hcs;subst hcs;have uA:len'<=m:=by rw[hmm];split<;>omega
  have xA:∀i,i<len'->∃x:By×Int,w.cell? (a'.add (i*2+0))=some (.string (bs x.1))/\w.cell? (a'.add (i*2+1))=some (Iv x.2):=by
   intro i hil;obtain⟨ys,n,_,_,vA,hg⟩:=hi i zo;obtain⟨v0,y0,c0,_,t0⟩:=hg 0 _ rfl;obtain⟨v1,y1,c1,_,t1⟩:=hg 1 _ rfl;obtain⟨s0,e0,_,w0⟩:=DataW.trod_string underlying9 t0;obtain⟨n1,e1,_,w1⟩:=DataW.trod_int underlying3 t1;simp at e0 e1;obtain⟨l0,rfl⟩:=Zv s0;subst e0 e1;exact⟨(l0,n1),c0,c1⟩
  obtain⟨l,yA,zA,_⟩:=Jbg (([],0):By×Int) xA;subst yA;refine⟨some a',cap',l,rfl,?_⟩;unfold Qbx;refine YL (W:=w) (a:=a') (cap:=cap') (R:=λ(a:By×Int) c=>c=[.string (bs a.1),Iv a.2]) (λx=>[.string (bs x.1),Iv x.2]) 2 zo (λ_=>rfl) (λ_=>rfl) hl λi x hx j u hu=>?_
  obtain⟨c0,c1⟩:=zA i x hx
  match j,hu with
  |0,hu=>exact c0.trans hu
  |1,hu=>exact c1.trans hu
def Qga:prog.cellsOf 9=1:=zk
def JgE{enc:TypeId×Value->H}{x:DataW H×List MemPlace}
  (hf:DataW.trod enc prog w base spare held fuel 43 [v]=some x):
  ∃(la:Option Addr) (lc:Nat) (l:List By),v=.slice la l.length lc/\QaT w (.slice la l.length lc) l:=by
 rcases Go.ChangeShapes.open_strings underlying43 underlying9 Qga hf with⟨hcs,_⟩|⟨a,len,cap,zs,hcs,_,hl,hm,hz,_,hc,hwf⟩
 ·exact zBf
 ·simp at hcs;subst hcs;have hzl:len<=zs.length:=by rw[hz];split<;>omega
  have xA:((zs.take len).map λs=>s.data.toList).length=len:=zr;refine⟨some a,cap,(zs.take len).map λs=>s.data.toList,by rw[xA],?_⟩;unfold QaT;refine YL (W:=w) (a:=a) (cap:=cap) (R:=λ(a:By) c=>c=[Sv a]) (λx=>[Sv x]) 1 zo (λ_=>rfl) (λ_=>rfl) (by rw[xA];exact hl) λi x hx j u hu=>?_
  have hi:i<len:=by
   have:=(List.getElem?_eq_some_iff.1 hx).1;rw[xA]at this;exact this
  match j,hu with
  |0,hu=>
   rw[Nat.mul_one,Nat.add_zero,hc i zo];have yA:zs[i]?=some zs[i]:=getElem?_eq_getElem zo;rw[List.getElem?_map,List.getElem?_take_of_lt hi,yA]at hx;rw[List.getD_eq_getElem?_getD,yA];obtain rfl:zs[i].data.toList=x:=by simpa using hx
   exact hu
def Jbh{enc:TypeId×Value->H}{r:Go.Reach}{d:DataW H}
  (hv:Value.okWide prog w r b0 45 v) (h:DataW.Trod enc prog w base spare held 45 v d p):
  ∃(F:Qaj) (la wa:Option Addr) (lc wc:Nat),v=.agg (QaI F (.slice la F.labels.length lc) (.slice wa F.words.length wc))/\Qbx w (.slice la F.labels.length lc) F.labels/\QaT w (.slice wa F.words.length wc) F.words:=by
 obtain⟨cs,rfl,xA,hg⟩:=JfA underlying45 zk zk hv h;obtain⟨v0,y0,k0,c0,t0⟩:=hg 0 _ rfl;obtain⟨v1,y1,k1,c1,t1⟩:=hg 1 _ rfl;obtain⟨v2,y2,k2,c2,t2⟩:=hg 2 _ rfl;obtain⟨v3,y3,k3,c3,t3⟩:=hg 3 _ rfl;obtain⟨v4,y4,k4,c4,t4⟩:=hg 4 _ rfl;obtain⟨v5,y5,k5,c5,t5⟩:=hg 5 _ rfl;obtain⟨v6,y6,k6,c6,t6⟩:=hg 6 _ rfl;obtain⟨v7,y7,k7,c7,t7⟩:=hg 7 _ rfl;obtain⟨v8,y8,k8,c8,t8⟩:=hg 8 _ rfl;obtain⟨v9,y9,k9,c9,t9⟩:=hg 9 _ rfl;obtain⟨dA,eA,gA,uA,bA⟩:=hg 10 _ rfl;obtain⟨iA,jA,hA,vA,aA⟩:=hg 11 _ rfl;clear hg hv h;obtain⟨la,lc,ll,rfl,yA⟩:=Jjf t0;obtain⟨wa,wc,wl,rfl,cA⟩:=JgE aA;obtain⟨n1,e1,_,_⟩:=DataW.trod_int underlying3 t1;obtain⟨n2,e2,_,_⟩:=DataW.trod_int underlying3 t2;obtain⟨n3,e3,_,_⟩:=DataW.trod_int underlying3 t3;obtain⟨n4,e4,_,_⟩:=DataW.trod_int underlying3 t4;obtain⟨n5,e5,_,_⟩:=DataW.trod_int underlying3 t5;obtain⟨n6,e6,_,_⟩:=DataW.trod_int underlying3 t6;obtain⟨n7,e7,_,_⟩:=DataW.trod_int underlying3 t7;obtain⟨n8,e8,_,_⟩:=DataW.trod_int underlying3 t8;obtain⟨b9,e9,_⟩:=DataW.trod_bool underlying4 t9;obtain⟨b10,zA,_⟩:=DataW.trod_bool underlying4 bA;simp only[List.cons.injEq,and_true]at e1 e2 e3 e4 e5 e6 e7 e8 e9 zA;subst e1 e2 e3 e4 e5 e6 e7 e8 e9 zA
 match cs,xA with
 |[u0,u1,u2,u3,u4,u5,u6,u7,u8,u9,u10,u11],_=>
  simp only[List.getElem?_cons_zero,List.getElem?_cons_succ,Option.some.injEq]at c0 c1 c2 c3 c4 c5 c6 c7 c8 c9 uA vA;subst c0 c1 c2 c3 c4 c5 c6 c7 c8 c9 uA vA;exact⟨⟨ll,n1,n2,n3,n4,n5,n6,n7,n8,b9,b10,wl⟩,la,wa,lc,wc,rfl,yA,cA⟩
def Qdt{α:Type}(g:α->List Value)(m:Nat)(hm:0<m):∀(l:List α),(∀a∈l,(g a).length=m)->∀(i:Nat)(u:Value),(l.flatMap g)[i]?=some u->∃a,l[i / m]?=some a/\(g a)[i % m]?=some u
 |[],_,i,u,h=>by simp at h
 |a::l,hg,i,u,h=>by
  have ha:=hg a zq;rw[List.flatMap_cons]at h
  by_cases hi:i<m
  ·rw[List.getElem?_append_left (by rw[ha];exact hi)]at h;exact⟨a,by rw[Nat.div_eq_of_lt hi];rfl,by rw[Nat.mod_eq_of_lt hi];exact h⟩
  ·rw[List.getElem?_append_right (by rw[ha];omega),ha]at h;obtain⟨b,h1,h2⟩:=Qdt g m hm l (λb hb=>hg b (by simp[hb])) (i-m) u h;exact Qhk
def Jav{α:Type}{R:α->List Value->Prop}:∀(l:List (α×List Value)),(∀p∈l,R p.1 p.2)->QbM R (l.map (·.1)) (l.flatMap (·.2))
 |[],_=>rfl
 |p::l,h=>⟨p.2,_,h p zq,by simp,Jav l λq hq=>h q (by simp[hq])⟩
section
variable {H:Type}{enc:TypeId×Value->H}{P:Program}{w:World}{base:Nat}{spare:Nat->Bool}{held:Bool}
def YM{x:DataW H×List MemPlace}(z:α)(R:α->List Value->Prop)(hm:0<m)(ht:P.underlying t=some (.slice e))(hC:P.cellsOf e=m)
  (hel:∀n,n<fuel->∀cs x,cs.length=m->DataW.trod enc P w base spare held n e cs=some x->∃a,R a cs) (h:DataW.trod enc P w base spare held fuel t [v]=some x):∃l:List α,Qan w (In w) R l v/\l.length<=9223372036854775807/\∀y∈l,∃cs,R y cs:=by
 rcases DataW.trod_slice ht h with⟨hcs,_⟩|⟨a,len,cap,elems,rest,n,hf,hcs,_,_,hle,hcm,hlen,xG,_,_⟩
 ·simp at hcs;subst hcs;exact⟨[],⟨none,0,[],rfl,Nat.le_refl _,rfl,.inl rfl⟩,by simp,λy hy=>by cases hy⟩
 ·simp at hcs;subst hcs hf
  have bA:∀i,i<len->∃p:α×List Value,p.2.length=m/\R p.1 p.2/\∀j,j<m->w.cell? (a.add (i*m+j))=p.2[j]?:=by
   intro i hi;have h1:=xG i hi;rw[hC,List.getElem?_eq_getElem zo]at h1;obtain⟨zA,hc,cA⟩:=Option.bind_eq_some_iff.1 h1;obtain⟨_,hcl,hat⟩:=World.cells?_some hc;obtain⟨y,hy⟩:=hel n (Nat.lt_succ_self _) zA _ hcl cA;exact⟨(y,zA),hcl,hy,λj hj=>by rw[<-Go.Deep.add_add];exact hat j hj⟩
  obtain⟨l,yA,vA,xA⟩:=Jbg (z,([]:List Value)) bA;rw[YK]at hcm
  refine⟨l.map (·.1),⟨some a,cap,l.flatMap (·.2),by simp[yA],by simpa[yA] using hle,Jav l λp hp=>?_,?_⟩,by rw[List.length_map];omega,λy hy=>by
   obtain⟨p,hp,rfl⟩:=List.mem_map.1 hy;obtain⟨i,_,_,h2,_⟩:=xA p hp
   exact⟨_,h2⟩⟩
  ·obtain⟨i,_,_,h2,_⟩:=xA p hp;exact h2
  ·cases l with
   |nil=>exact .inl rfl
   |cons p0 l0=>
    refine .inr ?_;obtain⟨q1,_,q3⟩:=vA 0 p0 rfl;have h0:=q3 0 hm;obtain⟨u0,dA⟩:∃u,p0.2[0]?=some u:=⟨_,List.getElem?_eq_getElem zo⟩
    rw[dA]at h0;have aA:w.cell? a=some u0:=by simpa[Addr.add] using h0
    have uA:=Jds aA;refine⟨a.block,a.off,by rw[<-uA],Jjd aA,λj u hj=>?_⟩;obtain⟨p,hp,hu⟩:=Qdt (λp:α×List Value=>p.2) m hm _ (λp hp=>by obtain⟨_,_,h1,_⟩:=xA p hp;exact h1) _ _ hj;obtain⟨h1,_,h3⟩:=vA _ p hp;have h4:=h3 (j % m) (Nat.mod_lt _ hm);rw[Jje uA,show j / m*m+j % m=j by rw[Nat.mul_comm];exact Nat.div_add_mod j m]at h4;exact h4.trans hu
end
def Jjg{W:World}{P:Nat->Prop}:∀{l:List Exp}{xs:List Value},QbM (λe c=>XAt W P e c.toArray/\NmN e) l xs->QcR W P l xs/\NmL l
 |[],xs,h=>⟨by unfold QcR;exact h,by unfold NmL;trivial⟩
 |e::l,xs,⟨c,r,h1,h2,h3⟩=>by
  obtain⟨g1,g2⟩:=Jjg h3;exact⟨by unfold QcR;exact⟨c.toArray,r,h1.1,h2,g1⟩,by unfold NmL;exact⟨h1.2,g2⟩⟩
section
variable {H:Type}{enc:TypeId×Value->H}{w:World}{base:Nat}{spare:Nat->Bool}{held:Bool}
def Ky{o:Option (DataW H×List MemPlace)}(h:DataW.trod enc prog w base spare held n t ((l.drop i).take 1)=o)(ho:o.isSome=true)(hv:l[i]?=some v):∃y,DataW.trod enc prog w base spare held n t [v]=some y:=by
 obtain⟨y,hy⟩:=Option.isSome_iff_exists.1 ho;have hi:=(List.getElem?_eq_some_iff.1 hv).1
 have e:(l.drop i).take 1=[v]:=by
  rw[List.drop_eq_getElem_cons hi];have:=(List.getElem?_eq_some_iff.1 hv).2;rw[this];rfl
 exact⟨y,by rw[<-e,h,hy]⟩
def JfC:∀(yA:Nat)(cs:List Value)(x:DataW H×List MemPlace),DataW.trod enc prog w base spare held yA 37 cs=some x->∃E:Exp,XAt w (In w) E cs.toArray/\NmN E:=by
 intro yA
 induction yA using Nat.strongRecOn with
 |_ yA ih=>
  intro cs x h;obtain⟨xs,n,hf,_,hl,vA,hg⟩:=DataW.trod_struct underlying37 h;have uA:prog.cellsOf 37=4:=zk;rw[uA]at hl
  match cs,hl with
  |[v0,v1,v2,v3],_=>
  have g0:=hg 0 _ rfl;have g1:=hg 1 _ rfl;have g2:=hg 2 _ rfl;have g3:=hg 3 _ rfl;have xA:∀i,i<4->(xs[i]?).isSome=true:=λi hi=>by rw[List.getElem?_eq_getElem (by rw[vA];exact hi)];rfl
  obtain⟨y0,t0⟩:=Ky g0 (xA 0 zp) rfl;obtain⟨y1,t1⟩:=Ky g1 (xA 1 zp) rfl;obtain⟨y2,t2⟩:=Ky g2 (xA 2 zp) rfl;obtain⟨y3,t3⟩:=Ky g3 (xA 3 zp) rfl;obtain⟨k,e0,_,_⟩:=DataW.trod_int underlying3 t0;obtain⟨nn,e1,_,_⟩:=DataW.trod_int underlying3 t1;obtain⟨s0,e2,_,zA⟩:=DataW.trod_string underlying9 t2;simp at e0 e1 e2;obtain⟨s,rfl⟩:=Zv s0;subst e0 e1 e2;obtain⟨l,⟨ad,cc,ys,rfl,h2,h3,h4⟩,_,_⟩:=YM (m:=4) (.mk 0 0 [] []:Exp) (λe c=>XAt w (In w) e c.toArray/\NmN e) zp underlying35 uA (λn' hn' cs' x' _ ht'=>ih n' zo cs' x' ht') t3;obtain⟨g1,g2⟩:=Jjg h3;rw[YK,JJ]at zA;refine⟨.mk k nn s l,?_,?_⟩
  ·unfold XAt;exact⟨ad,cc,ys,rfl,h2,g1,h4⟩
  ·unfold NmN;exact⟨zA,g2⟩
def Jaw{o:Option (DataW H×List MemPlace)}{v0 v1 v2 v3:Value}(h:DataW.trod enc prog w base spare held n t ((l.drop i).take 4)=o)(ho:o.isSome=true)(hv:(l.drop i).take 4=[v0,v1,v2,v3]):∃y,DataW.trod enc prog w base spare held n t [v0,v1,v2,v3]=some y:=by
 obtain⟨y,hy⟩:=Option.isSome_iff_exists.1 ho;exact⟨y,by rw[<-hv,h,hy]⟩
def Jjh{x:DataW H×List MemPlace}(h:DataW.trod enc prog w base spare held fuel 29 [v]=some x):∃l:List Int,QbR w (In w) l v/\l.length<=9223372036854775807:=by
 obtain⟨l,⟨ad,cc,ys,h1,h2,h3,h4⟩,xA,_⟩:=YM (m:=1) (0:Int) (λn c=>c=[Iv n]) zp underlying29 zk (λn' _ cs' x' hc ht'=>by
  match cs',hc with
  |[u],_=>
   obtain⟨k,e,_,_⟩:=DataW.trod_int underlying3 ht'
   exact⟨k,e⟩) h
 refine⟨l,⟨ad,cc,h1,h2,h4.imp id ?_⟩,xA⟩;rintro⟨b,o,h5,h6,h7⟩;refine⟨b,o,h5,h6,λi n hi=>h7 i _ ?_⟩
 have hg:∀(l:List Int)(ys:List Value)(i:Nat)(n:Int),QbM (λn c=>c=[Value.int .i64 n]) l ys->l[i]?=some n->ys[i]?=some (Iv n):=by
  intro l
  induction l with
  |nil=>intro ys i n _ hi;simp at hi
  |cons a l ih=>
   rintro ys i n ⟨c,r,rfl,rfl,hr⟩ hi
   cases i with
   |zero=>simpa using hi
   |succ i=>simpa using ih r i n hr (by simpa using hi)
 exact hg l ys i n h3 hi
def Jnj{x:DataW H×List MemPlace}(hl:cs.length=7)(h:DataW.trod enc prog w base spare held fuel 41 cs=some x):∃f:FnM,FnX w (In w) f cs/\f.name.length<=9223372036854775807/\f.params.length<=9223372036854775807/\NmN f.body:=by
 obtain⟨xs,n,_,_,_,zA,hg⟩:=DataW.trod_struct underlying41 h
 match cs,hl with
 |[v0,v1,v2,v3,v4,v5,v6],_=>
 have g0:=hg 0 _ rfl;have g1:=hg 1 _ rfl;have g2:=hg 2 _ rfl;have g3:=hg 3 _ rfl;have xA:∀i,i<4->(xs[i]?).isSome=true:=λi hi=>by rw[List.getElem?_eq_getElem (by rw[zA];exact hi)];rfl
 obtain⟨y0,t0⟩:=Ky g0 (xA 0 zp) rfl;obtain⟨y1,t1⟩:=Ky g1 (xA 1 zp) rfl;obtain⟨y2,t2⟩:=Ky g2 (xA 2 zp) rfl;obtain⟨y3,t3⟩:=Jaw g3 (xA 3 zp) rfl;obtain⟨s0,e0,_,yA⟩:=DataW.trod_string underlying9 t0;obtain⟨rt,e2,_,_⟩:=DataW.trod_int underlying3 t2;simp at e0 e2;obtain⟨s,rfl⟩:=Zv s0;subst e0 e2;obtain⟨ps,vA,uA⟩:=Jjh t1;obtain⟨E,hE,hn⟩:=JfC n _ _ t3;rw[YK,JJ]at yA;exact⟨⟨s,ps,rt,E⟩,⟨v1,_,vA,hE,rfl⟩,yA,uA,hn⟩
def Jnk{x:DataW H×List MemPlace}(hl:cs.length=6)(h:DataW.trod enc prog w base spare held fuel 39 cs=some x):∃c:ClM,ClX w (In w) c cs/\NmN c.cond/\c.reason.length<=9223372036854775807:=by
 obtain⟨xs,n,_,_,_,zA,hg⟩:=DataW.trod_struct underlying39 h
 match cs,hl with
 |[v0,v1,v2,v3,v4,v5],_=>
 have g0:=hg 0 _ rfl;have g1:=hg 1 _ rfl;have g2:=hg 2 _ rfl;have xA:∀i,i<3->(xs[i]?).isSome=true:=λi hi=>by rw[List.getElem?_eq_getElem (by rw[zA];exact hi)];rfl
 obtain⟨y0,t0⟩:=Jaw g0 (xA 0 zp) rfl;obtain⟨y1,t1⟩:=Ky g1 (xA 1 zp) rfl;obtain⟨y2,t2⟩:=Ky g2 (xA 2 zp) rfl;obtain⟨ac,e1,_,_⟩:=DataW.trod_int underlying3 t1;obtain⟨s0,e2,_,yA⟩:=DataW.trod_string underlying9 t2;simp at e1 e2;obtain⟨s,rfl⟩:=Zv s0;subst e1 e2;obtain⟨E,hE,hn⟩:=JfC n _ _ t0;rw[YK,JJ]at yA;exact⟨⟨E,ac,s⟩,⟨_,hE,rfl⟩,hn,yA⟩
structure RNm(r:Qah):Prop where
 nf:r.funcs.length<=9223372036854775807
 nc:r.clauses.length<=9223372036854775807
 fn:∀f∈r.funcs,f.name.length<=9223372036854775807/\f.params.length<=9223372036854775807/\NmN f.body
 cl:∀c∈r.clauses,NmN c.cond/\c.reason.length<=9223372036854775807
def Jax{r:Go.Reach}{d:DataW H}(hv:Value.okWide prog w r b0 25 v)(h:DataW.Trod enc prog w base spare held 25 v d p):∃(q:Qah) (c:Array Value),v=.agg c/\QaV w (In w) q c/\RNm q:=by
 obtain⟨cs,rfl,xA,hg⟩:=JfA underlying25 zk zk hv h;obtain⟨v0,y0,k0,c0,t0⟩:=hg 0 _ rfl;obtain⟨v1,y1,k1,c1,t1⟩:=hg 1 _ rfl;obtain⟨v2,y2,k2,c2,t2⟩:=hg 2 _ rfl;obtain⟨ac,e2,_,_⟩:=DataW.trod_int underlying3 t2;simp at e2;subst e2;obtain⟨fs,aA,hfl,yA⟩:=YM (m:=7) (⟨[],[],0,.mk 0 0 [] []⟩:FnM) (λf c=>FnX w (In w) f c/\f.name.length<=9223372036854775807/\f.params.length<=9223372036854775807/\NmN f.body) zp underlying22 zk (λn' _ cs' x' hc ht'=>Jnj hc ht') t0;obtain⟨ks,vA,zA,uA⟩:=YM (m:=6) (⟨.mk 0 0 [] [],0,[]⟩:ClM) (λf c=>ClX w (In w) f c/\NmN f.cond/\f.reason.length<=9223372036854775807) zp underlying23 zk (λn' _ cs' x' hc ht'=>Jnk hc ht') t1
 match cs,xA with
 |[u0,u1,u2],_=>
 simp at c0 c1 c2;subst c0 c1 c2;exact⟨⟨fs,ks,ac⟩,_,rfl,⟨_,_,rfl,aA.keep (λ_ _=>rfl) (λ_ h=>h) λ_ _ h=>h.1,vA.keep (λ_ _=>rfl) (λ_ h=>h) λ_ _ h=>h.1⟩,hfl,zA,λf hf=>by obtain⟨_,h⟩:=yA f hf;exact h.2,λc hc=>by obtain⟨_,h⟩:=uA c hc;exact h.2⟩
end
def Jls:∀{l:List FnM}{f:FnM},f∈l->szE 0 f.body+f.params.length<=sF l
 |x::l,f,h=>by
  rw[show sF (x::l)=(szE 0 x.body+x.params.length)+sF l from rfl]
  rcases List.mem_cons.1 h with rfl|h
  ·omega
  ·have:=Jls h;omega
def Jlt:∀{l:List ClM}{c:ClM},c∈l->szE 0 c.cond<=sC l
 |x::l,c,h=>by
  rw[show sC (x::l)=szE 0 x.cond+sC l from rfl]
  rcases List.mem_cons.1 h with rfl|h
  ·omega
  ·have:=Jlt h;omega
def V0(h:QfZ r=true)(hn:RNm r):RSz r/\(Qac r).ops.length<=40000000/\r.funcs.length<=6/\r.clauses.length<=6:=by
 unfold QfZ at h;simp only[Bool.and_eq_true,decide_eq_true_eq]at h;obtain⟨h1,h2,h3⟩:=h
 have hF:∀f∈r.funcs,f.params.length<=300/\siz (utN f.body)<=300:=λf hf=>by
  have g2:=Jls hf;have g3:=Jed f.body 0 zo;exact⟨by omega,by omega⟩
 have hC:∀c∈r.clauses,siz (utN c.cond)<=300:=λc hc=>by
  have g2:=Jlt hc;have g3:=Jed c.cond 0 zo;omega
 refine⟨⟨by omega,by omega,λf hf=>?_,λc hc=>?_⟩,?_,h1,h2⟩
 ·obtain⟨g1,g2⟩:=hF f hf;exact⟨(hn.fn f hf).1,by omega,(hn.fn f hf).2.2,by omega⟩
 ·have g:=hC c hc;exact⟨(hn.cl c hc).1,by omega,(hn.cl c hc).2⟩
 ·have:=Jeh h1 h2 (λf hf=>(hF f hf).2) hC;omega
def Jnl(X Y:QeD)(W:World):(binOp .eql 48 (.agg (Qex X)) (.agg (Qex Y))).run prog W=.ok (.bool (decide (X=Y))) W:=by
 have hu:prog.underlying 48=some (.struct (prog.fieldsOf 48)):=zk;have hp:prog.stoodInHeld 48=false:=zk;rw[run_eql_struct,run_equalIn_agg _ _ _ _ _ hu hp];unfold Program.fieldsOf;rw[underlying48];obtain⟨a,b,x,y⟩:=X;obtain⟨a',b',x',y'⟩:=Y;have u3:=underlying3;have u9:=underlying9;have xA:=underlying46;simp[Op.eqFields,Qex,go_sem];simp only[Jj]
 by_cases h1:a=a'
 ·by_cases h2:b=b'
  ·by_cases h3:x=x'
   ·by_cases h4:y=y'
    ·simp[h1,h2,h3,h4]
    ·simp[h1,h2,h3,h4]
   ·simp[h1,h2,h3];intro h;exact absurd (Int.ofNat_inj.1 h) h3
  ·simp[h1,h2]
 ·simp[h1]
def JbT(X Y:QeD)(W:World):(binOp .eql 48 (.agg (yd X.action X.reason X.used X.fault)) (.agg (yd Y.action Y.reason Y.used Y.fault))).run prog W=.ok (.bool (decide (X=Y))) W:=Jnl X Y W
structure Qfm(v:World)(k:Nat)(c:Qaf)(d:Array Value):Prop where
 box:BxB 31 v k d
 cv:CV v v.heap.size c d
def Qfm.of{u:World}(h:CV u u.heap.size c d):Qfm (u.alloc (.cells d 31)) u.heap.size c d:=
 ⟨BxB.of (zQ u _),(h.up (zO.alloc zP _)).mono zq⟩
def Ve(hz:RSz r)(h:(Qac r).ops.length<=40000000):QbI (Qai r):=by
 unfold Qai;split
 ·exact VJ hz h
 ·unfold QbI QcK;simp
section
variable {H:Type}{enc:TypeId×Value->H}{P:Program}{w:World}{base:Nat}{spare:Nat->Bool}{held:Bool}
def Qbs(P:Program)(t:TypeId)(d:DataW H):Prop:=∀n∈d.weights P t,n<=reachBytes
def V4{e:TypeId}:∀{l:List (DataW H)}{d:DataW H},d∈l->∀n∈d.weights P e,n∈DataW.weightsAll P e l
 |x::l,d,h,n,hn=>by
  rw[DataW.weightsAll,List.mem_append]
  rcases List.mem_cons.1 h with rfl|h
  ·exact .inl hn
  ·exact .inr (V4 h n hn)
def Qbs.slice{a b:List (DataW H)}(h:Qbs P t (.slice a b))(hu:P.underlying t=some (.slice e)):(a.length+b.length)*P.bytesOf e<=reachBytes/\∀d∈a,Qbs P e d:=by
 unfold Qbs at h
 have e1:DataW.weights P t (.slice a b)=(a.length+b.length)*P.bytesOf e::(DataW.weightsAll P e a++DataW.weightsAll P e b):=by
  rw[DataW.weights,hu]
 rw[e1]at h;refine⟨h _ zq,λd hd n hn=>h n ?_⟩;rw[List.mem_cons,List.mem_append];exact .inr (.inl (V4 hd n hn))
def Qbs.agg{l:List (DataW H)}(h:Qbs P t (.agg l))(hu:P.underlying t=some (.struct fs)){f:Field}{d:DataW H}(hf:fs[i]?=some f)(hd:l[i]?=some d):Qbs P f.type d:=by
 unfold Qbs at h
 have e1:DataW.weights P t (.agg l)=DataW.weightsEach P (fs.toList.map (·.type)) l:=by
  rw[DataW.weights,hu]
 rw[e1]at h;refine λn hn=>h n (DataW.weights_mem_each (t:=f.type) (d:=d) (j:=i) ?_ hd n hn)
 rw[getElem?_map,Array.getElem?_toList,hf];rfl
def Jay{x:DataW H×List MemPlace}{ad:Option Addr}{c:Nat}(hu:P.underlying t=some (.slice e))(hb:1<=P.bytesOf e)(h:DataW.trod enc P w base spare held fuel t [.slice ad n c]=some x)(hw:Qbs P t x.1):n<=reachBytes:=by
 rcases DataW.trod_slice hu h with⟨hcs,_⟩|⟨a,len,cap,elems,rest,m,hf,hcs,hx,_,hle,hcm,hlen,_⟩
 ·simp at hcs;omega
 ·simp at hcs;obtain⟨_,rfl,_⟩:=hcs;rw[hx]at hw;obtain⟨h1,_⟩:=hw.slice hu;rw[List.length_map,hlen]at h1;have:n*1<=(n+(rest.map (·.1)).length)*P.bytesOf e:=Nat.mul_le_mul zo hb;omega
end
section
variable {H:Type}{enc:TypeId×Value->H}{w:World}{base:Nat}{spare:Nat->Bool}{held:Bool}
def JkZ(hv:l[i]?=some v):(l.drop i).take 1=[v]:=by
 have hi:=(List.getElem?_eq_some_iff.1 hv).1;rw[List.drop_eq_getElem_cons hi,(List.getElem?_eq_some_iff.1 hv).2];rfl
def Yf{d:DataW H}{q:Qah}{c:Array Value}(h:DataW.Trod enc prog w base spare held 25 (.agg c) d p)(hx:QaV w (In w) q c)(hw:Qbs prog 25 d):∀f∈q.funcs,f.params.length<=200000000000000:=by
 obtain⟨kA,hf⟩:=h;obtain⟨xs,n,rfl,dA,_,cA,hg⟩:=DataW.trod_struct underlying25 hf;obtain⟨rfl,_⟩:=Prod.mk.inj dA;obtain⟨fv,cv,rfl,f1,_⟩:=hx;obtain⟨ad,cc,rfl,g1⟩:=Qdy.of FnX.len f1;obtain⟨x0,bA⟩:∃x0,xs[0]?=some x0:=⟨_,List.getElem?_eq_getElem (by rw[cA];decide)⟩
 have t0:DataW.trod enc prog w base spare held n 22 [.slice ad q.funcs.length cc]=some x0:=(hg 0 _ rfl).trans bA;have uA:Qbs prog 22 x0.1:=hw.agg underlying25 (i:=0) rfl (by rw[getElem?_map,bA];rfl);intro f zA;obtain⟨i,hi⟩:=List.getElem?_of_mem zA;have hil:=(List.getElem?_eq_some_iff.1 hi).1
 rcases DataW.trod_slice underlying22 t0 with⟨hcs,_⟩|⟨a,len,cap,elems,rest,m,hfu,hcs,oF,_,hle,hcm,hlen,hel,_⟩
 ·simp only[List.cons.injEq,Value.slice.injEq]at hcs;omega
 ·simp only[List.cons.injEq,Value.slice.injEq,and_true]at hcs;obtain⟨rfl,rfl,rfl⟩:=hcs;obtain⟨b,o,ha,hk⟩:=g1 (List.ne_nil_of_mem zA);obtain rfl:=Option.some.inj ha;obtain⟨c1,hc1,xA⟩:=hk i f hi;obtain⟨pa,pc,xa,xc,rfl,_,_⟩:=hc1.form;obtain⟨el,yA⟩:∃el,elems[i]?=some el:=⟨_,List.getElem?_eq_getElem zo⟩
  have h1:=(hel i hil).trans yA;obtain⟨jA,hc,iA⟩:=Option.bind_eq_some_iff.1 h1;have I4:prog.cellsOf 41=7:=zk;rw[I4]at hc;obtain⟨_,hcl,hat⟩:=World.cells?_some hc;have h2:=hat (i:=1) zp;have h3:=xA w zO 1 _ rfl
  have h4:jA[1]?=some (.slice pa f.params.length pc):=by
   rw[<-h3,<-h2,Go.Deep.add_add,Jje rfl,Nat.add_assoc]
  rw[oF]at uA;have aA:=(uA.slice underlying22).2 el.1 (List.mem_map.2 ⟨el,List.mem_of_getElem? yA,rfl⟩);obtain⟨ys,k,_,mA,_,gA,eA⟩:=DataW.trod_struct underlying41 iA;obtain⟨y1,vA⟩:∃y,ys[1]?=some y:=⟨_,List.getElem?_eq_getElem (by rw[gA];decide)⟩
  rw[mA]at aA;have hA:Qbs prog 29 y1.1:=aA.agg underlying41 (i:=1) rfl (by rw[getElem?_map,vA];rfl)
  have t1:DataW.trod enc prog w base spare held k 29 [.slice pa f.params.length pc]=some y1:=by
   rw[<-JkZ h4];exact(eA 1 _ rfl).trans vA
  have:=Jay underlying29 (by decide +kernel) t1 hA;have h9:reachBytes<=200000000000000:=zp;omega
def Jdu{d:DataW H}{F:Qaj}{la wa:Option Addr}{lc wc:Nat}(h:DataW.Trod enc prog w base spare held 45 (.agg (QaI F (.slice la F.labels.length lc) (.slice wa F.words.length wc))) d p)(hw:Qbs prog 45 d):FSz F:=by
 obtain⟨aA,hf⟩:=h;obtain⟨xs,n,rfl,uA,_,xA,hg⟩:=DataW.trod_struct underlying45 hf;obtain⟨rfl,_⟩:=Prod.mk.inj uA;obtain⟨x0,yA⟩:∃x0,xs[0]?=some x0:=⟨_,List.getElem?_eq_getElem (by rw[xA];decide)⟩
 obtain⟨x1,zA⟩:∃x0,xs[11]?=some x0:=⟨_,List.getElem?_eq_getElem (by rw[xA];decide)⟩
 have t0:DataW.trod enc prog w base spare held n 42 [.slice la F.labels.length lc]=some x0:=(hg 0 _ rfl).trans yA;have t1:DataW.trod enc prog w base spare held n 43 [.slice wa F.words.length wc]=some x1:=(hg 11 _ rfl).trans zA;have vA:Qbs prog 42 x0.1:=hw.agg underlying45 (i:=0) rfl (by rw[getElem?_map,yA];rfl);have bA:Qbs prog 43 x1.1:=hw.agg underlying45 (i:=11) rfl (by rw[getElem?_map,zA];rfl);have r0:=Jay underlying42 (by decide +kernel) t0 vA;have r1:=Jay underlying43 (by decide +kernel) t1 bA;have h9:reachBytes<=200000000000000:=zp;exact⟨by omega,by omega⟩
end
open Go.ChangeMaps (open_string shut_string)
mutual
def Jdv:∀(a:Nd),siz (utN (Qab a))=siz a
 |.mk k n s o l=>by rw[Qab,utN,JD,JD,Jjj l]
def Jjj:∀(l:List Nd),Qbd (utL (QaJ l))=Qbd l
 |[]=>by rw[QaJ,utL]
 |a::l=>by rw[QaJ,utL,Ju,Ju,Jdv a,Jjj l]
end
mutual
def Jnn:∀(a:Nd),WfN a->NmN (Qab a)
 |.mk k n s o l,h=>by
  rw[Vs]at h;rw[Qab];unfold NmN;exact⟨by omega,Jlu l h.2.2.2.2⟩
def Jlu:∀(l:List Nd),WfL l->NmL (QaJ l)
 |[],h=>by rw[QaJ];unfold NmL;trivial
 |a::l,h=>by
  rw[JS]at h;rw[QaJ];unfold NmL;exact⟨Jnn a h.1,Jlu l h.2⟩
end
def Jjk:RSz QaR:=⟨by decide,by decide,by simp[QaR],by simp[QaR]⟩
def Jla{l:By}{T:List Tok}{at':Int}(h:Qbi l=(T,0,at')):Tk T:=by
 unfold Qbi at h;split at h
 ·simp at h
 ·cases hs:sc 0 l with
  |err k=>rw[hs]at h;simp at h
  |ok ts=>
   rw[hs]at h;simp at h;obtain⟨rfl,rfl⟩:=h;exact JnX _ _ _ hs
def Jjl{s:Src}(hb:Qil s)(hp:∀x∈s.funcs,QgS x)(hc:∀x∈s.clauses,Qiq x)(he:QaZ (Qae s).2=none):RSz (QaE (Qae s).1):=by
 obtain⟨h1,h2,h3,h4⟩:=JaQ (m:=8194) (λf hf=>⟨(hb.f f hf).1,(hb.f f hf).2.1,(hb.f f hf).2.2.1,(hb.f f hf).2.2.2⟩) (λc hc=>hb.c c hc) he;have n1:=hb.nf;have n2:=hb.nc;unfold QaE;refine⟨by simp only[List.length_map];omega,by simp only[List.length_map];omega,λf hf=>?_,λc hc'=>?_⟩
 ·simp only[mem_map]at hf;obtain⟨g,hg,rfl⟩:=hf;obtain⟨q1,q2,q3,_⟩:=h1 g hg
  have xA:g.name.1.length<=1000000:=by
   unfold Qae at hg;simp only[mem_map]at hg;obtain⟨_,⟨x,hx,rfl⟩,rfl⟩:=hg;exact(hb.f x hx).1.2
  exact⟨by dsimp only;omega,by dsimp only;omega,Jnn _ q1,by dsimp only;rw[Jdv];omega⟩
 ·simp only[mem_map]at hc';obtain⟨g,hg,rfl⟩:=hc';obtain⟨q1,q2,_⟩:=h2 g hg
  have hr:QcD g.reason=true:=by
   unfold Qae at hg;simp only[mem_map]at hg;obtain⟨_,⟨x,hx,rfl⟩,rfl⟩:=hg;exact(hc x hx).reason
  unfold QcD at hr;simp only[Bool.and_eq_true,decide_eq_true_eq]at hr;have yA:=hr.2;exact⟨Jnn _ q1,by dsimp only;rw[Jdv];omega,by dsimp only;omega⟩
def Zb{l:By}(h:(Qcl l).2.1=0):Qat (Qcl l).1=true/\RSz (Qcl l).1:=by
 unfold Qcl at h |-;split
 ·rename_i h0;rw[if_pos h0]at h;have xA:Qbi l=((Qbi l).1,0,(Qbi l).2.2):=by rw[<-h0]
  obtain⟨_,hT,uA,vA,zA⟩:=Z7 xA;have yA:=Jla xA;generalize (Qbi l).1=T at*;generalize 12*(T.length+1)=f at*
  cases hp:Qcc f T with
  |none=>exact⟨JcZ,Jjk⟩
  |some x=>
   rw[hp]at h;simp only[Option.getD_some]at h |-;obtain⟨r,er,a⟩:=x;obtain rfl:er=0:=h;refine⟨Jda yA hp,?_⟩
   cases hs:QdU f T with
   |out=>unfold Qcc at hp;rw[hs]at hp;cases hp
   |bad o=>unfold Qcc at hp;rw[hs]at hp;simp at hp
   |ok s r'=>
    rw[YU hs]at hp;unfold QdI at hp
    cases hl:QbN s with
    |some o=>rw[hl]at hp;simp at hp
    |none=>
     rw[hl]at hp;simp only at hp
     cases hr:QaZ (Qae s).2 with
     |some o=>rw[hr]at hp;simp at hp
     |none=>
      rw[hr]at hp;simp only at hp
      cases hc:QaZ (QbH (Qae s).1) with
      |some o=>rw[hc]at hp;simp at hp
      |none=>
       rw[hc]at hp;simp only[Option.some.injEq,Prod.mk.injEq]at hp;rw[<-hp.1];obtain⟨g1,g2,_⟩:=Jix yA hs;exact Jjl (Jmj hs hT uA) g1 g2 hr
 ·rename_i h0;rw[if_neg h0]at h;exact absurd h h0
def Jex{α β:Type}{f:β->Nat}{g:α->Nat}{k:α->β}:∀(l:List α),(∀x∈l,f (k x)<=4*g x)->((l.map k).map f).sum<=4*(l.map g).sum
 |[],h=>by simp
 |a::l,h=>by
  have h1:=h a zq;have h2:=Jex (f:=f) (g:=g) (k:=k) l λx hx=>h x (by simp[hx])
  simp only[map_cons,sum_cons];omega
def Jlv:∀(l:List ClM)(p:Nat),(cC p l).length<=(l.map λx=>4*siz (utN x.cond)+3).sum
 |[],p=>by rw[cC];simp
 |x::l,p=>by
  rw[cC];have h1:=V2 x.cond (p+1);have h3:=Jlv l (p+(cE (p+1) x.cond).length+3);simp only[List.length_cons,List.length_append,map_cons,sum_cons];omega
def Jlw:∀(l:List FnM)(p:Nat),(cF p l).length<=(l.map λx=>4*siz (utN x.body)+3).sum
 |[],p=>by rw[cF];simp
 |x::l,p=>by
  rw[cF];have h1:=V2 x.body p;have h3:=Jlw l (p+(cE p x.body).length+1);simp only[List.length_cons,List.length_append,map_cons,sum_cons];omega
def Jey{s:Src}(hb:Qil s)(ht:Qcn s.funcs+Qcp s.clauses<=8194):(Qac (QaE (Qae s).1)).ops.length<=40000000:=by
 rw[(JL _).2.2.2];have a1:=Jlv (QaE (Qae s).1).clauses 0;have a2:=Jlw (QaE (Qae s).1).funcs ((cC 0 (QaE (Qae s).1).clauses).length+1)
 have b1:((QaE (Qae s).1).clauses.map λx=>4*siz (utN x.cond)+3).sum<=4*Qcp s.clauses:=by
  have e:(QaE (Qae s).1).clauses=s.clauses.map λc=>(⟨Qab (resC (s.funcs.map (·.name.1)) c).1.cond,(resC (s.funcs.map (·.name.1)) c).1.action,(resC (s.funcs.map (·.name.1)) c).1.reason⟩:ClM):=by
   unfold QaE Qae;simp only[List.map_map];rfl
  rw[e];refine Jex s.clauses λc hc=>?_
  have h1:=(V8 (s.funcs.map (·.name.1)) [] c.cond (hb.c c hc).1).2
  show 4*siz (utN (Qab (QcQ (s.funcs.map (·.name.1)) [] c.cond).1))+3<=4*(siz c.cond+1)
  rw[Jdv,h1];omega
 have b2:((QaE (Qae s).1).funcs.map λx=>4*siz (utN x.body)+3).sum<=4*Qcn s.funcs:=by
  have e:(QaE (Qae s).1).funcs=s.funcs.map λf=>(⟨(resF (s.funcs.map (·.name.1)) f).1.name.1,(resF (s.funcs.map (·.name.1)) f).1.types,(resF (s.funcs.map (·.name.1)) f).1.result,Qab (resF (s.funcs.map (·.name.1)) f).1.body⟩:FnM):=by
   unfold QaE Qae;simp only[List.map_map];rfl
  rw[e];refine Jex s.funcs λf hf=>?_
  have h1:=(V8 (s.funcs.map (·.name.1)) (f.params.map (·.1)) f.body (hb.f f hf).1.1).2
  show 4*siz (utN (Qab (QcQ (s.funcs.map (·.name.1)) (f.params.map (·.1)) f.body).1))+3<=4*(siz f.body+f.params.length+f.types.length+1)
  rw[Jdv,h1];omega
 omega
def Jez:(Qac QaR).ops.length<=40000000:=zp
def JgF{l:By}(h:(Qcl l).2.1=0):(Qac (Qcl l).1).ops.length<=40000000:=by
 unfold Qcl at h |-;split
 ·rename_i h0;rw[if_pos h0]at h;have xA:Qbi l=((Qbi l).1,0,(Qbi l).2.2):=by rw[<-h0]
  obtain⟨_,hT,zA,uA,yA⟩:=Z7 xA;generalize (Qbi l).1=T at*;generalize 12*(T.length+1)=f at*
  cases hp:Qcc f T with
  |none=>exact Jez
  |some x=>
   rw[hp]at h;simp only[Option.getD_some]at h |-;obtain⟨r,er,a⟩:=x;obtain rfl:er=0:=h
   cases hs:QdU f T with
   |out=>unfold Qcc at hp;rw[hs]at hp;cases hp
   |bad o=>unfold Qcc at hp;rw[hs]at hp;simp at hp
   |ok s r'=>
    rw[YU hs]at hp;unfold QdI at hp
    cases hl:QbN s with
    |some o=>rw[hl]at hp;simp at hp
    |none=>
     rw[hl]at hp;simp only at hp
     cases hr:QaZ (Qae s).2 with
     |some o=>rw[hr]at hp;simp at hp
     |none=>
      rw[hr]at hp;simp only at hp
      cases hc:QaZ (QbH (Qae s).1) with
      |some o=>rw[hc]at hp;simp at hp
      |none=>
       rw[hc]at hp;simp only[Option.some.injEq,Prod.mk.injEq]at hp;rw[<-hp.1];have:=(JeN hs).1;exact Jey (Jmj hs hT zA) zo
 ·rename_i h0;rw[if_neg h0]at h;exact absurd h h0
end Go.Proofs.YtfafpklefknomaaGreatDoor



