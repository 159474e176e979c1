import Derived.Test.YtfafpklefknomaaGreatDoorR37
import Derived.Test.YtfafpklefknomaaGreatDoorR32
import Derived.Test.YtfafpklefknomaaGreatDoorR36
open List(getD_eq_getElem?_getD)
open Nat(le_trans)
namespace Go.Proofs.YtfafpklefknomaaGreatDoor
open Go Go.ChangeShapes Go.WideShapes Go.ChangeAt Go.RowKit Go.Lib
open _root_.Go.Proofs.Tryz
set_option linter.all false
set_option maxRecDepth 100000
set_option maxHeartbeats 32000000
def Qcq(l:List Bool):List Value:=l.map Value.bool
structure QdO(W:World)(gd gk:Nat)(m:Nat)(ds:List Int)(ks:List Bool):Prop where
 hd:W.heap[gd]?=some (.cells (Qad ds).toArray 3 (0,0))
 hk:W.heap[gk]?=some (.cells (Qcq ks).toArray 4 (0,0))
 ld:ds.length=m
 lk:ks.length=m
def Jet{l:List Int}{i:Nat}{x:Int}(h:l[i]?=some x):(Qad l).toArray[i]?=some (Iv x):=by
 unfold Qad;rw[List.getElem?_toArray,List.getElem?_map,h];rfl
def Jdh{l:List Bool}{i:Nat}{x:Bool}(h:l[i]?=some x):(Qcq l).toArray[i]?=some (.bool x):=by
 unfold Qcq;rw[List.getElem?_toArray,List.getElem?_map,h];rfl
section
variable {W:World}{gd gk m:Nat}{ds:List Int}{ks:List Bool}(h:QdO W gd gk m ds ks)
include W gd gk m ds ks h
theorem QdO.d{i:Nat}(hi:i<m):W.cell? ⟨gd,i,none⟩=some (Iv (ds.getD i 0))/\W.frozen? ⟨gd,i,none⟩=false:=by
 refine⟨?_,Jc h.hd i⟩;rw[Ja h.hd];exact Jet (by rw[List.getD_eq_getElem?_getD,List.getElem?_eq_getElem (by rw[h.ld];exact hi)];rfl)
theorem QdO.k{i:Nat}(hi:i<m):W.cell? ⟨gk,i,none⟩=some (.bool (ks.getD i false))/\W.frozen? ⟨gk,i,none⟩=false:=by
 refine⟨?_,Jc h.hk i⟩;rw[Ja h.hk];exact Jdh (by rw[List.getD_eq_getElem?_getD,List.getElem?_eq_getElem (by rw[h.lk];exact hi)];rfl)
theorem QdO.setd(hne:gd≠gk)(i:Nat)(x:Int):QdO (W.setCell ⟨gd,i,none⟩ (Iv x)) gd gk m (ds.set i x) ks:=by
 refine⟨?_,?_,by rw[List.length_set];exact h.ld,h.lk⟩
 ·have:=Jm h.hd i (Iv x);rw[this]
  congr 2
  unfold Qad;rw[List.setIfInBounds_toArray,List.map_set]
 ·rw[heap_setCell_other _ _ _ _ (by simpa using hne.symm)];exact h.hk
theorem QdO.setk(hne:gd≠gk)(i:Nat)(x:Bool):QdO (W.setCell ⟨gk,i,none⟩ (.bool x)) gd gk m ds (ks.set i x):=by
 refine⟨?_,?_,h.ld,by rw[List.length_set];exact h.lk⟩
 ·rw[heap_setCell_other _ _ _ _ (by simpa using hne)];exact h.hd
 ·have:=Jm h.hk i (.bool x);rw[this]
  congr 2
  unfold Qcq;rw[List.setIfInBounds_toArray,List.map_set]
end
def QdO.up{W W':World}{gd gk m:Nat}{ds:List Int}{ks:List Bool}(h:QdO W gd gk m ds ks)(hb:Below W.heap.size W W'):QdO W' gd gk m ds ks:=
 ⟨(hb.block _ (Jb h.hd)).trans h.hd,(hb.block _ (Jb h.hk)).trans h.hk,h.ld,h.lk⟩
structure Qfa(W:World)(bt bk bf bd fr te gd gk:Nat):Prop where
 t:W.heap[bt]?=some (.cells #[Iv (te:Nat)] 3 (0,0))
 k:W.heap[bk]?=some (.cells #[.slice (some ⟨gk,0,none⟩) (te-fr) (te-fr)] 168 (0,0))
 f:W.heap[bf]?=some (.cells #[Iv (fr:Nat)] 3 (0,0))
 d:W.heap[bd]?=some (.cells #[.slice (some ⟨gd,0,none⟩) (te-fr) (te-fr)] 29 (0,0))
def Qfa.keep{W W':World}{bt bk bf bd fr te gd gk:Nat}(h:Qfa W bt bk bf bd fr te gd gk)(hk:∀b,b=bt\/b=bk\/b=bf\/b=bd->W'.heap[b]?=W.heap[b]?):Qfa W' bt bk bf bd fr te gd gk:=
 ⟨(hk _ (.inl rfl)).trans h.t,(hk _ (.inr (.inl rfl))).trans h.k,(hk _ (.inr (.inr (.inl rfl)))).trans h.f,(hk _ (.inr (.inr (.inr rfl)))).trans h.d⟩
def JV{W:World}{b t:Nat}{a0:Value}{fr:Nat × Nat}(h:W.heap[b]?=some (.cells #[a0] t fr)):W.cell? ⟨b,0,none⟩=some a0:=Ja h 0
theorem Qkk{P:Prop}(h:P:=by
  go_enter func101,ntmps101;go_upto_region 3 with fail;replace HC:Hi (Qfa W.drew bt bk bf bd fr te gd gk):=Zh ⟨HC.o.t,HC.o.k,HC.o.f,HC.o.d⟩;replace HDp:Hi (QdO W.drew gd gk m ds ks):=Zh ⟨HDp.o.hd,HDp.o.hk,HDp.o.ld,HDp.o.lk⟩;have t1:=JV HC.o.k;have t2:=JV HC.o.f;have t3:=JV HC.o.d;rw[HM.o]at t1 t3;refine LB (λW'=>W'.cell? ⟨bf,0,none⟩=some (Iv (fr:Nat))/\W'.cell? ⟨bk,0,none⟩=some (.slice (some ⟨gk,0,none⟩) m m)/\W'.cell? ⟨bd,0,none⟩=some (.slice (some ⟨gd,0,none⟩) m m)) 12 ⟨t2,t1,t3⟩ λhH=>?_
  clear t0 t1 t2 t3 d0 d1 k0 k1;have HCH:Hi (Chg [gd,gk] W W.drew):=(Chg.of_below (Below.refl W.heap.size W).drew [gd,gk])
  generalize W.drew=w2 at *;refine LK 0 rfl ?_;refine LK 1 rfl ?_;refine LK 2 rfl ?_;refine LK 3 rfl ?_;refine LK 4 rfl ?_;refine LK 5 rfl ?_;refine LK 6 rfl ?_;refine LK 7 rfl ?_;refine LK 8 rfl ?_;refine LK 9 rfl ?_;refine LO 10 rfl λKK hK=>?_
  obtain⟨d0,d1⟩:=HDp.o.d HI.o;go_simp;clear d0 d1;have HD3:=Zh (HDp.o.setd HNE.o i x);have HC3:Hi (Qfa (w2.setCell ⟨gd,i,none⟩ (Iv x)) bt bk bf bd fr te gd gk):=HC.o.keep λb hb=>heap_setCell_other _ _ _ _ (by have:=(HNE2.o b hb).1;simpa using this)
  have HCH3:Hi (Chg [gd,gk] W (w2.setCell ⟨gd,i,none⟩ (Iv x))):=HCH.o.setCell (.inl (by simp)) _;have t1:=JV HC3.o.k;have t2:=JV HC3.o.f;have t3:=JV HC3.o.d;rw[HM.o]at t1 t3;refine hK.out _ _ ⟨t2,t1,t3⟩ λhH=>?_
  clear hK KK t1 t2 t3 HC HDp HCH;generalize w2.setCell _ _=w3 at *;refine LK 11 rfl ?_;refine LZ 12 rfl λKK hK=>?_
  obtain⟨k0,k1⟩:=HD3.o.k HI.o;go_simp;refine hK.out _ _ ?_;clear hK KK hH k0 k1
  have HFIN:Hi (R (.returned (.bool true)) (w3.setCell ⟨gk,i,none⟩ (.bool true))):=by
   rw[HR.o];exact⟨rfl,HC3.o.keep λb hb=>heap_setCell_other _ _ _ _ (by have:=(HNE2.o b hb).2;simpa using this),HD3.o.setk HNE.o i true,HCH3.o.setCell (.inl (by simp)) _⟩
  clear HC3 HD3 HCH3 HR;go_wp2
  exact HFIN.o):P:=h
def VK(W:World)(bt bk bf bd fr te gd gk:Nat)(ds:List Int)(ks:List Bool)(at':Nat)(x:Int)(h:Qfa W bt bk bf bd fr te gd gk)(hD:QdO W gd gk (te-fr) ds ks)(hne:gd≠gk)(h1:fr<=at')(h2:at'<te)(hte:te<=40000000)
  (hne2:∀b,b=bt\/b=bk\/b=bf\/b=bd->b≠gd/\b≠gk) (hok:ks.getD (at'-fr) false=true->ds.getD (at'-fr) 0=x) :
  Calls prog 101 #[Iv (at':Nat),Iv x,Pt bt,Pt bk,Pt bf,Pt bd] W
   (λe W'=>e=.returned (.bool true)/\Qfa W' bt bk bf bd fr te gd gk/\QdO W' gd gk (te-fr) (ds.set (at'-fr) x) (ks.set (at'-fr) true)/\Chg [gd,gk] W W'):=by
 obtain⟨R,hR⟩:∃R:Ending->World->Prop,(λe W'=>e=.returned (.bool true)/\Qfa W' bt bk bf bd fr te gd gk/\QdO W' gd gk (te-fr) (ds.set (at'-fr) x) (ks.set (at'-fr) true)/\Chg [gd,gk] W W')=R:=⟨_,rfl⟩
 rw[hR];have HR:Hi (R=λe W'=>e=.returned (.bool true)/\Qfa W' bt bk bf bd fr te gd gk/\QdO W' gd gk (te-fr) (ds.set (at'-fr) x) (ks.set (at'-fr) true)/\Chg [gd,gk] W W'):=hR.symm;obtain⟨m,hm⟩:∃m,te-fr=m:=⟨_,rfl⟩
 obtain⟨i,hi⟩:∃i,at'-fr=i:=⟨_,rfl⟩
 have xA:i<m:=zo;rw[hm]at hD;rw[hi]at hok;rw[hi,hm]at HR;have t0:=JV h.t;have t1:=JV h.k;have t2:=JV h.f;have t3:=JV h.d;rw[hm]at t1 t3;obtain⟨d0,d1⟩:=hD.d xA;obtain⟨k0,k1⟩:=hD.k xA;have q0:decide ((at':Int)>=(te:Int))=false:=zH zo;have yA:decide (at'>=te)=false:=zH zo;have zA:decide (te<=at')=false:=zH zo;have wk:IntKind.i64.wrap ((at':Int)-(fr:Int))=(i:Int):=by rw[IntWalk.i64_in _ zo];omega
 have j0:(i:Int)<(m:Int):=zo;have HC:=Zh h;have HDp:=Zh hD;have HNE:=Zh hne;have HNE2:=Zh hne2;have HM:=Zh hm;clear hR h hD hne hne2 hm hi h1 h2 hte;have HI:=Zh xA;clear xA
 cases hkk:ks.getD i false with
 |false=>
  rw[hkk]at k0;clear hkk hok;exact Qkk
 |true=>
  rw[hkk]at k0 hok;have hx:=hok rfl;rw[hx]at d0;clear hkk hok hx;exact Qkk
theorem zz{P:Prop}(h:P:=by exact ⟨a+1,_,_,by have:=HGI.o;omega,by have:=HGI.o;omega,rfl,HS8.o.cp,HS8.o.dp,HS8.o.dk,HRN.o,HS8.o.chg⟩):P:=h
def Qio(o:OpM)(a t:Nat):Prop:=(o.code≠16/\o.code≠20/\o.code≠22/\t=a+1)\/(isJ o/\o.n=(t:Int))
def DpK(dep:Nat->Int)(fr m:Nat)(ds:List Int)(ks:List Bool):Prop:=ds.length=m/\ks.length=m/\∀i,i<m->ks.getD i false=true->ds.getD i 0=dep (fr+i)/\0<=dep (fr+i)/\dep (fr+i)<=(i:Int)
def DpR(c:Qaf)(fr te a:Nat)(ks:List Bool):Prop:=∀t,fr<=t->t<te->(t=fr\/∃a' o,fr<=a'/\a'<a/\c.ops[a']?=some o/\Qio o a' t)->ks.getD (t-fr) false=true
def Ks{α:Type}{l:List α}{i:Nat}{x z:α}(h:i<l.length):(l.set i x).getD i z=x:=by
 rw[getD_eq_getElem?_getD,List.getElem?_set_self h];rfl
def VL{α:Type}{l:List α}{i j:Nat}{x z:α}(h:i≠j):(l.set i x).getD j z=l.getD j z:=by
 rw[getD_eq_getElem?_getD,getD_eq_getElem?_getD,List.getElem?_set_ne h]
def DpK.mark{dep:Nat->Int}{fr m:Nat}{ds:List Int}{ks:List Bool}(h:DpK dep fr m ds ks){i:Nat}(hi:i<m){x:Int}(hx:x=dep (fr+i))(h0:0<=x)(h1:x<=(i:Int)):DpK dep fr m (ds.set i x) (ks.set i true):=by
 obtain⟨g1,g2,g3⟩:=h;refine⟨by rw[List.length_set];exact g1,by rw[List.length_set];exact g2,λj hj hk=>?_⟩
 by_cases e:i=j
 ·subst e;rw[Ks zo,<- hx];exact⟨rfl,h0,h1⟩
 ·rw[VL e]at hk |-;exact g3 j hj hk
def VM{ks:List Bool}{i j:Nat}(h:ks.getD j false=true):(ks.set i true).getD j false=true:=by
 by_cases e:i=j
 ·subst e
  by_cases hl:i<ks.length
  ·exact Ks hl
  ·rw[getD_eq_getElem?_getD,List.getElem?_eq_none zo]at h
   cases h
 ·rw[VL e];exact h
def DpR.next{c:Qaf}{fr te a:Nat}{ks ks':List Bool}(h:DpR c fr te a ks)(hm:∀j,ks.getD j false=true->ks'.getD j false=true){o:OpM}(ho:c.ops[a]?=some o)(he:∀t,fr<=t->t<te->Qio o a t->ks'.getD (t-fr) false=true):DpR c fr te (a+1) ks':=by
 intro t t1 t2 ht
 rcases ht with rfl|⟨a',o',g1,g2,g3,g4⟩
 ·exact hm _ (h _ t1 t2 (.inl rfl))
 ·by_cases e:a'=a
  ·subst e;rw[ho]at g3;obtain rfl:=Option.some.inj g3;exact he t t1 t2 g4
  ·exact hm _ (h t t1 t2 (.inr ⟨a',o',g1,by omega,g3,g4⟩))
def DpR.first(c:Qaf){fr te:Nat}{ks:List Bool}(h0:ks.getD 0 false=true):DpR c fr te fr ks:=by
 intro t t1 t2 ht
 rcases ht with rfl|⟨a',o',g1,g2,_⟩
 ·rw[Nat.sub_self];exact h0
 ·omega
def Qfx:(prog.info? 4).map (λi=>(i.zero,i.size,i.bytes))=some (some (.bool false),1,1):=zk
def QfS(n:Nat)(hn:n<=1000000000)(W:World):(Instr.makeSlice 168 (Iv (n:Int)) (Iv (n:Int))).run prog W=.ok (.slice (some ⟨W.heap.size,0,none⟩) n n) (W.alloc (.cells (madeCells #[.bool false] n) 4)):=
 run_make_row' 168 4 (.bool false) 1 underlying168 Qfx rfl .i64 .i64 n zo zo W
def Qjd(n:Nat):madeCells #[Iv 0] n=(Qad (List.replicate n 0)).toArray:=by
 apply Array.ext';rw[toList_madeCells_one];unfold Qad;simp
def Qje(n:Nat):madeCells #[.bool false] n=(Qcq (List.replicate n false)).toArray:=by
 apply Array.ext';rw[toList_madeCells_one];unfold Qcq;simp
def Jop(w:World)(o0 o1 o2 o3 o4 o5 o6:Obj):Below w.heap.size w (((((((w.alloc o0).alloc o1).alloc o2).alloc o3).alloc o4).alloc o5).alloc o6)/\
  (((((((w.alloc o0).alloc o1).alloc o2).alloc o3).alloc o4).alloc o5).alloc o6).heap[w.heap.size]?=some o0/\(((((((w.alloc o0).alloc o1).alloc o2).alloc o3).alloc o4).alloc o5).alloc o6).heap[w.heap.size+1]?=some o1/\
  (((((((w.alloc o0).alloc o1).alloc o2).alloc o3).alloc o4).alloc o5).alloc o6).heap[w.heap.size+1+1]?=some o2/\(((((((w.alloc o0).alloc o1).alloc o2).alloc o3).alloc o4).alloc o5).alloc o6).heap[w.heap.size+1+1+1]?=some o3/\
  (((((((w.alloc o0).alloc o1).alloc o2).alloc o3).alloc o4).alloc o5).alloc o6).heap[w.heap.size+1+1+1+1]?=some o4/\(((((((w.alloc o0).alloc o1).alloc o2).alloc o3).alloc o4).alloc o5).alloc o6).heap[w.heap.size+1+1+1+1+1]?=some o5/\
  (((((((w.alloc o0).alloc o1).alloc o2).alloc o3).alloc o4).alloc o5).alloc o6).heap[w.heap.size+1+1+1+1+1+1]?=some o6:=by
 have h0:=zQ w o0;have h1:=zQ (w.alloc o0) o1;have h2:=zQ ((w.alloc o0).alloc o1) o2;have h3:=zQ (((w.alloc o0).alloc o1).alloc o2) o3;have h4:=zQ ((((w.alloc o0).alloc o1).alloc o2).alloc o3) o4;have h5:=zQ (((((w.alloc o0).alloc o1).alloc o2).alloc o3).alloc o4) o5;have h6:=zQ ((((((w.alloc o0).alloc o1).alloc o2).alloc o3).alloc o4).alloc o5) o6;simp only[World.size_alloc]at h1 h2 h3 h4 h5 h6;refine⟨(((((((zO.alloc (Nat.le_refl _) _).alloc (by simp only[World.size_alloc];omega) _).alloc (by simp only[World.size_alloc];omega) _).alloc (by simp only[World.size_alloc];omega) _).alloc (by simp only[World.size_alloc];omega) _).alloc (by simp only[World.size_alloc];omega) _).alloc (by simp only[World.size_alloc];omega) _),?_,?_,?_,?_,?_,?_,h6⟩
 ·exact Jf (Jf (Jf (Jf (Jf (Jf h0)))))
 ·exact Jf (Jf (Jf (Jf (Jf h1))))
 ·exact Jf (Jf (Jf (Jf h2)))
 ·exact Jf (Jf (Jf h3))
 ·exact Jf (Jf h4)
 ·exact Jf h5
def Jdi{c:Qaf}(h:∀x∈c.params,0<=x)(o:OpM):0<=QaA c o:=by
 unfold QaA
 repeat' split
 all_goals try omega
 rw[getD_eq_getElem?_getD]
 cases hx:c.params[o.n.toNat]? with
 |none=>exact Int.le_refl _
 |some x=>exact h x (List.mem_of_getElem? hx)
def JiT(o:OpM):0<=Qbl o/\Qbl o<=1:=by
 unfold Qbl
 repeat' split
 all_goals omega
structure DpS(dep:Nat->Int)(fr te m cb bt bk bf bd gd gq:Nat)(C:Array Value)(w4:World)(ds:List Int)(ks:List Bool)(W:World):Prop where
 cp:Qfa W bt bk bf bd fr te gd gq
 dp:QdO W gd gq m ds ks
 dk:DpK dep fr m ds ks
 box:W.heap[cb]?=some (.cells C 31 (0,0))
 chg:Chg [gd,gq] w4 W
def DpS.up{dep:Nat->Int}{fr te m cb bt bk bf bd gd gq:Nat}{C:Array Value}{w4 W W':World}{ds:List Int}{ks:List Bool}(h:DpS dep fr te m cb bt bk bf bd gd gq C w4 ds ks W)(hb:Below W.heap.size W W'):DpS dep fr te m cb bt bk bf bd gd gq C w4 ds ks W':=
 ⟨h.cp.keep λb hb'=>hb.block _ (hb'.elim (λe=>e ▸ Jb h.cp.t) λhb'=>hb'.elim (λe=>e ▸ Jb h.cp.k) λhb'=>hb'.elim (λe=>e ▸ Jb h.cp.f) λe=>e ▸ Jb h.cp.d),h.dp.up hb,h.dk,(hb.block _ (Jb h.box)).trans h.box,h.chg.trans (Chg.of_below hb _)⟩
def DpS.turn{dep:Nat->Int}{fr te m cb bt bk bf bd gd gq:Nat}{C:Array Value}{w4 W W':World}{ds ds':List Int}{ks ks':List Bool}(h:DpS dep fr te m cb bt bk bf bd gd gq C w4 ds ks W)(hcb:cb≠gd/\cb≠gq)(h1:Qfa W' bt bk bf bd fr te gd gq)(h2:QdO W' gd gq m ds' ks')(h3:Chg [gd,gq] W W')(h4:DpK dep fr m ds' ks'):DpS dep fr te m cb bt bk bf bd gd gq C w4 ds' ks' W':=
 ⟨h1,h2,h4,h3.heap_some (by simp;exact hcb) h.box,h.chg.trans h3⟩
theorem Qkj{P:Prop}(h:P:=by
  have h16:o.code≠16:=by omega
  have h20:o.code≠20:=by omega
  have h22:o.code≠22:=by omega
  have ha2:a+1<te:=HNX.o h16 h20 h22;have ha1:fr<=a+1:=by have:=HGI.o;omega
  have hTn:dep (a+1)=D+(U-P):=by
   have h:=HMO.o.next h16 h20 h22;rw[HPU.o.1,HPU.o.2,HDD.o.1]at h;omega
  have hcn:=VK w7 bt bk bf bd fr te gd gq (ds.set (nn-fr) (D+(U-P))) (ks.set (nn-fr) true) (a+1) (D+(U-P)) HS7.o.cp (by rw[HM.o];exact HS7.o.dp) HDS.o.1 (ha1) (ha2) (by omega) HDS.o.2.1 (λhk=>by
   have h:=(HS7.o.dk.2.2 (a+1-fr) (by have:=HM.o;have:=HGI.o;have:=ha2;omega) hk).1;rw[h,<- hTn]
   congr 1
   have:=HGI.o
   omega)
  rw[HM.o]at hcn;have HTn:=Zh hTn;clear hTn;go_wp2_with fail;refine hcn.mono ?_;clear hcn y0 y1 y2;rintro e w8 ⟨rfl,hcp,hdp,hch⟩;have HS8:=Zh (HS7.o.turn HDS.o.2.2 hcp hdp hch (HS7.o.dk.mark (i:=a+1-fr) (by have:=HM.o;have:=HGI.o;have:=ha2;omega) (by rw[<- HTn.o];congr 1;have:=HGI.o;omega) HX0.o.1 (by have:=HX0.o.2;have:=HGI.o;have:=HIA.o.1;omega)));have HY8:=Zh (hch.heap_some (by have:=HOB.o;simp;exact this) HY7.o);clear hcp hdp hch;obtain⟨y0,y1,y2⟩:=Qay HY8.o
  have HRN:Hi (DpR c fr te (a+1) ((ks.set (nn-fr) true).set (a+1-fr) true)):=HDR.o.next (λ_ h=>VM (VM h)) HO.o λt t1 t2 he=>by
   rcases he with⟨_,_,_,rfl⟩|⟨_,h⟩
   ·exact Ks (by rw[List.length_set,HS5.o.dk.2.1];have:=HM.o;have:=HGI.o;omega)
   ·have e:t=nn:=by have:=HN3.o.2;omega
    subst e;exact VM (Ks (by rw[HS5.o.dk.2.1];have:=HM.o;have:=HGI.o;omega))
  go_wp2;go_roundg (te-(a+1))
  case measure=>have:=HGI.o;omega
  case rel=>exact zz):P:=h
theorem Qki{P:Prop}(h:P:=by
  have h16:o.code≠16:=by omega
  have h20:o.code≠20:=by omega
  have h22:o.code≠22:=by omega
  have ha2:a+1<te:=HNX.o h16 h20 h22;have ha1:fr<=a+1:=by have:=HGI.o;omega
  have hTn:dep (a+1)=D+(U-P):=by
   have h:=HMO.o.next h16 h20 h22;rw[HPU.o.1,HPU.o.2,HDD.o.1]at h;omega
  have hcn:=VK w6 bt bk bf bd fr te gd gq ds ks (a+1) (D+(U-P)) HS5.o.cp (by rw[HM.o];exact HS5.o.dp) HDS.o.1 (ha1) (ha2) (by omega) HDS.o.2.1 (λhk=>by
   have h:=(HS5.o.dk.2.2 (a+1-fr) (by have:=HM.o;have:=HGI.o;have:=ha2;omega) hk).1;rw[h,<- hTn]
   congr 1
   have:=HGI.o
   omega)
  rw[HM.o]at hcn;have HTn:=Zh hTn;clear hTn;go_wp2_with fail;refine hcn.mono ?_;clear hcn y0 y1 y2 tk tf k0;rintro e w8 ⟨rfl,hcp,hdp,hch⟩;have HS8:=Zh (HS5.o.turn HDS.o.2.2 hcp hdp hch (HS5.o.dk.mark (i:=a+1-fr) (by have:=HM.o;have:=HGI.o;have:=ha2;omega) (by rw[<- HTn.o];congr 1;have:=HGI.o;omega) HX0.o.1 (by have:=HX0.o.2;have:=HGI.o;have:=HIA.o.1;omega)));have HY8:=Zh (hch.heap_some (by have:=HOB.o;simp;exact this) HY5.o);clear hcp hdp hch;obtain⟨y0,y1,y2⟩:=Qay HY8.o
  have HRN:Hi (DpR c fr te (a+1) (ks.set (a+1-fr) true)):=HDR.o.next (λ_ h=>VM h) HO.o λt t1 t2 he=>by
   rcases he with⟨_,_,_,rfl⟩|⟨h,_⟩
   ·exact Ks (by rw[HS5.o.dk.2.1];have:=HM.o;have:=HGI.o;omega)
   ·unfold isJ at h;omega
  go_wp2;go_roundg (te-(a+1))
  case measure=>have:=HGI.o;omega
  case rel=>exact zz):P:=h
theorem Qjq{P:Prop}(h:P:=by
  go_wp2;go_roundg (te-(a+1))
  case measure=>have:=HGI.o;omega
  case rel=>exact⟨a+1,ds,ks,by have:=HGI.o;omega,by have:=HGI.o;omega,rfl,HS5.o.cp,HS5.o.dp,HS5.o.dk,HRN.o,HS5.o.chg⟩):P:=h
theorem Qgw{P:Prop}(h:P:=by
  have h:=HMO.o.jump hj;rw[HPU.o.1,HPU.o.2,HDD.o.1,hnn,Int.toNat_natCast]at h
  omega):P:=h
def Vp(c:Qaf)(L:Int)(main:Bool)(fr te:Nat)(hP:QeC c L main fr te)(hlen:c.ops.length<=40000000)(hpl:c.params.length<=1000000000)(hpar:∀x∈c.params,0<=x)(p:Nat)(w:World)(hp:p<=w.heap.size)(d:Array Value)(h:CV w p c d) :
  Calls prog 41 #[.agg d,Iv (fr:Nat),Iv (te:Nat)] w (Qbj w (.bool true)):=by
 obtain⟨a0,c0,a1,c1,a2,c2,a3,c3,rfl,g0,g1,g2,g3⟩:=h.g;have HCV:=Zh h;obtain⟨hft,jB,uA,dep,aA,hA⟩:=hP;obtain⟨n0,hn0⟩:∃n0,c.ops.length=n0:=⟨_,rfl⟩
 obtain⟨n1,hn1⟩:∃n1,c.starts.length=n1:=⟨_,rfl⟩
 obtain⟨n2,xA⟩:∃n2,c.params.length=n2:=⟨_,rfl⟩
 obtain⟨n3,vA⟩:∃n3,c.slots.length=n3:=⟨_,rfl⟩
 rw[hn0,hn1,xA,vA]at HCV |-;rw[hn0]at hlen jB;rw[xA]at hpl;obtain⟨m,hm⟩:∃m,te-fr=m:=⟨_,rfl⟩
 have xB:0<m:=zo;have iC:IntKind.i64.wrap ((te:Int)-(fr:Int))=(m:Int):=by rw[IntWalk.i64_in _ zo];omega
 have qB:=QdZ m zo;have tB:=QfS m zo;have sB:∀(fn:Fn) (first cap:Array Value) (w:World),(Instr.makeFunc fn first cap).run prog w=.ok (.func fn first cap) w:=λ_ _ _ _=>rfl
 have HG:=Zh g0;have kB:=Zh hA;have xC:=Zh uA;have iB:=Zh aA;have HPS:=Zh hp;have rA:=Zh hpar;have HM:=Zh hm;have nB:=Zh xA;clear h g0 g1 g2 g3 hp hA uA aA hpar hn0 hn1 xA vA hm;go_enter func41,ntmps41;go_upto_region 3 with fail;clear qB tB;have HBX:=Jop w (.cells #[.slice a0 n0 c0,.slice a1 n1 c1,.slice a2 n2 c2,.slice a3 n3 c3] 31) (.cells #[Iv (fr:Nat)] 3) (.cells #[Iv (te:Nat)] 3) (.cells (madeCells #[Iv 0] m) 3) (.cells #[.slice (some ⟨w.heap.size+1+1+1,0,none⟩) m m] 29) (.cells (madeCells #[.bool false] m) 4) (.cells #[.slice (some ⟨w.heap.size+1+1+1+1+1,0,none⟩) m m] 168);have HB7:=Zh HBX.1;have yB:=Zh HBX.2;clear HBX;rw[Qjd,Qje]at HB7 yB |-;generalize World.alloc _ (.cells #[.slice (some ⟨w.heap.size+1+1+1+1+1,0,none⟩) m m] 168)=w3 at *
 have HDS:Hi (w.heap.size+1+1+1≠w.heap.size+1+1+1+1+1/\(∀b,b=w.heap.size+1+1\/b=w.heap.size+1+1+1+1+1+1\/b=w.heap.size+1\/b=w.heap.size+1+1+1+1->b≠w.heap.size+1+1+1/\b≠w.heap.size+1+1+1+1+1)/\w.heap.size≠w.heap.size+1+1+1/\w.heap.size≠w.heap.size+1+1+1+1+1):=by
  refine⟨by omega,λb hb=>by omega,by omega,by omega⟩
 have HLO:Hi (∀b,b=w.heap.size+1+1+1\/b=w.heap.size+1+1+1+1+1->w.heap.size<=b):=λb hb=>by omega
 generalize w.heap.size+1+1+1+1+1+1=bk at *;generalize w.heap.size+1+1+1+1+1=gq at *;generalize w.heap.size+1+1+1+1=bd at *;generalize w.heap.size+1+1+1=gd at *;generalize w.heap.size+1+1=bt at *;generalize w.heap.size+1=bf at *;obtain⟨cb,hcb⟩:∃cb,w.heap.size=cb:=⟨_,rfl⟩
 have gA:=yB.o;rw[hcb]at gA HDS |-;obtain⟨r0,r1,r2,r3,r4,r5,r6⟩:=gA;have HCB:=Zh r0;have HC3:Hi (Qfa w3 bt bk bf bd fr te gd gq):=⟨r2,by rw[HM.o];exact r6,r1,by rw[HM.o];exact r4⟩
 have HD3:Hi (QdO w3 gd gq m (List.replicate m 0) (List.replicate m false)):=⟨r3,r5,by simp,by simp⟩
 have t1:=JV r6;obtain⟨k0,k1⟩:=HD3.o.k xB;have j0:(0:Int)<(m:Int):=zo;clear r0 r1 r2 r3 r4 r5 r6 hcb yB;go_upto_region 5 with fail;clear t1 k0 k1 sB;have bB:=Zh (HD3.o.setk HDS.o.1 0 true);have HC4:Hi (Qfa (w3.setCell ⟨gq,0,none⟩ (.bool true)) bt bk bf bd fr te gd gq):=HC3.o.keep λb hb=>heap_setCell_other _ _ _ _ (by have:=(HDS.o.2.1 b hb).2;simpa using this)
 have uB:Hi ((w3.setCell ⟨gq,0,none⟩ (.bool true)).heap[cb]?=_):=Ji HCB.o (by simpa using HDS.o.2.2.2) (.bool true);have qA:Hi (Below w.heap.size w (w3.setCell ⟨gq,0,none⟩ (.bool true))):=HB7.o.setCell (by simpa using HLO.o gq (.inr rfl)) _
 have hB:Hi (DpK dep fr m (List.replicate m 0) ((List.replicate m false).set 0 true)):=by
  refine⟨by simp,by simp,λi hi hk=>?_⟩
  by_cases e:i=0
  ·subst e;rw[Nat.add_zero,iB.o];exact⟨by simp[getD_eq_getElem?_getD,xB],Int.le_refl _,Int.le_refl _⟩
  ·rw[VL zo]at hk;simp[getD_eq_getElem?_getD,hi]at hk
 have aB:Hi (DpR c fr te fr ((List.replicate m false).set 0 true)):=DpR.first c (Ks (by simpa using xB))
 clear HD3 HC3 HCB HB7;generalize World.setCell w3 _ _=w4 at *;have t2:=JV HC4.o.f;go_wp2_with fail;clear t2;go_loopg [10] m λg v10 wr=>∃(a:Nat) (ds:List Int) (ks:List Bool),g+a=te/\fr<=a/\v10=Iv (a:Int)/\Hi (Qfa wr bt bk bf bd fr te gd gq/\QdO wr gd gq m ds ks/\DpK dep fr m ds ks/\DpR c fr te a ks/\Chg [gd,gq] w4 wr)
 case atStart=>exact⟨fr,_,_,by have:=HM.o;omega,Nat.le_refl _,rfl,HC4.o,bB.o,hB.o,aB.o,Chg.refl _ _⟩
 case round=>
 clear bB HC4 hB aB;obtain⟨wl,rfl⟩:=zJ wr;obtain⟨a,ds,ks,hg,eA,rfl,hws⟩:=hrel;have HCP:=Zh hws.o.1;have dA:=Zh hws.o.2.1;have tA:=Zh hws.o.2.2.1;have HDR:=Zh hws.o.2.2.2.1;have HCH:=Zh hws.o.2.2.2.2;clear hws;have tt:=JV HCP.o.t
 by_cases hi:a<te
 ·have dil:decide ((a:Int)<(te:Int))=true:=zG zo;have diN:decide (a<te)=true:=zG hi;obtain⟨i,sA⟩:∃i,a-fr=i:=⟨_,rfl⟩
  have cA:i<m:=by have:=HM.o;omega
  have hkn:ks.getD i false=true:=by
   rw[<- sA];refine HDR.o a eA hi ?_
   by_cases e:a=fr
   ·exact .inl e
   ·obtain⟨a',o',g1,g2,g3,g4⟩:=xC.o a zo hi;exact .inr ⟨a',o',g1,g2,g3,g4⟩
  obtain⟨o,ho,eB,dB⟩:=kB.o a eA hi;obtain⟨pA,nA,mA⟩:=tA.o.2.2 i cA hkn;have gB:fr+i=a:=zo;rw[gB]at pA nA mA;obtain⟨D,hD⟩:∃D,dep a=D:=⟨_,rfl⟩
  rw[hD]at pA nA mA
  have HBL:Hi (Below p w wl):=by
   have hb:=qA.o;have hc:=HCH.o
   exact Kr (hb.mono HPS.o) hc.os hc.tape hc.output hc.size (λk hk=>hc.block k (Nat.lt_of_lt_of_le hk (le_trans HPS.o hb.size)) (by
    have h1:=HLO.o gd (.inl rfl);have h2:=HLO.o gq (.inr rfl);have h3:=HPS.o;simp
    omega))
  obtain⟨b0,o0,rfl,kc⟩:=HG.o a o ho;obtain⟨p0,p1,p2⟩:=kc _ HBL.o;have bA:Hi (wl.heap[cb]?=_):=HCH.o.heap_some (by have:=HDS.o.2.2;simp;exact this) uB.o;obtain⟨x0,x1,x2,x3⟩:=Qao bA.o;have tk:=JV HCP.o.k;have tf:=JV HCP.o.f;have td:=JV HCP.o.d;rw[HM.o]at tk td;have d0:=(dA.o.d cA).1;rw[pA]at d0;have k0:=(dA.o.k cA).1;rw[hkn]at k0;have eC:IntKind.i64.wrap ((a:Int)-(fr:Int))=(i:Int):=by rw[IntWalk.i64_in _ zo];omega
  have j0:0<=(a:Int):=zo;have j1:(a:Int)<(n0:Int):=zo;have j2:(i:Int)<(m:Int):=zo;have j3:0<=(i:Int):=zo;have wk:IntKind.i64.wrap ((a:Int)+1)=((a+1:Nat):Int):=by rw[IntWalk.i64_in _ zo];omega
  have HMO:=Zh eB;have HNX:=Zh dB;have HO:=Zh ho;have HDD:=Zh (And.intro hD (And.intro nA mA));have HIA:=Zh (And.intro sA cA);have rB:=Zh hkn;have HGI:=Zh (And.intro hg (And.intro eA hi));clear eB dB ho hD pA nA mA sA cA hkn gB hg eA hi kc;go_upto_region 8 with fail;go_region_held (λW=>W.cell? ⟨cb,0,none⟩=some (.slice (some ⟨b0,o0,none⟩) n0 c0)/\W.cell? ⟨b0,o0+a*3,none⟩=some (Iv o.code)/\W.cell? ⟨b0,o0+a*3+1,none⟩=some (Iv o.n)/\W.cell? ⟨b0,o0+a*3+2,none⟩=some (.string (bs o.name))/\W.cell? ⟨bd,0,none⟩=some (.slice (some ⟨gd,0,none⟩) m m)/\W.cell? ⟨bf,0,none⟩=some (Iv (fr:Nat))/\W.cell? ⟨gd,i,none⟩=some (Iv D)) (go_keep) (fail);obtain⟨ob,cB⟩:∃ob,wl.heap.size=ob:=⟨_,rfl⟩
  have HY5:=Zh (zQ wl (.cells #[Iv o.code,Iv o.n,.string (bs o.name)] 34))
  have HOB:Hi (ob≠gd/\ob≠gq):=by
   have h1:=Jb dA.o.hd;have h2:=Jb dA.o.hk;unfold Hi;omega
  rw[cB]at HY5 |-;have vB:Below wl.heap.size wl (wl.alloc (.cells #[Iv o.code,Iv o.n,.string (bs o.name)] 34)).drew:=(zO.alloc (Nat.le_refl _) _).drew;have HS5:=Zh (DpS.up (dep:=dep) (w4:=w4) (C:=#[.slice (some ⟨b0,o0,none⟩) n0 c0,.slice a1 n1 c1,.slice a2 n2 c2,.slice a3 n3 c3]) ⟨HCP.o,dA.o,tA.o,bA.o,HCH.o⟩ vB);have HB5:=Zh (HBL.o.trans (vB.mono (le_trans HPS.o (le_trans qA.o.size HCH.o.size))));replace HY5:Hi ((wl.alloc (.cells #[Iv o.code,Iv o.n,.string (bs o.name)] 34)).drew.heap[ob]?=_):=HY5.o;clear cB vB p0 p1 p2 x0 x1 x2 x3 tk tf td tt d0 k0 HCP dA tA bA HCH HBL;generalize World.drew _=w5 at *;obtain⟨x0,x1,x2,x3⟩:=Qao HS5.o.box;obtain⟨y0,y1,y2⟩:=Qay HY5.o;have zB:=Jgg c o p w5 (le_trans HPS.o (le_trans qA.o.size HS5.o.chg.size)) _ (HCV.o.up HB5.o) HMO.o.code HMO.o.nc (by rw[nB.o];exact hpl);have iA:=HMO.o.pops;obtain⟨P,hP⟩:∃P,QaA c o=P:=⟨_,rfl⟩
  obtain⟨U,hU⟩:∃U,Qbl o=U:=⟨_,rfl⟩
  rw[hP,hU]at zB;rw[hP,HDD.o.1]at iA;have pB:0<=P:=by rw[<- hP];exact Jdi rA.o o
  have yC:0<=U/\U<=1:=by rw[<- hU];exact JiT o
  have HPU:=Zh (And.intro hP hU);have q0:decide (D<P)=false:=zH zo;clear hP hU;go_wp2_with fail;refine zB.mono ?_;clear zB x0 x1 x2 x3 y0 y1 y2;rintro e w6 ⟨rfl,hb6⟩;replace HS5:=Zh (HS5.o.up hb6);replace HY5:=Zh ((hb6.block _ (Jb HY5.o)).trans HY5.o);clear hb6 HB5;have tk:=JV HS5.o.cp.k;have tf:=JV HS5.o.cp.f;rw[HM.o]at tk;have k0:=(HS5.o.dp.k HIA.o.2).1;rw[rB.o]at k0;have mB:=HDD.o.2;have cA:=HIA.o.2;have hm9:m<=40000000:=by have:=HM.o;omega
  have uC:IntKind.i64.wrap (U-P)=U-P:=IntWalk.i64_in _ zo;have gC:IntKind.i64.wrap (D+(U-P))=D+(U-P):=IntWalk.i64_in _ zo;have HX0:Hi (0<=D+(U-P)/\D+(U-P)<=(i:Int)+1):=by unfold Hi;omega
  clear mB cA iA pB yC hm9;obtain⟨y0,y1,y2⟩:=Qay HY5.o
  by_cases c20:o.code=20
  ·as_aux_lemma=>
   rw[c20]at y0;have q1:(D==1)=true:=by rw[<- HDD.o.1,HMO.o.ret c20];rfl
   have HRN:Hi (DpR c fr te (a+1) ks):=HDR.o.next (λ_ h=>h) HO.o λt _ _ he=>by
    rcases he with⟨_,h,_⟩|⟨h,_⟩
    ·exact absurd c20 h
    ·unfold isJ at h;omega
   exact Qjq
  by_cases c22:o.code=22
  ·as_aux_lemma=>
   rw[c22]at y0;have q1:(D==0)=true:=by rw[<- HDD.o.1,HMO.o.cl (.inr c22)];rfl
   have HRN:Hi (DpR c fr te (a+1) ks):=HDR.o.next (λ_ h=>h) HO.o λt _ _ he=>by
    rcases he with⟨_,_,h,_⟩|⟨h,_⟩
    ·exact absurd c22 h
    ·unfold isJ at h;omega
   exact Qjq
  by_cases c16:o.code=16
  ·as_aux_lemma=>
   rw[c16]at y0;have hj:isJ o:=by unfold isJ;omega
   have kA:=HMO.o.nj hj;obtain⟨nn,hnn⟩:∃nn:Nat,o.n=(nn:Int):=⟨o.n.toNat,by omega⟩
   rw[hnn]at y1 kA;have hn1:fr<=nn:=by have:=HGI.o;omega
   have xA:nn<te:=by have:=HGI.o;omega
   have vA:a<nn:=zo;have HN3:=Zh (And.intro vA hnn)
   have zA:dep (nn)=D+(U-P):=by
    exact Qgw
   have yA:=VK w6 bt bk bf bd fr te gd gq ds ks (nn) (D+(U-P)) HS5.o.cp (by rw[HM.o];exact HS5.o.dp) HDS.o.1 (hn1) (xA) zo HDS.o.2.1 (λhk=>by
    have h:=(HS5.o.dk.2.2 (nn-fr) (by have:=HM.o;have:=HGI.o;have:=xA;omega) hk).1;rw[h,<- zA]
    congr 1
    have:=HGI.o
    omega)
   rw[HM.o]at yA;have jA:=Zh zA;clear zA;go_wp2_with fail;refine yA.mono ?_;clear yA y0 y1 y2 tk tf k0;rintro e w7 ⟨rfl,hcp,hdp,hch⟩;have HS7:=Zh (HS5.o.turn HDS.o.2.2 hcp hdp hch (HS5.o.dk.mark (i:=nn-fr) (by have:=HM.o;have:=HGI.o;have:=xA;omega) (by rw[<- jA.o];congr 1;have:=HGI.o;omega) HX0.o.1 (by have:=HX0.o.2;have:=HGI.o;have:=HIA.o.1;have:=HN3.o.1;omega)));have HY7:=Zh (hch.heap_some (by have:=HOB.o;simp;exact this) HY5.o);clear hcp hdp hch;obtain⟨y0,y1,y2⟩:=Qay HY7.o;rw[c16]at y0
   have HRN:Hi (DpR c fr te (a+1) (ks.set (nn-fr) true)):=HDR.o.next (λ_ h=>VM h) HO.o λt t1 t2 he=>by
    rcases he with⟨h,_⟩|⟨_,h⟩
    ·exact absurd c16 h
    ·have e:t=nn:=by have:=HN3.o.2;omega
     subst e;exact Ks (by rw[HS5.o.dk.2.1];have:=HM.o;have:=HGI.o;omega)
   go_wp2;go_roundg (te-(a+1))
   case measure=>have:=HGI.o;omega
   case rel=>exact⟨a+1,_,_,by have:=HGI.o;omega,by have:=HGI.o;omega,rfl,HS7.o.cp,HS7.o.dp,HS7.o.dk,HRN.o,HS7.o.chg⟩
  by_cases c17:o.code=17
  ·as_aux_lemma=>
   rw[c17]at y0;have hj:isJ o:=by unfold isJ;omega
   have kA:=HMO.o.nj hj;obtain⟨nn,hnn⟩:∃nn:Nat,o.n=(nn:Int):=⟨o.n.toNat,by omega⟩
   rw[hnn]at y1 kA;have hn1:fr<=nn:=by have:=HGI.o;omega
   have xA:nn<te:=by have:=HGI.o;omega
   have vA:a<nn:=zo;have HN3:=Zh (And.intro vA hnn)
   have zA:dep (nn)=D+(U-P):=by
    exact Qgw
   have yA:=VK w6 bt bk bf bd fr te gd gq ds ks (nn) (D+(U-P)) HS5.o.cp (by rw[HM.o];exact HS5.o.dp) HDS.o.1 (hn1) (xA) zo HDS.o.2.1 (λhk=>by
    have h:=(HS5.o.dk.2.2 (nn-fr) (by have:=HM.o;have:=HGI.o;have:=xA;omega) hk).1;rw[h,<- zA]
    congr 1
    have:=HGI.o
    omega)
   rw[HM.o]at yA;have jA:=Zh zA;clear zA;go_wp2_with fail;refine yA.mono ?_;clear yA y0 y1 y2 tk tf k0;rintro e w7 ⟨rfl,hcp,hdp,hch⟩;have HS7:=Zh (HS5.o.turn HDS.o.2.2 hcp hdp hch (HS5.o.dk.mark (i:=nn-fr) (by have:=HM.o;have:=HGI.o;have:=xA;omega) (by rw[<- jA.o];congr 1;have:=HGI.o;omega) HX0.o.1 (by have:=HX0.o.2;have:=HGI.o;have:=HIA.o.1;have:=HN3.o.1;omega)));have HY7:=Zh (hch.heap_some (by have:=HOB.o;simp;exact this) HY5.o);clear hcp hdp hch;obtain⟨y0,y1,y2⟩:=Qay HY7.o;rw[c17]at y0;exact Qkj
  by_cases c18:o.code=18
  ·as_aux_lemma=>
   rw[c18]at y0;have hj:isJ o:=by unfold isJ;omega
   have kA:=HMO.o.nj hj;obtain⟨nn,hnn⟩:∃nn:Nat,o.n=(nn:Int):=⟨o.n.toNat,by omega⟩
   rw[hnn]at y1 kA;have hn1:fr<=nn:=by have:=HGI.o;omega
   have xA:nn<te:=by have:=HGI.o;omega
   have vA:a<nn:=zo;have HN3:=Zh (And.intro vA hnn)
   have zA:dep (nn)=D+(U-P):=by
    exact Qgw
   have yA:=VK w6 bt bk bf bd fr te gd gq ds ks (nn) (D+(U-P)) HS5.o.cp (by rw[HM.o];exact HS5.o.dp) HDS.o.1 (hn1) (xA) zo HDS.o.2.1 (λhk=>by
    have h:=(HS5.o.dk.2.2 (nn-fr) (by have:=HM.o;have:=HGI.o;have:=xA;omega) hk).1;rw[h,<- zA]
    congr 1
    have:=HGI.o
    omega)
   rw[HM.o]at yA;have jA:=Zh zA;clear zA;go_wp2_with fail;refine yA.mono ?_;clear yA y0 y1 y2 tk tf k0;rintro e w7 ⟨rfl,hcp,hdp,hch⟩;have HS7:=Zh (HS5.o.turn HDS.o.2.2 hcp hdp hch (HS5.o.dk.mark (i:=nn-fr) (by have:=HM.o;have:=HGI.o;have:=xA;omega) (by rw[<- jA.o];congr 1;have:=HGI.o;omega) HX0.o.1 (by have:=HX0.o.2;have:=HGI.o;have:=HIA.o.1;have:=HN3.o.1;omega)));have HY7:=Zh (hch.heap_some (by have:=HOB.o;simp;exact this) HY5.o);clear hcp hdp hch;obtain⟨y0,y1,y2⟩:=Qay HY7.o;rw[c18]at y0;exact Qkj
  by_cases c21:o.code=21
  ·as_aux_lemma=>
   rw[c21]at y0;have q1:(D==0)=true:=by rw[<- HDD.o.1,HMO.o.cl (.inl c21)];rfl
   exact Qki
  ·as_aux_lemma=>
   have zC:(o.code==16)=false:=zM c16;have vC:(o.code==17)=false:=zM c17;have aC:(o.code==18)=false:=zM c18;have hC:(o.code==20)=false:=zM c20;have bC:(o.code==21)=false:=zM c21;have dC:(o.code==22)=false:=zM c22;exact Qki
 ·have dil:decide ((a:Int)<(te:Int))=false:=zH zo;have diN:decide (a<te)=false:=zH hi
  have HFIN:Hi (Below w.heap.size w wl):=by
   have hb:=qA.o;have hc:=HCH.o
   exact Kr hb hc.os hc.tape hc.output hc.size (λk hk=>hc.block k (Nat.lt_of_lt_of_le hk hb.size) (by
    have h1:=HLO.o gd (.inl rfl);have h2:=HLO.o gq (.inr rfl);simp
    omega))
  clear hi hg eA;go_wp2;go_ret;exact⟨rfl,HFIN.o⟩
theorem ux5{P:Prop}(h:P:=by
  clear hkc hn hnm HM;go_wp2_with fail;go_region;go_wp2_with fail;clear y0 y1 y2 x0 x1 x2 x3;go_roundg (te-(a+1))
  case measure=>have:=HGI.o;omega
  case rel=>exact⟨a+1,by have:=HGI.o;omega,by have:=HGI.o;omega,rfl,hbw.o.drew⟩):P:=h
theorem QfE{P:Prop}(h:P:=by
  have e1:nm=[]:=by rw[<- hnm];exact HM.o.nn (by omega) (by omega) (by omega) (by omega)
  rw[e1,show bs []=⟨#[]⟩ from rfl]at y2;clear e1;have e2:n=0:=by rw[<- hn];exact HM.o.nz (by omega) (by omega) (by omega) (by unfold isJ;omega) (by omega) (by omega)
  rw[e2]at y1;clear e2
  exact ux5):P:=h
theorem QiN{P:Prop}(h:P:=by
  have e1:nm=[]:=by rw[<- hnm];exact HM.o.nn (by omega) (by omega) (by omega) (by omega)
  rw[e1,show bs []=⟨#[]⟩ from rfl]at y2;clear e1;have hf:=HM.o.nj (by unfold isJ;omega);rw[hn]at hf;have f1:(a:Int)<n:=hf.1;have f2:n<(te:Int):=by have:=hf.2;have:=HGI.o;omega
  have f3:decide ((a:Int)<n)=true:=zG f1;have f4:decide (n<(te:Int))=true:=zG f2;clear hf
  exact ux5):P:=h
theorem QjK{P:Prop}(h:P:=by
  have e1:nm=[]:=by rw[<- hnm];exact HM.o.nn (by omega) (by omega) (by omega) (by omega)
  rw[e1,show bs []=⟨#[]⟩ from rfl]at y2;clear e1;have hf:=HM.o.nv (by omega);rw[hn]at hf;have f1:0<=n:=hf.1;have f2:n<L:=by have:=hf.2;have:=HGI.o;omega
  have f3:decide (0<=n)=true:=zG f1;have f4:decide (n<L)=true:=zG f2;clear hf
  exact ux5):P:=h
theorem Qia{P:Prop}(h:P:=by
  have u1:=Jj nm;have e2:n=0:=by rw[<- hn];exact HM.o.nz (by omega) (by omega) (by omega) (by unfold isJ;omega) (by omega) (by omega)
  rw[e2]at y1;clear e2
  exact ux5):P:=h
def Vq(c:Qaf)(L:Int)(main:Bool)(fr te:Nat)(hP:QeC c L main fr te)(hlen:c.ops.length<=40000000)(hsl:c.starts.length=c.params.length)(p:Nat)(w:World)(hp:p<=w.heap.size)(d:Array Value)(h:CV w p c d) :
  Calls prog 40 #[.agg d,Iv (fr:Nat),Iv (te:Nat),Iv L,.bool main] w (Qbj w (.bool true)):=by
 obtain⟨a0,c0,a1,c1,a2,c2,a3,c3,rfl,g0,g1,g2,g3⟩:=h.g;obtain⟨hft,gA,_,dep,_,yA⟩:=hP;obtain⟨n0,hn0⟩:∃n0,c.ops.length=n0:=⟨_,rfl⟩
 obtain⟨n1,hn1⟩:∃n1,c.starts.length=n1:=⟨_,rfl⟩
 obtain⟨n2,bA⟩:∃n2,c.params.length=n2:=⟨_,rfl⟩
 obtain⟨n3,aA⟩:∃n3,c.slots.length=n3:=⟨_,rfl⟩
 rw[hn0,hn1,bA,aA];have kA:Hi (c.params.length=n1):=by unfold Hi;omega
 rw[hn0]at hlen gA;have hb:=(Below.refl w.heap.size w).alloc (Nat.le_refl _) (.cells #[.slice a0 n0 c0,.slice a1 n1 c1,.slice a2 n2 c2,.slice a3 n3 c3] 31);have HB:=Zh hb;have hA:=Zh (hb.mono hp);have HPS:=Zh hp;have HX:=Zh (BxB.of (zQ w (.cells #[.slice a0 n0 c0,.slice a1 n1 c1,.slice a2 n2 c2,.slice a3 n3 c3] 31)));have HG:=Zh g0;have iA:=Zh yA;clear h g0 g1 g2 g3 hb hp yA hsl hn0 hn1 bA aA;go_enter func40,ntmps40;go_upto_region 1 with fail;obtain⟨eb,dA⟩:∃eb,w.heap.size=eb:=⟨_,rfl⟩
 rw[dA]at HX |-;clear dA;generalize World.alloc w _=w1 at *;go_wp2_with fail;go_loopg [11] (te-fr) λg v11 wr=>∃a:Nat,g+a=te/\fr<=a/\v11=Iv (a:Int)/\Hi (Below w1.heap.size w1 wr)
 case atStart=>exact⟨fr,by omega,Nat.le_refl _,rfl,zO⟩
 case round=>
  obtain⟨wl,rfl⟩:=zJ wr;obtain⟨a,hg,xA,rfl,hbw⟩:=hrel
  by_cases hi:a<te
  ·have dil:decide ((a:Int)<(te:Int))=true:=zG zo;have diN:decide (a<te)=true:=zG hi;obtain⟨o,ho,hm,_⟩:=iA.o a xA hi;have vA:Below p w wl:=hA.o.trans (hbw.o.mono (zv HB.o.size HPS.o));obtain⟨b0,o0,rfl,kc⟩:=HG.o a o ho;obtain⟨p0,p1,p2⟩:=kc _ vA;obtain⟨x0,x1,x2,x3⟩:=Qao (HX.o _ hbw.o);have k0:0<=(a:Int):=zo;have k1:(a:Int)<(n0:Int):=zo;have wk:IntKind.i64.wrap ((a:Int)+1)=((a+1:Nat):Int):=by rw[IntWalk.i64_in _ zo];omega
   have HGI:Hi (gk+a=te/\fr<=a/\a<te):=⟨hg,xA,hi⟩
   have HM:=Zh hm;clear hm ho kc vA hg xA hi;go_upto_region 5 with fail;have uA:=Zh (zQ wl (.cells #[Iv o.code,Iv o.n,.string (bs o.name)] 34));replace hbw:=Zh (hbw.o.alloc hbw.o.size (.cells #[Iv o.code,Iv o.n,.string (bs o.name)] 34));clear p0 p1 p2 x0 x1 x2 x3;obtain⟨yb,zA⟩:∃yb,wl.heap.size=yb:=⟨_,rfl⟩
   rw[zA]at uA |-;clear zA;generalize World.alloc wl _=w2 at *;obtain⟨x0,x1,x2,x3⟩:=Qao (HX.o _ hbw.o);obtain⟨y0,y1,y2⟩:=Qay uA.o;obtain⟨kc,hkc⟩:∃kc,o.code=kc:=⟨_,rfl⟩
   have cA:=HM.o.code;rw[hkc]at y0 cA;have eA:kc=0\/kc=1\/kc=2\/kc=3\/kc=4\/kc=5\/kc=6\/kc=7\/kc=8\/kc=9\/kc=10\/kc=11\/kc=12\/kc=13\/kc=14\/kc=15\/kc=16\/kc=17\/kc=18\/kc=19\/kc=20\/kc=21\/kc=22:=zo;clear cA;obtain⟨n,hn⟩:∃n,o.n=n:=⟨_,rfl⟩
   obtain⟨nm,hnm⟩:∃nm,o.name=nm:=⟨_,rfl⟩
   rw[hn]at y1;rw[hnm]at y2
   rcases eA with rfl|rfl|rfl|rfl|rfl|rfl|rfl|rfl|rfl|rfl|rfl|rfl|rfl|rfl|rfl|rfl|rfl|rfl|rfl|rfl|rfl|rfl|rfl
   ·as_aux_lemma=>
    have e1:nm=[]:=by rw[<- hnm];exact HM.o.nn zo zo zo zo
    rw[e1,show bs []=⟨#[]⟩ from rfl]at y2;clear e1;have hf:=HM.o.n0 hkc;rw[hn]at hf;have f1:0<=n:=hf.1;have f2:n<=1125899906842624:=by have:=hf.2;have:=HGI.o;omega
    have f3:decide (0<=n)=true:=zG f1;have f4:decide (n<=1125899906842624)=true:=zG f2;clear hf;exact ux5
   ·as_aux_lemma=>
    exact QjK
   ·as_aux_lemma=>
    exact QjK
   ·as_aux_lemma=>
    have u1:=Jj nm;have e2:n=0:=by rw[<- hn];exact HM.o.nz zo zo zo (by unfold isJ;omega) zo zo
    rw[e2]at y1;clear e2;have xA:=HM.o.nm hkc;rw[hnm]at xA;have jA:=Zh xA;clear xA;clear hkc hn hnm HM;go_wp2_with fail;go_region;go_wp2_with fail;refine(Jgf nm w2.drew jA.o).mono ?_;rintro e w3 ⟨rfl,rfl⟩;go_wp2_with fail;clear y0 y1 y2 x0 x1 x2 x3;go_roundg (te-(a+1))
    case measure=>have:=HGI.o;omega
    case rel=>exact⟨a+1,by have:=HGI.o;omega,by have:=HGI.o;omega,rfl,hbw.o.drew⟩
   ·as_aux_lemma=>
    exact Qia
   ·as_aux_lemma=>
    exact Qia
   ·as_aux_lemma=>
    exact QfE
   ·as_aux_lemma=>
    exact QfE
   ·as_aux_lemma=>
    exact QfE
   ·as_aux_lemma=>
    exact QfE
   ·as_aux_lemma=>
    exact QfE
   ·as_aux_lemma=>
    exact QfE
   ·as_aux_lemma=>
    exact QfE
   ·as_aux_lemma=>
    exact QfE
   ·as_aux_lemma=>
    exact QfE
   ·as_aux_lemma=>
    exact QfE
   ·as_aux_lemma=>
    exact QiN
   ·as_aux_lemma=>
    exact QiN
   ·as_aux_lemma=>
    exact QiN
   ·as_aux_lemma=>
    have e1:nm=[]:=by rw[<- hnm];exact HM.o.nn zo zo zo zo
    rw[e1,show bs []=⟨#[]⟩ from rfl]at y2;clear e1;have hf:=HM.o.nc hkc;rw[hn]at hf;rw[kA.o]at hf;have f1:0<=n:=hf.1;have f2:n<(n1:Int):=by have:=hf.2;have:=HGI.o;omega
    have f3:decide (0<=n)=true:=zG f1;have f4:decide (n<(n1:Int))=true:=zG f2;clear hf;exact ux5
   ·as_aux_lemma=>
    have e1:nm=[]:=by rw[<- hnm];exact HM.o.nn zo zo zo zo
    rw[e1,show bs []=⟨#[]⟩ from rfl]at y2;clear e1;have e2:n=0:=by rw[<- hn];exact HM.o.nz zo zo zo (by unfold isJ;omega) zo zo
    rw[e2]at y1;clear e2;have e3:main=false:=HM.o.pl.1 hkc;subst e3;exact ux5
   ·as_aux_lemma=>
    have e1:nm=[]:=by rw[<- hnm];exact HM.o.nn zo zo zo zo
    rw[e1,show bs []=⟨#[]⟩ from rfl]at y2;clear e1;have e2:n=0:=by rw[<- hn];exact HM.o.nz zo zo zo (by unfold isJ;omega) zo zo
    rw[e2]at y1;clear e2;have e3:main=true:=HM.o.pl.2 zo;subst e3;exact ux5
   ·as_aux_lemma=>
    have u1:=Jj nm;have hf:=HM.o.ne hkc;rw[hn]at hf;have f1:0<=n:=hf.1;have f2:n<=3:=by have:=hf.2;have:=HGI.o;omega
    have f3:decide (0<=n)=true:=zG f1;have f4:decide (n<=3)=true:=zG f2;clear hf;have e3:main=true:=HM.o.pl.2 zo;subst e3;exact ux5
  ·have dil:decide ((a:Int)<(te:Int))=false:=zH zo;have diN:decide (a<te)=false:=zH hi;have HFIN:Hi (Below w.heap.size w wl):=HB.o.trans (hbw.o.mono HB.o.size);clear hi hg xA;go_wp2;go_ret;exact⟨rfl,HFIN.o⟩
end Go.Proofs.YtfafpklefknomaaGreatDoor
