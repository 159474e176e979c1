import Derived.Laws.AppendOwn
import Derived.Laws.OwnMore
import Derived.Deep.Draws
import Derived.Laws.Rows
import Derived.Laws.NewBlocks
import Derived.Test.YtfafpklefknomaaGreatDoorR01
import Derived.Test.YtfafpklefknomaaGreatDoorR00
open Nat(le_refl)
namespace Go.Proofs.YtfafpklefknomaaGreatDoor
open Go.ChangeShapes Go.WideShapes Go.ChangeAt Go.RowKit Go.Lib
open _root_.Go.Proofs.Tryz
set_option linter.all false
set_option maxRecDepth 100000
set_option maxHeartbeats 32000000
def Qko(t:Tok):Array Value:=#[Iv t.kind,.string (bs t.text),Iv t.n,Iv t.off]
def Qdo(o:Option (Tok × Nat))(w:World)(e:Ending)(w':World):Prop:=
 (∃(t:Tok) (n:Int),e=.returned (.tuple #[.agg (Qko t),Iv n,.bool o.isSome])/\∀u k,o=some (u,k)->t=u/\n=(k:Nat))/\Below w.heap.size w w'
def Qdz.below{w w':World}{p:Nat}(h:Qdz w p)(hb:Below w.heap.size w w')(hp:p<w.heap.size):Qdz w' p:=λi hi=>by
 rw[hb.cell (p:=⟨p,i,none⟩) hp];exact h i hi
def KY{o:Option (Tok × Nat)}{w w':World}{t:Tok}{n:Int}{b:Bool}(hb:b=o.isSome)(h:∀u k,o=some (u,k)->t=u/\n=(k:Nat))(hB:Below w.heap.size w w') :
  Qdo o w (.returned (.tuple #[.agg #[Iv t.kind,.string (bs t.text),Iv t.n,Iv t.off],Iv n,.bool b])) w':=⟨⟨t,n,by rw[hb];rfl,h⟩,hB⟩
def JZ{P:Program}{fn:Func}{p a b:Tmp}{ty:TypeId}(h:fn.results=#[.cell p ty,.tmp a,.tmp b])(tmps:Array Value)(w:World)(g:Nat)(t:TypeId)(cs:Array Value)(fr:Nat × Nat)(d:TypeDesc)
  (hp:tmps.getD p undef=Pt g) (hg:w.heap[g]?=some (.cells cs t fr))
  (hu:P.underlying ty=some d) (hd:(match d with|.struct _|.array _ _=>true|_=>false)=true) (hi:(P.info? ty).map (·.size)=some cs.size) :
  (results fn tmps).run P w=.ok (.tuple #[.agg cs,tmps.getD a undef,tmps.getD b undef]) w:=by
 have xA:tmps[p]?.getD undef=Pt g:=by simpa using hp
 simp[results,h,xA,asAddr,run_loadVar_row w g t ty cs fr d hg hu hd hi]
theorem QhT{P:Prop}(h:P:=by
  have h0:=heap_setCell_same _ _ 0 _ _ v0 h;have h1:=heap_setCell_same _ _ 1 _ _ v1 h0;have h2:=heap_setCell_same _ _ 2 _ _ v2 h1
  exact heap_setCell_same _ _ 3 _ _ v3 h2):P:=h
def Qgk{w:World}{T t:Nat}{a0 a1 a2 a3:Value}(v0 v1 v2 v3:Value)(h:w.heap[T]?=some (.cells #[a0,a1,a2,a3] t (0,0))) :
  ((((w.setCell ⟨T,0,none⟩ v0).setCell ⟨T,1,none⟩ v1).setCell ⟨T,2,none⟩ v2).setCell ⟨T,3,none⟩ v3).heap[T]?=some (.cells #[v0,v1,v2,v3] t (0,0)):=by
 exact QhT
def Kt{B:Nat}{w w1:World}{T:Nat}(v0 v1 v2 v3:Value)(h:Below B w w1)(hT:B<=T):Below B w ((((w1.setCell ⟨T,0,none⟩ v0).setCell ⟨T,1,none⟩ v1).setCell ⟨T,2,none⟩ v2).setCell ⟨T,3,none⟩ v3):=
 (((h.setCell hT v0).setCell hT v1).setCell hT v2).setCell hT v3
def Qds:(prog.info? 134).map (·.size)=some 4:=zk
section
variable (c:UInt8)(r:By)(p:Nat)(w:World)(hC:Qdz w p)(hp:p<w.heap.size)(hl:(c::r).length<=281474976710655)
include c r p w hC hp hl
theorem JbX(hc:Qef c=true)(hL:Laid w) :
  Calls prog 85 #[Pt p,Sv (c::r)] w (Qdo (QcH (c::r)) w):=by
 have HF:Hi (QcH (c::r)=if (QaS (c::r)).length<=24 then some (⟨0,QaS (c::r),0,0⟩,(QaS (c::r)).length) else none):=by
  unfold Hi;simp only[QcH];rw[if_pos hc]
 obtain⟨l,yA⟩:∃l,l=c::r:=⟨_,rfl⟩
 have hg:∀h,((bs l)[0]'h).toNat=c.toNat:=by rw[yA];intro h;rfl
 have uA:l.length=r.length+1:=by rw[yA];rfl
 have cA:0<l.length:=zo;have xA:=hC c.toNat c.toNat_lt;rw[JgM.1 hc]at xA;have hx:c.toNat<256:=c.toNat_lt;rw[<- yA]at hl HF |-;have hs:=JJ l;have bA:=Zw l;clear yA uA;generalize c.toNat=x at *;have HC:=Zh hC;clear hC;go_enter func85,ntmps85;go_wp2;go_quiet (fail);go_wp2_with fail;obtain⟨W,hW⟩:∃W,W=(w.alloc (.cells #[Iv 0,Em,Iv 0,Iv 0] 134)).drewN nq:=⟨_,rfl⟩
 have zA:Below w.heap.size w W:=by rw[hW];exact Ke (zO.alloc zP _) _
 have g0:W.heap[w.heap.size]?=some (.cells #[Iv 0,Em,Iv 0,Iv 0] 134 (0,0)):=by rw[hW];exact zQ w _
 have z0:w.heap.size<W.heap.size:=by rw[hW];show _<(w.alloc _).heap.size;simp
 rw[<- hW];clear hW;have aA:=HC.o.below zA hp;refine(Zz l p W aA zo).mono ?_;rintro e w1 ⟨rfl,hb1⟩;have g1:=(hb1.block _ z0).trans g0;have hB:=zA.trans (hb1.mono zA.size);have z1:w.heap.size<w1.heap.size:=Nat.lt_of_lt_of_le z0 hb1.size;have eA:=JJ (QaS l);have G:=Zh g1;clear hb1 zA g0 z0 aA HC g1
 by_cases h24:(QaS l).length<=24
 ·have HT:Hi (QcH l=some (⟨0,QaS l,0,0⟩,(QaS l).length)):=by unfold Hi;rw[HF.o,if_pos h24]
  clear HF xA;generalize vA:QaS l=wd at *;clear vA;have dA:decide ((wd.length:Int)<=24)=true:=zG zo;have q0:w1.cell? ⟨w.heap.size,0,none⟩=some (Iv 0):=by rw[cell_of_row _ _ _ _ _ _ G.o];rfl
  have q1:w1.cell? ⟨w.heap.size,1,none⟩=some Em:=by rw[cell_of_row _ _ _ _ _ _ G.o];rfl
  have q2:w1.cell? ⟨w.heap.size,2,none⟩=some (Iv 0):=by rw[cell_of_row _ _ _ _ _ _ G.o];rfl
  have q3:w1.cell? ⟨w.heap.size,3,none⟩=some (Iv 0):=by rw[cell_of_row _ _ _ _ _ _ G.o];rfl
  have f0:=frozen_of_row _ _ 0 _ _ G.o;have f1:=frozen_of_row _ _ 1 _ _ G.o;have f2:=frozen_of_row _ _ 2 _ _ G.o;have f3:=frozen_of_row _ _ 3 _ _ G.o;go_wp2_with fail;refine bodyPost_ret (JZ rfl _ _ w.heap.size 134 #[Iv 0,Sv wd,Iv 0,Iv 0] (0,0) _ rfl (Qgk _ _ _ _ G.o) underlying134 rfl Qds) rfl ?_;rw[HT.o];exact KY (t:=⟨0,wd,0,0⟩) rfl (by intro u k h;injection h with h;injection h with h1 h2;subst h1;subst h2;exact⟨rfl,rfl⟩) (Kt _ _ _ _ hB zP)
 ·have HT:Hi (QcH l=none):=by unfold Hi;rw[HF.o,if_neg h24]
  clear HF xA;generalize vA:QaS l=wd at *;clear vA;have dA:decide ((wd.length:Int)<=24)=false:=zH zo;have q0:w1.cell? ⟨w.heap.size,0,none⟩=some (Iv 0):=by rw[cell_of_row _ _ _ _ _ _ G.o];rfl
  have q1:w1.cell? ⟨w.heap.size,1,none⟩=some Em:=by rw[cell_of_row _ _ _ _ _ _ G.o];rfl
  have q2:w1.cell? ⟨w.heap.size,2,none⟩=some (Iv 0):=by rw[cell_of_row _ _ _ _ _ _ G.o];rfl
  have q3:w1.cell? ⟨w.heap.size,3,none⟩=some (Iv 0):=by rw[cell_of_row _ _ _ _ _ _ G.o];rfl
  have f0:=frozen_of_row _ _ 0 _ _ G.o;have f1:=frozen_of_row _ _ 1 _ _ G.o;have f2:=frozen_of_row _ _ 2 _ _ G.o;have f3:=frozen_of_row _ _ 3 _ _ G.o;go_wp2_with fail;refine bodyPost_ret (JZ rfl _ _ w.heap.size 134 #[Iv 0,Sv wd,Iv 0,Iv 0] (0,0) _ rfl (Qgk _ _ _ _ G.o) underlying134 rfl Qds) rfl ?_;rw[HT.o];exact KY (t:=⟨0,wd,0,0⟩) rfl (by intro u k h;cases h) (Kt _ _ _ _ hB zP)
theorem JdB(hc:Qgi c=true)(hc0:Qef c=false)(hL:Laid w) :
  Calls prog 85 #[Pt p,Sv (c::r)] w (Qdo (QcH (c::r)) w):=by
 have HF:Hi (QcH (c::r)=(Qbm (QaS (c::r)) 0 1125899906842624).map λn=>(⟨1,[],n,0⟩,(QaS (c::r)).length)):=by
  unfold Hi;simp only[QcH];rw[if_neg (by simp[hc0]),if_pos hc]
 obtain⟨l,yA⟩:∃l,l=c::r:=⟨_,rfl⟩
 have hg:∀h,((bs l)[0]'h).toNat=c.toNat:=by rw[yA];intro h;rfl
 have uA:l.length=r.length+1:=by rw[yA];rfl
 have cA:0<l.length:=zo;have xA:=hC c.toNat c.toNat_lt;rw[JgN.1 hc]at xA;have hx:c.toNat<256:=c.toNat_lt;rw[<- yA]at hl HF |-;have hs:=JJ l;have aA:=Zw l;clear yA uA;generalize c.toNat=x at *;have HC:=Zh hC;clear hC;go_enter func85,ntmps85;go_wp2;go_quiet (fail);go_wp2_with fail;obtain⟨W,hW⟩:∃W,W=(w.alloc (.cells #[Iv 0,Em,Iv 0,Iv 0] 134)).drewN nq:=⟨_,rfl⟩
 have zA:Below w.heap.size w W:=by rw[hW];exact Ke (zO.alloc zP _) _
 have g0:W.heap[w.heap.size]?=some (.cells #[Iv 0,Em,Iv 0,Iv 0] 134 (0,0)):=by rw[hW];exact zQ w _
 have z0:w.heap.size<W.heap.size:=by rw[hW];show _<(w.alloc _).heap.size;simp
 rw[<- hW];clear hW;have vA:=HC.o.below zA hp;refine(Zz l p W vA zo).mono ?_;rintro e w1 ⟨rfl,hb1⟩;have g1:=(hb1.block _ z0).trans g0;have hB:=zA.trans (hb1.mono zA.size);have z1:w.heap.size<w1.heap.size:=Nat.lt_of_lt_of_le z0 hb1.size;have gA:=JJ (QaS l);have G:=Zh g1;clear hb1 zA g0 z0 vA HC g1;have bA:(QaS l).length<=281474976710656:=zo;have cP:=JgH (QaS l) 0 1125899906842624 w1 bA (hL.below hB);have HP:∀o,Qbm (QaS l) 0 1125899906842624=o->Hi (QcH l=o.map λn=>(⟨1,[],n,0⟩,(QaS l).length)):=λo h=>by unfold Hi;rw[HF.o,h]
 clear HF xA;generalize dA:Qbm (QaS l) 0 1125899906842624=o at *;have HT:=HP o rfl;clear HP dA;generalize eA:QaS l=wd at *;clear eA
 cases o with
 |some m=>
  go_wp2_with fail;refine(Calls.mono cP ?_);rintro e w2 ⟨rfl,hb2⟩;have G:=Zh ((hb2.block _ z1).trans G.o);have hB:=hB.trans (hb2.mono hB.size);clear hb2 cP;have q0:w2.cell? ⟨w.heap.size,0,none⟩=some (Iv 0):=by rw[cell_of_row _ _ _ _ _ _ G.o];rfl
  have q1:w2.cell? ⟨w.heap.size,1,none⟩=some Em:=by rw[cell_of_row _ _ _ _ _ _ G.o];rfl
  have q2:w2.cell? ⟨w.heap.size,2,none⟩=some (Iv 0):=by rw[cell_of_row _ _ _ _ _ _ G.o];rfl
  have q3:w2.cell? ⟨w.heap.size,3,none⟩=some (Iv 0):=by rw[cell_of_row _ _ _ _ _ _ G.o];rfl
  have f0:=frozen_of_row _ _ 0 _ _ G.o;have f1:=frozen_of_row _ _ 1 _ _ G.o;have f2:=frozen_of_row _ _ 2 _ _ G.o;have f3:=frozen_of_row _ _ 3 _ _ G.o;go_wp2_with fail;refine bodyPost_ret (JZ rfl _ _ w.heap.size 134 #[Iv 1,.string (⟨#[]⟩),Iv m,Iv 0] (0,0) _ rfl (Qgk _ _ _ _ G.o) underlying134 rfl Qds) rfl ?_;rw[HT.o];exact KY (t:=⟨1,[],m,0⟩) rfl (by intro u k h;injection h with h;injection h with h1 h2;subst h1;subst h2;exact⟨rfl,rfl⟩) (Kt _ _ _ _ hB zP)
 |none=>
  go_wp2_with fail;refine(Calls.mono cP ?_);rintro e w2 ⟨rfl,hb2⟩;have G:=Zh ((hb2.block _ z1).trans G.o);have hB:=hB.trans (hb2.mono hB.size);clear hb2 cP;have q0:w2.cell? ⟨w.heap.size,0,none⟩=some (Iv 0):=by rw[cell_of_row _ _ _ _ _ _ G.o];rfl
  have q1:w2.cell? ⟨w.heap.size,1,none⟩=some Em:=by rw[cell_of_row _ _ _ _ _ _ G.o];rfl
  have q2:w2.cell? ⟨w.heap.size,2,none⟩=some (Iv 0):=by rw[cell_of_row _ _ _ _ _ _ G.o];rfl
  have q3:w2.cell? ⟨w.heap.size,3,none⟩=some (Iv 0):=by rw[cell_of_row _ _ _ _ _ _ G.o];rfl
  have f0:=frozen_of_row _ _ 0 _ _ G.o;have f1:=frozen_of_row _ _ 1 _ _ G.o;have f2:=frozen_of_row _ _ 2 _ _ G.o;have f3:=frozen_of_row _ _ 3 _ _ G.o;go_wp2_with fail;refine bodyPost_ret (JZ rfl _ _ w.heap.size 134 #[Iv 1,.string (⟨#[]⟩),Iv 0,Iv 0] (0,0) _ rfl (Qgk _ _ _ _ G.o) underlying134 rfl Qds) rfl ?_;rw[HT.o];exact KY (t:=⟨1,[],0,0⟩) rfl (by intro u k h;cases h) (Kt _ _ _ _ hB zP)
theorem JdC(hc:c=34)(hL:Laid w) :
  Calls prog 85 #[Pt p,Sv (c::r)] w (Qdo (QcH (c::r)) w):=by
 have HF:Hi (QcH (c::r)=(Qbt 25 r).map λw=>(⟨2,w,0,0⟩,w.length+2)):=by
  unfold Hi;subst hc;simp only[QcH];rw[if_neg zp,if_neg zp,if_pos trivial]
 obtain⟨l,yA⟩:∃l,l=c::r:=⟨_,rfl⟩
 have hg:∀h,((bs l)[0]'h).toNat=c.toNat:=by rw[yA];intro h;rfl
 have uA:l.length=r.length+1:=by rw[yA];rfl
 have cA:0<l.length:=zo;have xA:=hC c.toNat c.toNat_lt;rw[Jld.1 hc]at xA;have hx:c.toNat<256:=c.toNat_lt;rw[<- yA]at hl HF |-;have hs:=JJ l;have bA:=Zw l;have gA:(bs l).extract 1 l.length=bs r:=by rw[Va,yA];simp
 have eA:r.length<=281474976710655:=zo;have vA:1<=l.length:=zo;clear yA uA;generalize c.toNat=x at *;have HC:=Zh hC;clear hC;go_enter func85,ntmps85;go_wp2;go_quiet (fail);go_wp2_with fail;obtain⟨W,hW⟩:∃W,W=(w.alloc (.cells #[Iv 0,Em,Iv 0,Iv 0] 134)).drewN nq:=⟨_,rfl⟩
 have zA:Below w.heap.size w W:=by rw[hW];exact Ke (zO.alloc zP _) _
 have g0:W.heap[w.heap.size]?=some (.cells #[Iv 0,Em,Iv 0,Iv 0] 134 (0,0)):=by rw[hW];exact zQ w _
 have z0:w.heap.size<W.heap.size:=by rw[hW];show _<(w.alloc _).heap.size;simp
 rw[<- hW];clear hW;have aA:=HC.o.below zA hp;have cT:=Jdz r W zo
 cases ho:Qbt 25 r with
 |some v=>
  have HT:Hi (QcH l=some (⟨2,v,0,0⟩,v.length+2)):=by unfold Hi;rw[HF.o,ho];rfl
  rw[ho]at cT;have hv:v.length<=24:=by have:=VN _ _ _ ho;omega
  clear HF xA ho;refine(Calls.mono cT ?_);rintro e w1 ⟨rfl,rfl⟩;have dA:=JJ v;have G:=Zh g0;have hB:=zA;clear zA g0 z0 aA HC cT;have q0:W.cell? ⟨w.heap.size,0,none⟩=some (Iv 0):=by rw[cell_of_row _ _ _ _ _ _ G.o];rfl
  have q1:W.cell? ⟨w.heap.size,1,none⟩=some Em:=by rw[cell_of_row _ _ _ _ _ _ G.o];rfl
  have q2:W.cell? ⟨w.heap.size,2,none⟩=some (Iv 0):=by rw[cell_of_row _ _ _ _ _ _ G.o];rfl
  have q3:W.cell? ⟨w.heap.size,3,none⟩=some (Iv 0):=by rw[cell_of_row _ _ _ _ _ _ G.o];rfl
  have f0:=frozen_of_row _ _ 0 _ _ G.o;have f1:=frozen_of_row _ _ 1 _ _ G.o;have f2:=frozen_of_row _ _ 2 _ _ G.o;have f3:=frozen_of_row _ _ 3 _ _ G.o;go_wp2_with fail;refine bodyPost_ret (JZ rfl _ _ w.heap.size 134 #[Iv 2,Sv v,Iv 0,Iv 0] (0,0) _ rfl (Qgk _ _ _ _ G.o) underlying134 rfl Qds) rfl ?_;rw[HT.o];exact KY (t:=⟨2,v,0,0⟩) rfl (by intro u k h;injection h with h;injection h with h1 h2;subst h1;subst h2;exact⟨rfl,zq⟩) (Kt _ _ _ _ hB zP)
 |none=>
  have HT:Hi (QcH l=none):=by unfold Hi;rw[HF.o,ho];rfl
  rw[ho]at cT;clear HF xA ho;refine(Calls.mono cT ?_);rintro e w1 ⟨rfl,rfl⟩;have dA:=JJ [];have G:=Zh g0;have hB:=zA;clear zA g0 z0 aA HC cT;have q0:W.cell? ⟨w.heap.size,0,none⟩=some (Iv 0):=by rw[cell_of_row _ _ _ _ _ _ G.o];rfl
  have q1:W.cell? ⟨w.heap.size,1,none⟩=some Em:=by rw[cell_of_row _ _ _ _ _ _ G.o];rfl
  have q2:W.cell? ⟨w.heap.size,2,none⟩=some (Iv 0):=by rw[cell_of_row _ _ _ _ _ _ G.o];rfl
  have q3:W.cell? ⟨w.heap.size,3,none⟩=some (Iv 0):=by rw[cell_of_row _ _ _ _ _ _ G.o];rfl
  have f0:=frozen_of_row _ _ 0 _ _ G.o;have f1:=frozen_of_row _ _ 1 _ _ G.o;have f2:=frozen_of_row _ _ 2 _ _ G.o;have f3:=frozen_of_row _ _ 3 _ _ G.o;go_wp2_with fail;refine bodyPost_ret (JZ rfl _ _ w.heap.size 134 #[Iv 2,.string (bs []),Iv 0,Iv 0] (0,0) _ rfl (Qgk _ _ _ _ G.o) underlying134 rfl Qds) rfl ?_;rw[HT.o];exact KY (t:=⟨2,[],0,0⟩) rfl (by intro u k h;cases h) (Kt _ _ _ _ hB zP)
theorem JfG(hc0:Qef c=false)(hc1:Qgi c=false)(hc2:c≠34)(hL:Laid w) :
  Calls prog 85 #[Pt p,Sv (c::r)] w (Qdo (QcH (c::r)) w):=by
 have HF:Hi (QcH (c::r)=if Qbk (c::r)=[] then none else some (⟨3,Qbk (c::r),0,0⟩,(Qbk (c::r)).length)):=by
  unfold Hi;simp only[QcH];rw[if_neg (by simp[hc0]),if_neg (by simp[hc1]),if_neg hc2]
 have k2:((QbV c.toNat:Nat):Int)≠2:=λh=>by
  have h':QbV c.toNat=2:=zo;rw[JgM.2 h']at hc0;cases hc0
 have k3:((QbV c.toNat:Nat):Int)≠3:=λh=>by
  have h':QbV c.toNat=3:=zo;rw[JgN.2 h']at hc1;cases hc1
 have k5:((QbV c.toNat:Nat):Int)≠5:=λh=>by
  have h':QbV c.toNat=5:=zo;exact hc2 (Jld.2 h')
 have e2:(((QbV c.toNat:Nat):Int)==2)=false:=zM k2;have e3:(((QbV c.toNat:Nat):Int)==3)=false:=zM k3;have e5:(((QbV c.toNat:Nat):Int)==5)=false:=zM k5;clear k2 k3 k5;have cS:=λW=>JdA c r W zo
 obtain⟨l,zA⟩:∃l,l=c::r:=⟨_,rfl⟩
 have hg:∀h,((bs l)[0]'h).toNat=c.toNat:=by rw[zA];intro h;rfl
 have vA:l.length=r.length+1:=by rw[zA];rfl
 have cA:0<l.length:=zo;have xA:=hC c.toNat c.toNat_lt;have hx:c.toNat<256:=c.toNat_lt;rw[<- zA]at hl HF cS |-;have hs:=JJ l;have bA:=Zw l;clear zA vA;generalize c.toNat=x at *;generalize QbV x=cn at *;have HC:=Zh hC;clear hC;go_enter func85,ntmps85;go_wp2;go_quiet (fail);go_wp2_with fail;obtain⟨W,hW⟩:∃W,W=(w.alloc (.cells #[Iv 0,Em,Iv 0,Iv 0] 134)).drewN nq:=⟨_,rfl⟩
 have yA:Below w.heap.size w W:=by rw[hW];exact Ke (zO.alloc zP _) _
 have g0:W.heap[w.heap.size]?=some (.cells #[Iv 0,Em,Iv 0,Iv 0] 134 (0,0)):=by rw[hW];exact zQ w _
 have z0:w.heap.size<W.heap.size:=by rw[hW];show _<(w.alloc _).heap.size;simp
 rw[<- hW];clear hW;have aA:=HC.o.below yA hp;have uA:=Jbk l
 by_cases h0:Qbk l=[]
 ·have HT:Hi (QcH l=none):=by unfold Hi;rw[HF.o,if_pos h0]
  rw[h0]at cS;clear HF xA h0;refine(cS _).mono ?_;rintro e w1 ⟨rfl,rfl⟩;have eA:=JJ [];have tl:=Jj [];have G:=Zh g0;have hB:=yA;clear yA g0 z0 aA HC cS uA;have q0:W.cell? ⟨w.heap.size,0,none⟩=some (Iv 0):=by rw[cell_of_row _ _ _ _ _ _ G.o];rfl
  have q1:W.cell? ⟨w.heap.size,1,none⟩=some Em:=by rw[cell_of_row _ _ _ _ _ _ G.o];rfl
  have q2:W.cell? ⟨w.heap.size,2,none⟩=some (Iv 0):=by rw[cell_of_row _ _ _ _ _ _ G.o];rfl
  have q3:W.cell? ⟨w.heap.size,3,none⟩=some (Iv 0):=by rw[cell_of_row _ _ _ _ _ _ G.o];rfl
  have f0:=frozen_of_row _ _ 0 _ _ G.o;have f1:=frozen_of_row _ _ 1 _ _ G.o;have f2:=frozen_of_row _ _ 2 _ _ G.o;have f3:=frozen_of_row _ _ 3 _ _ G.o;go_wp2_with fail;refine bodyPost_ret (JZ rfl _ _ w.heap.size 134 #[Iv 3,.string (bs []),Iv 0,Iv 0] (0,0) _ rfl (Qgk _ _ _ _ G.o) underlying134 rfl Qds) rfl ?_;rw[HT.o];exact KY (t:=⟨3,[],0,0⟩) rfl (by intro u k h;cases h) (Kt _ _ _ _ hB zP)
 ·have HT:Hi (QcH l=some (⟨3,Qbk l,0,0⟩,(Qbk l).length)):=by unfold Hi;rw[HF.o,if_neg h0]
  clear HF xA;generalize dA:Qbk l=sg at *;clear dA;refine(cS _).mono ?_;rintro e w1 ⟨rfl,rfl⟩;have eA:=JJ sg;have tl:=Jj sg;have i0:sg.isEmpty=false:=by simpa using h0
  have gA:sg.length<=2:=uA.2.1;have G:=Zh g0;have hB:=yA;clear yA g0 z0 aA HC cS uA h0;have q0:W.cell? ⟨w.heap.size,0,none⟩=some (Iv 0):=by rw[cell_of_row _ _ _ _ _ _ G.o];rfl
  have q1:W.cell? ⟨w.heap.size,1,none⟩=some Em:=by rw[cell_of_row _ _ _ _ _ _ G.o];rfl
  have q2:W.cell? ⟨w.heap.size,2,none⟩=some (Iv 0):=by rw[cell_of_row _ _ _ _ _ _ G.o];rfl
  have q3:W.cell? ⟨w.heap.size,3,none⟩=some (Iv 0):=by rw[cell_of_row _ _ _ _ _ _ G.o];rfl
  have f0:=frozen_of_row _ _ 0 _ _ G.o;have f1:=frozen_of_row _ _ 1 _ _ G.o;have f2:=frozen_of_row _ _ 2 _ _ G.o;have f3:=frozen_of_row _ _ 3 _ _ G.o;go_wp2_with fail;refine bodyPost_ret (JZ rfl _ _ w.heap.size 134 #[Iv 3,Sv sg,Iv 0,Iv 0] (0,0) _ rfl (Qgk _ _ _ _ G.o) underlying134 rfl Qds) rfl ?_;rw[HT.o];exact KY (t:=⟨3,sg,0,0⟩) rfl (by intro u k h;injection h with h;injection h with h1 h2;subst h1;subst h2;exact⟨rfl,rfl⟩) (Kt _ _ _ _ hB zP)
theorem JbY(hL:Laid w) :
  Calls prog 85 #[Pt p,Sv (c::r)] w (Qdo (QcH (c::r)) w):=by
 cases h1:Qef c with
 |true=>exact JbX c r p w hC hp hl h1 hL
 |false=>
  cases h2:Qgi c with
  |true=>exact JdB c r p w hC hp hl h2 h1 hL
  |false=>
   by_cases h3:c=34
   ·exact JdC c r p w hC hp hl h3 hL
   ·exact JfG c r p w hC hp hl h1 h2 h3 hL
end
def QaO:List Tok->List Value
 |[]=>[]
 |t::l=>[Iv t.kind,.string (bs t.text),Iv t.n,Iv t.off]++QaO l
def Vv(a b:List Tok):QaO (a++b)=QaO a++QaO b:=by
 induction a with
 |nil=>rfl
 |cons t a ih=>simp[QaO,ih]
def QeV.prep(us:List Tok):QeV->QeV
 |.ok ts=>.ok (us++ts)
 |.err k=>.err k
def Jjq(s:QeV):s.prep []=s:=by cases s<;>rfl
def JgP(us:List Tok)(t:Tok)(s:QeV):(s.push t).prep us=s.prep (us++[t]):=by cases s<;>simp[QeV.push,QeV.prep]
def Qbi(l:By):List Tok × Int × Int:=
 if 4096<l.length then ([],7,0) else match sc 0 l with
  |.ok ts=>(ts,0,0)
  |.err k=>([],2,(k:Nat))
def Qec(R:List Tok × Int × Int)(w:World)(e:Ending)(w':World):Prop:=
 ∃v,e=.returned (.tuple #[v,Iv R.2.1,Iv R.2.2])/\w'.ownsRow w.heap.size 134 4 v R.1.length (QaO R.1)/\Below w.heap.size w w'
def Jv{w:World}{base e size n:Nat}{v:Value}{xs:List Value}(h:w.ownsRow base e size v n xs):∃a c,v=.slice a n c:=by
 rcases h.2 with⟨rfl,rfl⟩|⟨g,cap,cur,rfl,_⟩
 ·exact⟨_,_,rfl⟩
 ·exact⟨_,_,rfl⟩
def JlG{w:World}{base g n:Nat}{e t:Nat}{size:Nat}{v:Value}{xs:List Value}{cs:Array Value}{fr:Nat × Nat}(h:w.ownsRow base e size v n xs)(hg:w.heap[g]?=some (.cells cs t fr))(hne:e≠t):v.ownBlock≠some g:=by
 rcases h.2 with⟨rfl,_⟩|⟨g',cap,cur,rfl,_,hh,_⟩
 ·simp[Value.ownBlock]
 ·intro he;have:g'=g:=by simpa[Value.ownBlock] using he
  subst this;rw[hh]at hg;injection hg with hg;injection hg with _ ht;exact hne ht
def JX{w w':World}{base n e size:Nat}{v:Value}{xs:List Value}(h:w.ownsRow base e size v n xs)(hb:Below w.heap.size w w'):w'.ownsRow base e size v n xs:=by
 refine⟨h.1,?_⟩
 rcases h.2 with⟨rfl,rfl⟩|⟨g,cap,cur,rfl,hg,hh,q⟩
 ·exact .inl ⟨rfl,rfl⟩
 ·exact .inr ⟨g,cap,cur,rfl,hg,(hb.block g (Array.getElem?_eq_some_iff.1 hh).1).trans hh,q⟩
theorem Qib{P:Prop}(h:P:=by
  have hadd:(⟨w.heap.size,0,none⟩:Addr).add j=⟨w.heap.size,j,none⟩:=by unfold Addr.add;split<;>simp_all
  rw[hadd]
  exact cell_of_row _ _ _ _ _ (0,0) (zQ w _)):P:=h
def Kw(w:World)(cs:Array Value)(e:TypeId)(j:Nat):(w.alloc (.cells cs e)).cell? ((⟨w.heap.size,0,none⟩:Addr).add j)=cs[j]?:=by
 exact Qib
def ZG{w:World}{base e size n:Nat}{v:Value}{xs:List Value}(h:w.ownsRow base e size v n xs):∀k,v.ownBlock=some k->base<=k:=by
 intro k hk;exact(World.ownsRow.lt h k hk).1
def JaA(w:World)(o:Obj)(cs:Array Value)(e:TypeId)(j:Nat):((w.alloc o).alloc (.cells cs e)).cell? ((⟨w.heap.size+1,0,none⟩:Addr).add j)=cs[j]?:=by
 have hadd:(⟨w.heap.size+1,0,none⟩:Addr).add j=⟨w.heap.size+1,j,none⟩:=by unfold Addr.add;split<;>simp_all
 rw[hadd];exact cell_of_row _ _ _ _ _ (0,0) (heap_alloc2_new w _ _)
def JfH{c:UInt8}{r:By}{t:Tok}{n:Nat}(p:Nat)(w:World)(hC:Qdz w p)(hp:p<w.heap.size)(hl:(c::r).length<=281474976710655)(hL:Laid w)(h:QcH (c::r)=some (t,n)) :
  Calls prog 85 #[Pt p,Sv (c::r)] w (λe w'=>e=.returned (.tuple #[.agg #[Iv t.kind,.string (bs t.text),Iv t.n,Iv 0],Iv n,.bool true])/\Below w.heap.size w w'):=by
 have hf:=(Zx h).2.2.2.2.2;refine(JbY c r p w hC hp hl hL).mono ?_;rintro e w' ⟨⟨u,m,rfl,hu⟩,hb⟩;obtain⟨rfl,rfl⟩:=hu t n h;refine⟨?_,hb⟩;rw[h];simp only[Qko,hf];rfl
def JfI{c:UInt8}{r:By}(p:Nat)(w:World)(hC:Qdz w p)(hp:p<w.heap.size)(hl:(c::r).length<=281474976710655)(hL:Laid w)(h:QcH (c::r)=none) :
  Calls prog 85 #[Pt p,Sv (c::r)] w (λe w'=>∃(a b d m:Int) (x:ByteArray),e=.returned (.tuple #[.agg #[Iv a,.string x,Iv b,Iv d],Iv m,.bool false])/\Below w.heap.size w w'):=by
 refine(JbY c r p w hC hp hl hL).mono ?_;rintro e w' ⟨⟨u,m,rfl,hu⟩,hb⟩;refine⟨u.kind,u.n,u.off,m,bs u.text,?_,hb⟩;rw[h];rfl
def JgQ(l:By)(w:World)(h:4096<l.length)(hl:l.length<=281474976710655):Calls prog 32 #[Sv l] w (Qec (Qbi l) w):=by
 have HR:Hi (Qbi l=([],7,0)):=by unfold Hi Qbi;rw[if_pos h]
 have hs:=JJ l;have d1:decide (4096<(l.length:Int))=true:=zG zo;clear h;go_enter func32,ntmps32;go_wp2;go_ret3;rw[HR.o];exact⟨_,rfl,World.ownsRow_nil _ _ _ _,zO⟩
def Qij:(prog.info? 134).map (λi=>(i.zero,i.size,i.bytes))=some (some (.agg #[Iv 0,Em,Iv 0,Iv 0]),4,40):=zk
def Jjr(l:By)(w:World)(h:l.length<=4096)(hL:Laid w):Calls prog 32 #[Sv l] w (Qec (Qbi l) w):=by
 have HR:Hi (Qbi l=match sc 0 l with|.ok ts=>(ts,0,0)|.err k=>([],2,(k:Nat))):=by unfold Hi Qbi;rw[if_neg zo]
 have hs:=JJ l;have d1:decide (4096<(l.length:Int))=false:=zH zo;obtain⟨i0,hi,qA,rA,nA⟩:=info_parts Qij;go_enter func32,ntmps32;go_wp2_with fail;refine(Jdx w).mono ?_;rintro e w1 ⟨rfl,hb1⟩;have g0:(w1.alloc (.cells Tryz.zeroCells131 131)).heap[w1.heap.size]?=some (.cells (tab zf) 131 (0,0)):=by rw[zQ,Jbo]
 have G0:=Zh g0;clear g0;go_wp2_with (refine wpList_store_row rfl 131 (.tmp 5) (.tmp 14) rfl w1.heap.size (tab QbV) rfl rfl 131 (tab zf) G0.o (by rw[Ko];exact QeS) (by rw[Ko,Ko]) (JgL _) ?_);obtain⟨B,dA⟩:∃B,w1.heap.size=B:=⟨_,rfl⟩
 have hbW:Below w.heap.size w ((w1.alloc (.cells Tryz.zeroCells131 131)).setRow w1.heap.size (tab QbV)):=below_setRow (hb1.alloc hb1.size _) hb1.size _;have gB:((w1.alloc (.cells Tryz.zeroCells131 131)).setRow w1.heap.size (tab QbV)).heap[B]?=some (.cells (tab QbV) 131 (0,0)):=by rw[<- dA];exact setRow_heap _ _ (tab zf) _ _ _ G0.o
 have xB:w.heap.size<=B:=by rw[<- dA];exact hb1.size
 generalize (w1.alloc (.cells Tryz.zeroCells131 131)).setRow w1.heap.size (tab QbV)=W2 at *;rw[dA];clear dA G0 hb1;go_loopw [6,7] (λv6 v7 wr=>∃(us:List Tok) (k:Nat),k<=l.length/\v7=Iv k/\us.length<=k/\wr.ownsRow w.heap.size 134 4 v6 us.length (QaO us)/\wr.heap[B]?=some (.cells (tab QbV) 131 (0,0))/\Below w.heap.size w wr/\Hi (sc 0 l=(sc k (l.drop k)).prep us)) λ_ v7 _=>l.length-(intOf v7).toNat
 case atStart=>exact⟨[],0,by omega,rfl,by simp,World.ownsRow_nil _ _ _ _,gB,hbW,by unfold Hi;rw[Jjq];rfl⟩
 case round=>
  obtain⟨us,k,hk,rfl,tA,xA,gB,zA,HS⟩:=hrel;have hA:=λ(j:Nat)=>cell_of_row wr B j _ _ _ gB
  obtain⟨va,vc,rfl⟩:=Jv xA
  by_cases hlt:k<l.length
  ·have hg:=JlD l hlt;have hx:l[k].toNat<256:=l[k].toNat_lt;have yA:=hA l[k].toNat;rw[YN _ hx]at yA;clear hA;have HD:=Zh (List.drop_eq_getElem_cons hlt);obtain⟨c,eA⟩:∃c,l[k]=c:=⟨_,rfl⟩
   rw[eA]at HD hg yA hx
   cases hsp:Qft c with
   |true=>
    have hc1:=Jlc.1 hsp;rw[hc1]at yA;have H:Hi (sc 0 l=(sc (k+1) (l.drop (k+1))).prep us):=by unfold Hi;rw[HS.o,HD.o,Jjo k _ hsp]
    have HO:=Zh xA;have HB:=Zh gB;clear hc1 eA HS xA gB;generalize c.toNat=x at *;go_wp2;go_roundw
    case rel=>exact⟨us,k+1,by omega,by go_num,by omega,HO.o,HB.o,zA,H⟩
    case measure=>simp[intOf];omega
   |false=>
    have hc1:((QbV c.toNat:Nat):Int)≠1:=λh=>by
     have h':QbV c.toNat=1:=zo;rw[Jlc.2 h']at hsp;cases hsp
    have e1:(((QbV c.toNat:Nat):Int)==1)=false:=zM hc1;have yB:(bs l).extract k l.length=bs (c::l.drop (k+1)):=by rw[Va,List.take_of_length_le zq,HD.o]
    have hdl:(c::l.drop (k+1)).length<=4096:=zr;have gA:Qdz wr B:=λi hi=>by rw[cell_of_row _ _ _ _ _ _ gB,YN _ hi]
    have cA:=(Array.getElem?_eq_some_iff.1 gB).1
    cases ht:QcH (c::l.drop (k+1)) with
    |none=>
     have cT:=JfI B wr gA cA zo (hL.below zA) ht;have H:Hi (Qbi l=([],2,((k:Nat):Int))):=by unfold Hi;rw[HR.o,HS.o,HD.o,Jbl k _ hsp ht];rfl
     clear hc1 eA HS xA gB gA;generalize QbV c.toNat=cn at *;generalize c.toNat=x at *;go_wp2_with fail;refine(Calls.mono cT ?_);rintro e w3 ⟨fa,fb,fd,fm,fx,rfl,aA⟩;have hbx:=zA.trans (aA.mono zA.size);clear aA cT;go_wp2_with fail;go_ret3;rw[H.o];exact⟨_,rfl,World.ownsRow_nil _ _ _ _,hbx.alloc hbx.size _⟩
    |some q=>
     obtain⟨t,n⟩:=q;have hw:=JbW ht;have cT:=JfH B wr gA cA zo (hL.below zA) ht
     have H:Hi (sc 0 l=(sc (k+n) (l.drop (k+n))).prep (us++[{ t with off:=(k:Int) }])):=by
      unfold Hi;rw[HS.o,HD.o,Jbm k _ hsp ht,JgP,<- HD.o,List.drop_drop]
     have hn:k+n<=l.length:=by
      have h1:=hw.2.2.1;rw[<- HD.o,List.length_drop]at h1;omega
     have hn1:=hw.2.1;obtain⟨tk,tt,tn,to⟩:=t;have HO:=Zh xA;have HB:=Zh gB;clear hc1 eA HS xA gB gA hw ht;generalize QbV c.toNat=cn at *;generalize c.toNat=x at *;go_wp2_with fail;refine(Calls.mono cT ?_);rintro e w3 ⟨rfl,aA⟩;have uA:=JX HO.o aA;have iA:=Zh ((aA.block _ cA).trans HB.o);have hbx:=zA.trans (aA.mono zA.size);have kA:B<w3.heap.size:=Nat.lt_of_lt_of_le cA aA.size;clear aA cT HO HB;have vA:=Zh uA;clear uA;have jA:us.length+1<=5000:=zo;go_wp2_with (at_builtin;refine wpList_append_own _ rfl _ _ 84 rfl w.heap.size 134 i0 (.agg #[Iv 0,Em,Iv 0,Iv 0]) 4 40 underlying84 hi qA rA nA rfl zp _ _ _ rfl ((vA.o.alloc _).alloc _) ⟨w3.heap.size+1,0,none⟩ 1 1 [Iv tk,Sv tt,Iv tn,Iv (k:Nat)] rfl rfl ?c1 ?c2 ?c3 ?c4 ?c5 ?_)
     case c1=>
      intro j u hj;rw[JaA];simpa using hj
     case c2=>intro u hu;simp at hu;rcases hu with rfl|rfl|rfl|rfl<;>rfl
     case c3=>unfold maxLen;omega
     case c4=>omega
     case c5=>simp;exact Nat.le_trans hbx.size zo
     intro v' w' hown' hgrow _;have bA:=(hbx.alloc hbx.size (.cells #[Iv tk,Sv tt,Iv tn,Iv (k:Nat)] 134)).alloc (by simp;exact Nat.le_trans hbx.size zo) (.cells #[Iv tk,Sv tt,Iv tn,Iv (k:Nat)] 134);have hsz:=bA.size;have mA:=bA.grown hgrow hsz (ZG vA.o)
     have sA:((w3.alloc (.cells #[Iv tk,Sv tt,Iv tn,Iv (k:Nat)] 134)).alloc (.cells #[Iv tk,Sv tt,Iv tn,Iv (k:Nat)] 134)).heap[B]?=some (.cells (tab QbV) 131 (0,0)):=by
      rw[heap_alloc_old _ _ zr,heap_alloc_old _ _ kA];exact iA.o
     have HBB:=Zh ((hgrow.block B zr λe=>JlG vA.o iA.o zp e.symm).trans sA)
     have HOW:Hi (w'.ownsRow w.heap.size 134 4 v' (us++[(⟨tk,tt,tn,(k:Nat)⟩:Tok)]).length (QaO (us++[(⟨tk,tt,tn,(k:Nat)⟩:Tok)]))):=by
      unfold Hi;rw[List.length_append,Vv];exact hown'
     clear hown' hgrow bA hsz sA vA iA;go_wp2;go_roundw
     case rel=>exact⟨us++[(⟨tk,tt,tn,(k:Nat)⟩:Tok)],k+n,by omega,by go_num,by simp;omega,HOW.o,HBB.o,mA,H⟩
     case measure=>simp[intOf];omega
  ·have pA:k=l.length:=zo
   have H:Hi (Qbi l=(us++[⟨4,[],0,(l.length:Nat)⟩],0,0)):=by
    unfold Hi;rw[HR.o,HS.o,pA,List.drop_length,JeC];rfl
   subst pA;have vA:=Zh xA;clear xA gB hA HS;have jA:us.length+1<=5000:=zo;go_wp2_with (at_builtin;refine wpList_append_own _ rfl _ _ 84 rfl w.heap.size 134 i0 (.agg #[Iv 0,Em,Iv 0,Iv 0]) 4 40 underlying84 hi qA rA nA rfl zp _ _ _ rfl (vA.o.alloc _) ⟨wr.heap.size,0,none⟩ 1 1 [Iv 4,Em,Iv 0,Iv (l.length:Nat)] rfl rfl ?d1 ?d2 ?d3 ?d4 ?d5 ?_)
   case d1=>
    intro j u hj;rw[Kw];simpa using hj
   case d2=>intro u hu;simp at hu;rcases hu with rfl|rfl|rfl|rfl<;>rfl
   case d3=>unfold maxLen;omega
   case d4=>omega
   case d5=>simp;exact Nat.le_trans zA.size zo
   intro v' w' hown' hgrow _;have bA:=zA.alloc zA.size (.cells #[Iv 4,Em,Iv 0,Iv (l.length:Nat)] 134);have mA:=bA.grown hgrow bA.size (ZG vA.o)
   have HOW:Hi (w'.ownsRow w.heap.size 134 4 v' (us++[(⟨4,[],0,(l.length:Nat)⟩:Tok)]).length (QaO (us++[(⟨4,[],0,(l.length:Nat)⟩:Tok)]))):=by
    unfold Hi;rw[List.length_append,Vv];exact hown'
   clear hown' hgrow bA vA;go_wp2_with fail;go_ret3;rw[H.o];exact⟨_,rfl,HOW.o,mA⟩
def JeD(l:By)(w:World)(hl:l.length<=281474976710655)(hL:Laid w):Calls prog 32 #[Sv l] w (Qec (Qbi l) w):=by
 by_cases h:4096<l.length
 ·exact JgQ l w h hl
 ·exact Jjr l w zo hL
structure Chg(S:List Nat)(w w':World):Prop where
 os:w'.os=w.os
 tape:w'.tape=w.tape
 output:w'.output=w.output
 size:w.heap.size<=w'.heap.size
 block:∀k,k<w.heap.size->k∉S->w'.heap[k]?=w.heap[k]?
section
variable {S S':List Nat} {a w w' w1:World}
def Chg.refl(S:List Nat)(w:World):Chg S w w:=⟨rfl,rfl,rfl,Nat.le_refl _,λ_ _ _=>rfl⟩
def Chg.trans(h:Chg S w w1)(k:Chg S w1 w'):Chg S w w':=
 ⟨k.os.trans h.os,k.tape.trans h.tape,k.output.trans h.output,Nat.le_trans h.size k.size,λi hi hn=>(k.block i (Nat.lt_of_lt_of_le hi h.size) hn).trans (h.block i hi hn)⟩
def Chg.mono(h:Chg S w w')(hs:∀k,k∈S->k∈S'\/w.heap.size<=k):Chg S' w w':=
 ⟨h.os,h.tape,h.output,h.size,λk hk hn=>h.block k hk λhm=>by rcases hs k hm with h1|h1;exact hn h1;omega⟩
def Chg.step(h:Chg S w w1)(k:Chg S' w1 w')(hs:∀b,b∈S'->b∈S\/w.heap.size<=b):Chg S w w':=
 ⟨k.os.trans h.os,k.tape.trans h.tape,k.output.trans h.output,Nat.le_trans h.size k.size,λi hi hn=>
  (k.block i (Nat.lt_of_lt_of_le hi h.size) λhm=>by rcases hs i hm with h1|h1;exact hn h1;omega).trans (h.block i hi hn)⟩
def Chg.drew(h:Chg S a w):Chg S a w.drew:=⟨h.os,h.tape,h.output,h.size,h.block⟩
def Chg.alloc(h:Chg S a w)(o:Obj):Chg S a (w.alloc o):=
 h.trans ⟨rfl,rfl,rfl,by simp,λk hk _=>Below.heap_alloc _ _ _ hk⟩
def Chg.setCell(h:Chg S a w){p:Addr}(hp:p.block∈S\/a.heap.size<=p.block)(u:Value):Chg S a (w.setCell p u):=
 h.step (S':=[p.block]) ⟨rfl,rfl,rfl,by simp[World.setCell],λk _ hn=>Below.heap_setCell _ _ _ _ (by simpa using hn)⟩ (by simpa using hp)
def Chg.of_below(h:Below w.heap.size w w')(S:List Nat):Chg S w w':=⟨h.os,h.tape,h.output,h.size,λk hk _=>h.block k hk⟩
def Chg.of_grownBy{g:Nat}(h:w.grownBy w' (some g)):Chg [g] w w':=⟨h.os,h.tape,h.output,h.size,λk hk hn=>h.block k hk (by simpa using hn)⟩
def JaD{p:Addr}{v:Value}(h:w.cell? p=some v):p.block<w.heap.size:=World.block_lt_of_cell? w p h
def Jb{k:Nat}{o:Obj}(h:w.heap[k]?=some o):k<w.heap.size:=(Array.getElem?_eq_some_iff.1 h).1
def Chg.heap_some{k:Nat}{o:Obj}(h:Chg S w w')(hn:k∉S)(hc:w.heap[k]?=some o):w'.heap[k]?=some o:=
 (h.block k (Jb hc) hn).trans hc
def Chg.cell_some{p:Addr}{v:Value}(h:Chg S w w')(hn:p.block∉S)(hc:w.cell? p=some v):w'.cell? p=some v:=
 (World.cell?_of_block (w:=w) (h.block p.block (JaD hc) hn)).trans hc
end
def Ja{w:World}{g:Nat}{cs:Array Value}{t:TypeId}{fr:Nat × Nat}(hg:w.heap[g]?=some (.cells cs t fr))(j:Nat):w.cell? ⟨g,j,none⟩=cs[j]?:=
 cell_of_row w g j cs t fr hg
def Jc{w:World}{g:Nat}{cs:Array Value}{t:TypeId}(hg:w.heap[g]?=some (.cells cs t (0,0)))(j:Nat):w.frozen? ⟨g,j,none⟩=false:=by
 simp[World.frozen?,hg]
def Jm{w:World}{g:Nat}{cs:Array Value}{t:TypeId}{fr:Nat × Nat}(hg:w.heap[g]?=some (.cells cs t fr))(j:Nat)(u:Value) :
  (w.setCell ⟨g,j,none⟩ u).heap[g]?=some (.cells (cs.setIfInBounds j u) t fr):=by
 simp[World.setCell,Array.getElem?_modify,hg]
def Ji{w:World}{g:Nat}{p:Addr}{o:Obj}(hg:w.heap[g]?=some o)(hn:g≠p.block)(u:Value):(w.setCell p u).heap[g]?=some o:=
 (Below.heap_setCell w p u g hn).trans hg
end Go.Proofs.YtfafpklefknomaaGreatDoor
