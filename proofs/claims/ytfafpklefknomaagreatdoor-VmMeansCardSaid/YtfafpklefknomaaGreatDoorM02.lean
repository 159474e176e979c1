import Derived.Test.YtfafpklefknomaaGreatDoorM01
open List(cons_append length_append mem_cons nil_append not_mem_nil)
open Nat(le_refl)
namespace Go.Proofs.YtfafpklefknomaaGreatDoor
open Go.ChangeShapes Go.WideShapes Go.ChangeAt Go.RowKit Go.Lib
open _root_.Go.Proofs.Tryz
set_option linter.all false
set_option maxRecDepth 100000
set_option maxHeartbeats 32000000
variable{S:List Nat}
def Jbu{W3 Wf:World}{lo rb:Nat}{kids:List An}{cs:Array Value}(G7:kids≠[])(hcs:cs.toList=Qdb kids)
  (hat:∀a∈kids,a.At W3) (hm:(Qak kids).Nodup/\∀b∈Qak kids,lo<=b/\b<W3.heap.size) (hC:Chg S W3 Wf) (hS:∀b∈S,b<lo\/b∉Qak kids)
  (hrow:Wf.heap[rb]?=some (.cells cs 127)) (fA:W3.heap.size<=rb) (hlo:lo<=W3.heap.size) (kk n:Int) (s:By) (o:Int) (c:Nat):
  (An.mk kk n s o rb c kids).At Wf/\Qce lo Wf.heap.size (An.mk kk n s o rb c kids):=by
 have hlt:=Jb hrow
 constructor
 ·unfold An.At;refine⟨λ_ j=>Jc hrow j,KN kids 0 (λj u hu=>?_) λa ha=>?_⟩
  ·rw[Nat.zero_mul,Nat.zero_add];exact KP hrow (by rw[hcs];exact hu)
  ·refine JK a (hat a ha) λb hb=>?_
   have xA:b∈Qak kids:=by
    clear hat hm hcs hrow hS G7
    induction kids with
    |nil=>cases ha
    |cons x l ih=>
     exact Qhu
   have H7:=hm.2 b xA
   exact hC.block b H7.2 λhs=>by
    rcases hS b hs with h|h
    ·omega
    ·exact h xA
 ·cases kids with
  |nil=>exact absurd rfl G7
  |cons x r=>
   unfold Qce foot;have e:Qak (x::r)=foot x++Qak r:=by rw[Qak]
   rw[e]at hm;refine⟨List.nodup_cons.2 ⟨λhx=>?_,hm.1⟩,λq hq=>?_⟩
   ·have:=(hm.2 _ hx).2;omega
   ·rcases List.mem_cons.1 hq with rfl|hq
    ·exact⟨by omega,hlt⟩
    ·have:=hm.2 q hq;exact⟨this.1,by omega⟩
variable{hi bx k2 e size k3:Nat}
def Jjw{lo:Nat}{a b:An}(h:Qdi lo hi [a,b]):((Qak [a,b]).Nodup/\∀q∈Qak [a,b],lo<=q/\q<hi)/\((Qak [b,a]).Nodup/\∀q∈Qak [b,a],lo<=q/\q<hi):=by
 have h1:=h.foot;refine⟨h1,?_⟩;simp only[Qak,List.append_nil]at *;exact⟨(List.perm_append_comm.nodup_iff).1 h1.1,λq hq=>h1.2 q (List.mem_append.2 (List.mem_append.1 hq).symm)⟩
structure Cm(p:Nat)(A:Option Addr)(C:Nat)(T:List Tok)(w:World)(k:Nat)(W:World)(lo:Nat)(n a b:An):Prop where
 pat:PAt W p A C T k
 nat:n.At W
 nmd:Qce lo W.heap.size n
 nlt:∀q∈foot n,q+1<W.heap.size
 at1:a.At W
 at2:b.At W
 fts:(Qak [b,a]).Nodup/\∀q∈Qak [b,a],lo<=q/\q+3<W.heap.size
 res:W.heap[w.heap.size]?=some (.cells (yj 0 0 Em 0 Nl) 127 (0,0))
 chg:Chg [p] w W
 low:w.heap.size<lo/\lo<=W.heap.size/\p<lo
variable{of:Int}{w6 W' w7:World}
def Cm.make{X:PR Nd}{f lv:Nat}{g:Nat}{p:Nat}{A:Option Addr}{C:Nat}{T:List Tok}{w:World}{lo:Nat}{W3 W4:World}{k4:Nat}{a b:An}{cs:Array Value}(h:LvI f lv of X p A C T w lo bx W3 k2 g a)
  (h4:W4.heap.size=W3.heap.size) (O1:Chg [p] W3 w6) (TA:b.At w6) (S9:Qce W4.heap.size w6.heap.size b) (X8:PAt w6 p A C T k4) (hp:p<w.heap.size) (hcs:cs.toList=Qdb [a,b]) (kk:Int) (B6 B7:Obj):
  Cm p A C T w k4 (((w6.alloc B6).alloc (.cells cs 127)).alloc B7) lo (.mk kk 0 [] a.off (w6.heap.size+1) 2 [a,b]) a b:=by
 have hb:yr w6 (((w6.alloc B6).alloc (.cells cs 127)).alloc B7):=((zO.alloc zP _).alloc zq _).alloc zr _;rw[h4]at S9;have uA:Qdi lo w6.heap.size [a,b]:=⟨W3.heap.size,h.lle,h.made,w6.heap.size,O1.size,S9,le_refl _⟩
 obtain⟨f1,f2⟩:=Jjw uA;obtain⟨l1,l2,l3,l4⟩:=h.low;have yA:lo<=w6.heap.size:=Nat.le_trans h.lle O1.size;have hsz:(((w6.alloc B6).alloc (.cells cs 127)).alloc B7).heap.size=w6.heap.size+3:=zq;have xA:a.At w6:=JaE h.at' h.made O1 zP λq hq=>by simp at hq;omega
 have hrow:(((w6.alloc B6).alloc (.cells cs 127)).alloc B7).heap[w6.heap.size+1]?=some (.cells cs 127):=by
  have h1:=zQ (w6.alloc B6) (.cells cs 127);rw[World.size_alloc]at h1;exact(Below.heap_alloc _ _ _ zq).trans h1
 have zA:Qce lo w6.heap.size a:=h.made.mono zP O1.size
 obtain⟨g1,g2⟩:=Jbu (S:=[]) zq hcs (λx hx=>by
  rcases List.mem_cons.1 hx with rfl|hx
  ·exact xA
  ·obtain rfl:x=b:=by simpa using hx
   exact TA) f1 (Chg.of_below hb []) zq hrow zo yA kk 0 [] a.off 2
 exact⟨X8.chg hb,g1,g2,λq hq=>by
  unfold foot at hq
  rcases List.mem_cons.1 hq with rfl|hq
  ·omega
  ·have:=(f1.2 q (by rw[Qak];exact hq)).2;omega,K1 xA zA hb zP,K1 TA S9 hb zP,⟨f2.1,λq hq=>⟨(f2.2 q hq).1,by have:=(f2.2 q hq).2;omega⟩⟩,(hb.block _ (Jb (O1.heap_some zr h.res))).trans (O1.heap_some zr h.res),(h.chg.trans O1).trans (Chg.of_below hb [p]),l1,by omega,by omega⟩
section
variable {p:Nat}{A:Option Addr}{C:Nat}{T:List Tok}{w W:World}{k lo nb:Nat}{n a b:An}{cs:Array Value}(h:Cm p A C T w k W lo n a b)(hp:p<w.heap.size)(hT:∀b o,A=some ⟨b,o,none⟩->b<w.heap.size)(hnb:nb+1=W.heap.size)(UA:nb≠w.heap.size)
include p A C T w W k lo nb n a b cs h hp hT hnb UA
def zAb{P:Prop}(h:P:=by
  exact h.chg.step h2 λq hq=>.inr (by simp only[mem_cons,not_mem_nil,or_false]at hq;omega)):P:=h
theorem Cm.swap(hcs:cs.toList=Qdb [b,a])(kk o:Int)(v v0 v1 v2 v3 v4:Value):
  ((W.setCell ⟨nb,4,none⟩ v).heap[w.heap.size]?=some (.cells (yj 0 0 Em 0 Nl) 127 (0,0)))/\(An.mk kk 0 [] o W.heap.size 2 [b,a]).At ((put5 (W.setCell ⟨nb,4,none⟩ v) w.heap.size v0 v1 v2 v3 v4).alloc (.cells cs 127))/\Qce w.heap.size ((put5 (W.setCell ⟨nb,4,none⟩ v) w.heap.size v0 v1 v2 v3 v4).alloc (.cells cs 127)).heap.size (An.mk kk 0 [] o W.heap.size 2 [b,a])/\PAt ((put5 (W.setCell ⟨nb,4,none⟩ v) w.heap.size v0 v1 v2 v3 v4).alloc (.cells cs 127)) p A C T k/\Chg [p] w ((put5 (W.setCell ⟨nb,4,none⟩ v) w.heap.size v0 v1 v2 v3 v4).alloc (.cells cs 127)):=by
 have hs:=h.chg.size;have hr:=Jb h.res;have hsz:(put5 (W.setCell ⟨nb,4,none⟩ v) w.heap.size v0 v1 v2 v3 v4).heap.size=W.heap.size:=by rw[Kl];simp[World.setCell]
 have h1:Chg [w.heap.size,nb] W (W.setCell ⟨nb,4,none⟩ v):=(Chg.refl _ W).setCell (.inl (by simp:nb∈[w.heap.size,nb])) (p:=⟨nb,4,none⟩) v;have h2:=(h1.trans (Kj (S:=[w.heap.size,nb]) (W:=W.setCell ⟨nb,4,none⟩ v) v0 v1 v2 v3 v4 (by simp:w.heap.size∈[w.heap.size,nb]))).alloc (.cells cs 127);have xA:=zQ (put5 (W.setCell ⟨nb,4,none⟩ v) w.heap.size v0 v1 v2 v3 v4) (.cells cs 127);rw[hsz]at xA;have hlo:=h.low
 obtain⟨g1,g2⟩:=Jbu zq hcs (λx hx=>by
  rcases List.mem_cons.1 hx with rfl|hx
  ·exact h.at2
  ·obtain rfl:x=a:=by simpa using hx
   exact h.at1) ⟨h.fts.1,λq hq=>⟨(h.fts.2 q hq).1,by have:=(h.fts.2 q hq).2;omega⟩⟩ h2 (λq hq=>by
  simp only[mem_cons,not_mem_nil,or_false]at hq
  rcases hq with rfl|rfl
  ·exact .inl hlo.1
  ·exact .inr λhm=>by have:=(h.fts.2 _ hm).2;omega) xA zP hlo.2.1 kk 0 [] o 2
 have yA:∀b o,A=some ⟨b,o,none⟩->nb≠b:=λb o e=>by have:=hT b o e;omega
 refine⟨?_,g1,g2.mono (Nat.le_of_lt hlo.1) zP,?_,?_⟩
 ·rw[Below.heap_setCell _ _ _ _ (by first|exact UA|exact Ne.symm UA)];exact h.res
 ·exact((h.pat.setFar zo yA 4 v).put5 (Ne.symm (Nat.ne_of_lt hp)) (λb o e=>by have:=hT b o e;omega) _ _ _ _ _).chg (zO.alloc zP _)
 ·exact zAb
theorem Cm.wrap(hcs:cs.toList=Qdb [n])(kk o:Int)(u0 u1 u2 u3 u4 v0 v1 v2 v3 v4:Value):
  ((put5 W nb u0 u1 u2 u3 u4).heap[w.heap.size]?=some (.cells (yj 0 0 Em 0 Nl) 127 (0,0)))/\(An.mk kk 0 [] o W.heap.size 1 [n]).At ((put5 (put5 W nb u0 u1 u2 u3 u4) w.heap.size v0 v1 v2 v3 v4).alloc (.cells cs 127))/\Qce w.heap.size ((put5 (put5 W nb u0 u1 u2 u3 u4) w.heap.size v0 v1 v2 v3 v4).alloc (.cells cs 127)).heap.size (An.mk kk 0 [] o W.heap.size 1 [n])/\PAt ((put5 (put5 W nb u0 u1 u2 u3 u4) w.heap.size v0 v1 v2 v3 v4).alloc (.cells cs 127)) p A C T k/\Chg [p] w ((put5 (put5 W nb u0 u1 u2 u3 u4) w.heap.size v0 v1 v2 v3 v4).alloc (.cells cs 127)):=by
 have hs:=h.chg.size;have hr:=Jb h.res;have hsz:(put5 (put5 W nb u0 u1 u2 u3 u4) w.heap.size v0 v1 v2 v3 v4).heap.size=W.heap.size:=by rw[Kl,Kl]
 have h1:Chg [w.heap.size,nb] W (put5 W nb u0 u1 u2 u3 u4):=Kj (S:=[w.heap.size,nb]) (W:=W) u0 u1 u2 u3 u4 (by simp:nb∈[w.heap.size,nb]);have h2:=(h1.trans (Kj (S:=[w.heap.size,nb]) (W:=put5 W nb u0 u1 u2 u3 u4) v0 v1 v2 v3 v4 (by simp:w.heap.size∈[w.heap.size,nb]))).alloc (.cells cs 127);have xA:=zQ (put5 (put5 W nb u0 u1 u2 u3 u4) w.heap.size v0 v1 v2 v3 v4) (.cells cs 127);rw[hsz]at xA;have hlo:=h.low
 obtain⟨g1,g2⟩:=Jbu zq hcs (λx hx=>(by simpa using hx:x=n) ▸ h.nat) ⟨by simpa[Qak] using h.nmd.1,λq hq=>by
  have zA:q∈foot n:=by simpa[Qak] using hq
  exact h.nmd.2 q zA⟩ h2 (λq hq=>by
  simp only[mem_cons,not_mem_nil,or_false]at hq
  rcases hq with rfl|rfl
  ·exact .inl hlo.1
  ·exact .inr λhm=>by have:=h.nlt _ (by simpa[Qak] using hm);omega) xA zP hlo.2.1 kk 0 [] o 1
 have yA:∀b o,A=some ⟨b,o,none⟩->nb≠b:=λb o e=>by have:=hT b o e;omega
 refine⟨?_,g1,g2.mono (Nat.le_of_lt hlo.1) zP,?_,?_⟩
 ·exact((Kj (S:=[nb]) (W:=W) u0 u1 u2 u3 u4 (by simp:nb∈[nb])).block _ hr (by simp;exact Ne.symm UA)).trans h.res
 ·exact((h.pat.put5 zo yA _ _ _ _ _).put5 (Ne.symm (Nat.ne_of_lt hp)) (λb o e=>by have:=hT b o e;omega) _ _ _ _ _).chg (zO.alloc zP _)
 ·exact zAb
end
def CmD(tx:By)(tn tf kk:Int):Prop:=
 ((tx==[62])=false/\(tx==[62,61])=false/\(tx==[33,61])=false/\∀x y:Nd,QdV ⟨3,tx,tn,tf⟩ kk x y=.mk kk 0 [] x.off [x,y])\/
 ((tx==[62])=true/\∀x y:Nd,QdV ⟨3,tx,tn,tf⟩ kk x y=.mk kk 0 [] x.off [y,x])\/
 ((tx==[62])=false/\(tx==[62,61])=true/\∀x y:Nd,QdV ⟨3,tx,tn,tf⟩ kk x y=.mk kk 0 [] x.off [y,x])\/
 ((tx==[62])=false/\(tx==[62,61])=false/\(tx==[33,61])=true/\∀x y:Nd,QdV ⟨3,tx,tn,tf⟩ kk x y=.mk 7 0 [] x.off [.mk kk 0 [] x.off [x,y]])
def ZK(a:An):a.nd.off=a.off:=by cases a;rfl
variable{A:Option Addr}{lo p C k n:Nat}{T r:List Tok}{w W:World}{a:An}
def Cm.fin{n b:An}(h:Cm p A C T w k W lo n a b)(hp:p<w.heap.size)(hT:∀b o,A=some ⟨b,o,none⟩->b<w.heap.size)(v0 v1 v2 v3 v4:Value):
  n.At (put5 W w.heap.size v0 v1 v2 v3 v4)/\Qce w.heap.size (put5 W w.heap.size v0 v1 v2 v3 v4).heap.size n/\PAt (put5 W w.heap.size v0 v1 v2 v3 v4) p A C T k/\Chg [p] w (put5 W w.heap.size v0 v1 v2 v3 v4):=by
 have hc:=Kj (S:=[w.heap.size]) (W:=W) v0 v1 v2 v3 v4 (by simp:w.heap.size∈[w.heap.size]);refine⟨JaE h.nat h.nmd hc zP λb hb=>by have:=h.low.1;simp at hb;omega,?_,h.pat.put5 (Ne.symm (Nat.ne_of_lt hp)) (λb o e=>by have:=hT b o e;omega) _ _ _ _ _,h.chg.step hc λb hb=>.inr (by simp at hb;omega)⟩;rw[Kl];exact h.nmd.mono (Nat.le_of_lt h.low.1) zP
def Jnx(f:Nat)(r:List Tok):pM (f+1) .cmp r=(pM f (.level 5) r).bind λa r1=>match Qeh (hd r1) with|none=>.ok a r1|some k=>(pM f (.level 5) r1.tail).bind λb r2=>.ok (QdV (hd r1) k a b) r2:=by rw[pM];rfl
def QjX{P:Prop}(h:P:=by
  clear hcn;go_wp2;obtain⟨e0,e1,e2,e3,e4⟩:=l9.o.swap (cs:=(yi b.kind b.num b.name b.off yA yn yc a.kind a.num a.name a.off xA xn xc)) D3.o W6.o (by rw[o7.o]) UA.2 (by simp[Qdb,R6.o,j9.o]) kk a.off _ _ _ _ _ _;refine bodyPost_ret (v:=.agg (Qaa (.mk kk 0 [] a.off W7.heap.size 2 [b,a]))) (results_cell_row rfl _ _ w.heap.size 127 _ (0,0) _ rfl (V6 _ _ _ _ _ _ e0) underlying127 rfl Qau) rfl ?_;rw[HR.o,S5.o,RD.o,ZK]
  exact⟨_,rfl,rfl,e1,e2,⟨k4,rfl,e3⟩,e4⟩):P:=h
def ux1{P:Prop}(h:P:=by
  have S6:pM f (.level 5) (T.drop (k2+1))≠.out:=KB (by rw[<-L3.o];exact N3.o);have I7:Hi (Chg [p] W3 (W3.setCell ⟨p,1,none⟩ (Iv ((k2:Int)+1)))):=(Chg.of_below (Below.refl W3.heap.size W3) [p]).setCell (.inl (by simp:p∈[p])) (p:=⟨p,1,none⟩) _;have O7:Hi (PAt (W3.setCell ⟨p,1,none⟩ (Iv ((k2:Int)+1))) p A C T (k2+1)):=HI.o.pat.next hk1;go_wp2_with fail;refine NdP.call (I1 (k2+1) _ O7.o S6) S6 (λq _ hx O1=>by exact⟨rfl,by rw[HR.o,L3.o,hx];exact⟨rfl,(HI.o.chg.trans I7.o).trans O1⟩⟩) λb w6 k4 yA yn yc hx Q4 B=>?_
  obtain⟨TA,S9,X8,O1⟩:=B;have j9:=Zh Q4;have S5:Hi (X=.ok (QdV ⟨3,tx,tn,tf⟩ kk a.nd b.nd) (T.drop k4)):=by rw[Hi,L3.o,hx];rfl
  have kF:=I7.o.trans O1;go_upto_region 18 with fail;have eG:=Cm.make (cs:=(yi a.kind a.num a.name a.off xA xn xc b.kind b.num b.name b.off yA yn yc)) HI.o (by simp[World.setCell]) kF TA S9 X8 D3.o (by simp[Qdb,R6.o,Q4]) kk (.cells (za b.kind b.num b.name b.off yA yn yc) 127) (.cells (yk kk 0 (.string ⟨#[]⟩) a.off (some ⟨w6.heap.size+1,0,none⟩) 2 2) 127);have WA:=kF.heap_some (by simp;omega) HI.o.box;rw[R6.o]at WA;have lF:=kF.heap_some (by simp;omega) HT.o;have QB:yr w6 (w6.alloc (.cells (za b.kind b.num b.name b.off yA yn yc) 127)):=zO.alloc (Nat.le_refl _) _;have X4:=(QB.block _ (Jb WA)).trans WA;have XB:=(QB.block _ (Jb lF)).trans lF;have BC:=zQ w6 (.cells (za b.kind b.num b.name b.off yA yn yc) 127);have DG:bx<w6.heap.size/\tb<w6.heap.size:=⟨Jb WA,Jb lF⟩
  have b5:=Jl X4;have z5:=Jl BC;have l9:=Zh eG;have N2:=Zh X4;have A4:=Zh BC;have fG:=Zh XB;have DC:=Zh DG;have HS6:Hi ((w6.alloc (.cells (za b.kind b.num b.name b.off yA yn yc) 127)).heap.size=w6.heap.size+1):=by rw[Hi,World.size_alloc]
  clear hx TA S9 X8 O1 Q4 kF eG WA lF QB X4 XB BC S6 L3 HI HT O7 I7 I1;go_upto_region 19 with fail;have mF:Below (w6.heap.size+1) (w6.alloc (.cells (za b.kind b.num b.name b.off yA yn yc) 127)) (((w6.alloc (.cells (za b.kind b.num b.name b.off yA yn yc) 127)).alloc (.cells (yi a.kind a.num a.name a.off xA xn xc b.kind b.num b.name b.off yA yn yc) 127)).alloc (.cells (yk kk 0 (.string ⟨#[]⟩) a.off (some ⟨w6.heap.size+1,0,none⟩) 2 2) 127)):=(zO.alloc (by simp) _).alloc (by simp) _
  have GH:(((w6.alloc (.cells (za b.kind b.num b.name b.off yA yn yc) 127)).alloc (.cells (yi a.kind a.num a.name a.off xA xn xc b.kind b.num b.name b.off yA yn yc) 127)).alloc (.cells (yk kk 0 (.string ⟨#[]⟩) a.off (some ⟨w6.heap.size+1,0,none⟩) 2 2) 127)).heap[w6.heap.size+1+1]?=some (.cells (yk kk 0 (.string ⟨#[]⟩) a.off (some ⟨w6.heap.size+1,0,none⟩) 2 2) 127 (0,0)):=by
   have h1:=zQ ((w6.alloc (.cells (za b.kind b.num b.name b.off yA yn yc) 127)).alloc (.cells (yi a.kind a.num a.name a.off xA xn xc b.kind b.num b.name b.off yA yn yc) 127)) (.cells (yk kk 0 (.string ⟨#[]⟩) a.off (some ⟨w6.heap.size+1,0,none⟩) 2 2) 127);rw[World.size_alloc,World.size_alloc]at h1;exact h1
  have SD:(((w6.alloc (.cells (za b.kind b.num b.name b.off yA yn yc) 127)).alloc (.cells (yi a.kind a.num a.name a.off xA xn xc b.kind b.num b.name b.off yA yn yc) 127)).alloc (.cells (yk kk 0 (.string ⟨#[]⟩) a.off (some ⟨w6.heap.size+1,0,none⟩) 2 2) 127)).heap.size=w6.heap.size+1+1+1:=by rw[World.size_alloc,World.size_alloc,World.size_alloc]
  have EG:Hi ((((w6.alloc (.cells (za b.kind b.num b.name b.off yA yn yc) 127)).alloc (.cells (yi a.kind a.num a.name a.off xA xn xc b.kind b.num b.name b.off yA yn yc) 127)).alloc (.cells (yk kk 0 (.string ⟨#[]⟩) a.off (some ⟨w6.heap.size+1,0,none⟩) 2 2) 127)).heap[bx]?=_):=(mF.block bx (by have:=DC.o;omega)).trans N2.o;have FG:Hi ((((w6.alloc (.cells (za b.kind b.num b.name b.off yA yn yc) 127)).alloc (.cells (yi a.kind a.num a.name a.off xA xn xc b.kind b.num b.name b.off yA yn yc) 127)).alloc (.cells (yk kk 0 (.string ⟨#[]⟩) a.off (some ⟨w6.heap.size+1,0,none⟩) 2 2) 127)).heap[w6.heap.size]?=_):=(mF.block w6.heap.size (Nat.lt_succ_self _)).trans A4.o;have HT8:Hi ((((w6.alloc (.cells (za b.kind b.num b.name b.off yA yn yc) 127)).alloc (.cells (yi a.kind a.num a.name a.off xA xn xc b.kind b.num b.name b.off yA yn yc) 127)).alloc (.cells (yk kk 0 (.string ⟨#[]⟩) a.off (some ⟨w6.heap.size+1,0,none⟩) 2 2) 127)).heap[tb]?=_):=(mF.block tb (by have:=DC.o;omega)).trans fG.o;have HN7:=Zh GH;have o7:=Zh SD;clear SD b5 z5 GH mF N2 A4 fG HS6;generalize (((w6.alloc (.cells (za b.kind b.num b.name b.off yA yn yc) 127)).alloc (.cells (yi a.kind a.num a.name a.off xA xn xc b.kind b.num b.name b.off yA yn yc) 127)).alloc (.cells (yk kk 0 (.string ⟨#[]⟩) a.off (some ⟨w6.heap.size+1,0,none⟩) 2 2) 127))=W7 at*;generalize w6.heap.size=s6 at*;have ct:=Ja HT8.o 1;simp only[ZD,ZE,ZF]at ct;have hn:=HN7.o;have M1:=l9.o.res;have bc:=Jl hn;have zc:=Jl M1;have yf:=Js M1;have gf:=Js hn;have pc5:=Jl EG.o;have qc5:=Jl FG.o;have X5:=Zh M1;have hzl:=Jb M1;have hnl:=Jb hn;have UA:w.heap.size≠s6+1+1/\s6+1+1≠w.heap.size:=by have:=l9.o.low;have:=DC.o;omega
  clear hn M1
  rcases TD.o with⟨e3,e5,e1,hcn⟩|⟨e3,hcn⟩|⟨e3,e5,hcn⟩|⟨e3,e5,e1,hcn⟩
  ·have RD:=Zh hcn;clear hcn;go_wp2;refine bodyPost_ret (v:=.agg (Qaa (.mk kk 0 [] a.off (s6+1) 2 [a,b]))) (results_cell_row rfl _ _ w.heap.size 127 _ (0,0) _ rfl (Qcv _ _ _ _ _ X5.o) underlying127 rfl Qau) rfl ?_;rw[HR.o,S5.o,RD.o,ZK];obtain⟨e1,e2,e3,e4⟩:=l9.o.fin D3.o W6.o _ _ _ _ _;exact⟨_,rfl,rfl,e1,e2,⟨k4,rfl,e3⟩,e4⟩
  ·have RD:=Zh hcn;exact QjX
  ·have RD:=Zh hcn;exact QjX
  ·have RD:=Zh hcn;clear hcn;go_wp2;obtain⟨e0,e1,e2,e3,e4⟩:=l9.o.wrap (cs:=(yk kk 0 (.string ⟨#[]⟩) a.off (some ⟨s6+1,0,none⟩) 2 2)) D3.o W6.o (by rw[o7.o]) UA.2 rfl 7 a.off _ _ _ _ _ _ _ _ _ _;refine bodyPost_ret (v:=.agg (Qaa (.mk 7 0 [] a.off W7.heap.size 1 [.mk kk 0 [] a.off (s6+1) 2 [a,b]]))) (results_cell_row rfl _ _ w.heap.size 127 _ (0,0) _ rfl (V6 _ _ _ _ _ _ e0) underlying127 rfl Qau) rfl ?_;rw[HR.o,S5.o,RD.o,ZK]
   exact⟨_,rfl,rfl,e1,e2,⟨k4,rfl,e3⟩,e4⟩):P:=h
def QjW{P:Prop}(h:P:=by
  have C0:=Zh (λv0 v1 v2 v3 v4=>HI.o.fin D3.o W6.o v0 v1 v2 v3 v4);have R0:=HI.o.box;have M1:=HI.o.res;rw[R6.o]at R0;have b5:=Jl R0;have z5:=Jl M1;have y5:=Js M1;have X5:=Zh M1;clear R0 M1 HI;go_wp2;refine bodyPost_ret (v:=.agg (Qaa a)) (by rw[R6.o];exact results_cell_row rfl _ _ w.heap.size 127 _ (0,0) _ rfl (Qcv _ _ _ _ _ X5.o) underlying127 rfl Qau) rfl ?_;rw[HR.o,L3.o];obtain⟨e1,e2,e3,e4⟩:=C0.o _ _ _ _ _
  exact⟨_,rfl,rfl,e1,e2,⟨k2,rfl,e3⟩,e4⟩):P:=h
def zAc{P:Prop}(h:P:=by
  go_upto_region 16 with fail;clear e0 e1 e2 e3 e4 e5;generalize (13:Int)=kk at*;exact ux1):P:=h
def zAd{P:Prop}(h:P:=by
  go_upto_region 16 with fail;clear e0 e1 e2 e3 e4 e5;generalize (14:Int)=kk at*;exact ux1):P:=h
def zAe{P:Prop}(h:P:=by
  go_upto_region 16 with fail;clear e0 e1 e2 e3 e4 e5;generalize (15:Int)=kk at*;exact ux1):P:=h
def JlO(f p:Nat)(A:Option Addr)(C:Nat)(T:List Tok)
  (I1:∀k w,PAt w p A C T k->pM f (.level 5) (T.drop k)≠.out->Calls prog 136 #[Pt p,Iv 5] w (NdP p A C T w (pM f (.level 5) (T.drop k))))
  (k:Nat) (w:World) (h:PAt w p A C T k) (hne:pM (f+1) .cmp (T.drop k)≠.out):
  Calls prog 158 #[Pt p] w (NdP p A C T w (pM (f+1) .cmp (T.drop k))):=by
 obtain⟨X,hX⟩:=yt (pM (f+1) .cmp (T.drop k))
 have aA:=Jnx f (T.drop k);rw[hX]at hne aA |-;obtain⟨R,hR⟩:=yt (NdP p A C T w X)
 rw[hR];have HR:Hi (R=NdP p A C T w X):=hR.symm;have N3:=Zh hne;have hZ:=zQ w (.cells (yj 0 0 Em 0 Nl) 127);have hB:=(Below.refl w.heap.size w).alloc zP (.cells (yj 0 0 Em 0 Nl) 127);have HP:=Zh (h.chg hB);have HZ:=Zh hZ;have HB:=Zh hB;have D3:=Zh h.chg1;have W6:=Zh h.tokLt;have vA:=Zh aA;have D4:pM f (.level 5) (T.drop k)≠.out:=KB (by rw[<-vA.o];exact hne);have I6:w.heap.size≠p:=by have:=D3.o;omega
 have bA:Hi (w.heap.size<(w.alloc (.cells (yj 0 0 Em 0 Nl) 127)).heap.size):=by rw[Hi,World.size_alloc];exact Nat.lt_succ_self _
 clear h hne hR hZ hB aA hX;go_enter func158,ntmps158;go_wp2_with fail;refine(I1 k _ HP.o D4).mono ?_;intro e w2 h2
 cases hx:pM f (.level 5) (T.drop k) with
 |out=>exact absurd hx D4
 |bad q=>
  rw[hx]at h2;obtain⟨rfl,S1⟩:=h2;refine⟨rfl,?_⟩;rw[HR.o,vA.o,hx];exact⟨rfl,(Chg.of_below HB.o [p]).trans S1⟩
 |ok nd r=>
 rw[hx]at h2;obtain⟨a,hA,rfl,hat,P7,⟨k2,hr,F1⟩,S1⟩:=h2;subst hA hr;have hzz:=S1.heap_some (by simp;exact I6) HZ.o;have zA:yr w2 (w2.alloc (.cells (Qaa a) 127)):=zO.alloc zP _;have yA:Hi (LvI 0 0 0 .out p A C T w (w.alloc (.cells (yj 0 0 Em 0 Nl) 127)).heap.size w2.heap.size (w2.alloc (.cells (Qaa a) 127)) k2 0 a):=⟨rfl,le_refl _,F1.chg zA,K1 hat P7 zA zP,P7.mono zP zq,zQ _ _,(zA.block _ (Jb hzz)).trans hzz,((Chg.of_below HB.o [p]).trans S1).alloc _,⟨bA.o,by have:=Jb hzz;omega,by have:=F1.chg1;have:=D3.o;have:=S1.size;have:=bA.o;omega,by have:=Jb hzz;omega⟩,by have:=S1.size;simp;simp at this;omega,λhm=>by have:=(P7.2 _ hm).2;omega⟩
 obtain⟨xA,xn,xc,T1⟩:=Jg a;have R6:=Zh T1;have B0:Hi (X=match Qeh (hd (T.drop k2)) with|none=>.ok a.nd (T.drop k2)|some kk=>(pM f (.level 5) (T.drop (k2+1))).bind λb r2=>.ok (QdV (hd (T.drop k2)) kk a.nd b) r2):=by rw[Hi,vA.o,hx];simp only[PR.bind,tail_drop]
 rw[T1]at yA |-;have cp:=Kp p A C T k2 _ yA.o.pat;have uA:=λ(e:(hd (T.drop k2)).kind=3)=>yA.o.pat.more (by rw[e];decide)
 clear hx hat P7 F1 S1 T1 hzz zA vA HP HB HZ D4 bA;generalize hd (T.drop k2)=t at*;obtain⟨tk,tx,tn,tf⟩:=t;unfold Qfh Qda at cp;simp only at cp uA;go_wp2_with fail;refine cp.mono ?_;rintro e w3 ⟨rfl,cA⟩;have eA:=zQ w3 (.cells (yd tk tx tn tf) 134);have HI:=Zh ((yA.o.below cA).below ((Below.refl w3.heap.size w3).alloc zP (.cells (yd tk tx tn tf) 134)));have dA:w2.heap.size<w3.heap.size:=by have:=cA.size;simp at this;omega
 generalize hlo:(w.alloc (.cells (yj 0 0 Em 0 Nl) 127)).heap.size=lo at*;clear yA cA cp hlo;go_upto_region 3 with fail;generalize iA:w3.alloc (.cells (yd tk tx tn tf) 134)=W3 at*;have HT:=Zh eA;have kA:w3.heap.size<W3.heap.size:=Jb HT.o
 have gA:w2.heap.size<w3.heap.size/\w.heap.size<w2.heap.size/\p<w2.heap.size:=by
  have q1:=HI.o.low;have q2:=D3.o;exact⟨dA,by omega,by omega⟩
 clear iA eA dA;generalize w3.heap.size=tb at*;generalize w2.heap.size=bx at*;have c0:W3.cell? ⟨tb,0,none⟩=some (Iv tk):=by rw[Ja HT.o];rfl
 have c1:W3.cell? ⟨tb,1,none⟩=some (Sv tx):=by rw[Ja HT.o];rfl
 have u1:=Jj tx
 by_cases h3:tk=3
 ·subst h3;have d3:((3:Int)==3)=true:=zp;have hk1:=uA rfl;have wk:IntKind.i64.wrap ((k2:Int)+1)=(k2:Int)+1:=IntWalk.i64_in _ (zu HI.o.pat.room);have pc:=Ja HI.o.pat.self 1;have pf:=Jc HI.o.pat.self 1;simp only[zW]at pc;clear uA
  by_cases h0:tx=[61,61]
  ·
   have e0:(tx==[61,61])=true:=by rw[h0];decide
   have e1:(tx==[33,61])=false:=by rw[h0];decide
   have e2:(tx==[60])=false:=by rw[h0];decide
   have e3:(tx==[62])=false:=by rw[h0];decide
   have e4:(tx==[60,61])=false:=by rw[h0];decide
   have e5:(tx==[62,61])=false:=by rw[h0];decide
   have L3:Hi (X=(pM f (.level 5) (T.drop (k2+1))).bind λb r2=>.ok (QdV ⟨3,tx,tn,tf⟩ 15 a.nd b) r2):=by rw[Hi,B0.o,show Qeh ⟨3,tx,tn,tf⟩=some 15 from by rw[h0];rfl]
   have TD:Hi (CmD tx tn tf 15):=.inl ⟨e3,e5,e1,λx y=>by rw[h0];rfl⟩;clear B0 h0;exact zAe
  by_cases h1:tx=[33,61]
  ·
   have e0:(tx==[61,61])=false:=by rw[h1];decide
   have e1:(tx==[33,61])=true:=by rw[h1];decide
   have e2:(tx==[60])=false:=by rw[h1];decide
   have e3:(tx==[62])=false:=by rw[h1];decide
   have e4:(tx==[60,61])=false:=by rw[h1];decide
   have e5:(tx==[62,61])=false:=by rw[h1];decide
   have L3:Hi (X=(pM f (.level 5) (T.drop (k2+1))).bind λb r2=>.ok (QdV ⟨3,tx,tn,tf⟩ 15 a.nd b) r2):=by rw[Hi,B0.o,show Qeh ⟨3,tx,tn,tf⟩=some 15 from by rw[h1];rfl]
   have TD:Hi (CmD tx tn tf 15):=.inr (.inr (.inr ⟨e3,e5,e1,λx y=>by rw[h1];rfl⟩));clear B0 h0 h1;exact zAe
  by_cases h2:tx=[60]
  ·
   have e0:(tx==[61,61])=false:=by rw[h2];decide
   have e1:(tx==[33,61])=false:=by rw[h2];decide
   have e2:(tx==[60])=true:=by rw[h2];decide
   have e3:(tx==[62])=false:=by rw[h2];decide
   have e4:(tx==[60,61])=false:=by rw[h2];decide
   have e5:(tx==[62,61])=false:=by rw[h2];decide
   have L3:Hi (X=(pM f (.level 5) (T.drop (k2+1))).bind λb r2=>.ok (QdV ⟨3,tx,tn,tf⟩ 13 a.nd b) r2):=by rw[Hi,B0.o,show Qeh ⟨3,tx,tn,tf⟩=some 13 from by rw[h2];rfl]
   have TD:Hi (CmD tx tn tf 13):=.inl ⟨e3,e5,e1,λx y=>by rw[h2];rfl⟩;clear B0 h0 h1 h2;exact zAc
  by_cases h3:tx=[62]
  ·
   have e0:(tx==[61,61])=false:=by rw[h3];decide
   have e1:(tx==[33,61])=false:=by rw[h3];decide
   have e2:(tx==[60])=false:=by rw[h3];decide
   have e3:(tx==[62])=true:=by rw[h3];decide
   have e4:(tx==[60,61])=false:=by rw[h3];decide
   have e5:(tx==[62,61])=false:=by rw[h3];decide
   have L3:Hi (X=(pM f (.level 5) (T.drop (k2+1))).bind λb r2=>.ok (QdV ⟨3,tx,tn,tf⟩ 13 a.nd b) r2):=by rw[Hi,B0.o,show Qeh ⟨3,tx,tn,tf⟩=some 13 from by rw[h3];rfl]
   have TD:Hi (CmD tx tn tf 13):=.inr (.inl ⟨e3,λx y=>by rw[h3];rfl⟩);clear B0 h0 h1 h2 h3;exact zAc
  by_cases h4:tx=[60,61]
  ·
   have e0:(tx==[61,61])=false:=by rw[h4];decide
   have e1:(tx==[33,61])=false:=by rw[h4];decide
   have e2:(tx==[60])=false:=by rw[h4];decide
   have e3:(tx==[62])=false:=by rw[h4];decide
   have e4:(tx==[60,61])=true:=by rw[h4];decide
   have e5:(tx==[62,61])=false:=by rw[h4];decide
   have L3:Hi (X=(pM f (.level 5) (T.drop (k2+1))).bind λb r2=>.ok (QdV ⟨3,tx,tn,tf⟩ 14 a.nd b) r2):=by rw[Hi,B0.o,show Qeh ⟨3,tx,tn,tf⟩=some 14 from by rw[h4];rfl]
   have TD:Hi (CmD tx tn tf 14):=.inl ⟨e3,e5,e1,λx y=>by rw[h4];rfl⟩;clear B0 h0 h1 h2 h3 h4;exact zAd
  by_cases h5:tx=[62,61]
  ·
   have e0:(tx==[61,61])=false:=by rw[h5];decide
   have e1:(tx==[33,61])=false:=by rw[h5];decide
   have e2:(tx==[60])=false:=by rw[h5];decide
   have e3:(tx==[62])=false:=by rw[h5];decide
   have e4:(tx==[60,61])=false:=by rw[h5];decide
   have e5:(tx==[62,61])=true:=by rw[h5];decide
   have L3:Hi (X=(pM f (.level 5) (T.drop (k2+1))).bind λb r2=>.ok (QdV ⟨3,tx,tn,tf⟩ 14 a.nd b) r2):=by rw[Hi,B0.o,show Qeh ⟨3,tx,tn,tf⟩=some 14 from by rw[h5];rfl]
   have TD:Hi (CmD tx tn tf 14):=.inr (.inr (.inl ⟨e3,e5,λx y=>by rw[h5];rfl⟩));clear B0 h0 h1 h2 h3 h4 h5;exact zAd
  have L3:Hi (X=.ok a.nd (T.drop k2)):=by rw[Hi,B0.o,show Qeh ⟨3,tx,tn,tf⟩=none from by unfold Qeh;simp[h0,h1,h2,h3,h4,h5]]
  have e0:(tx==[61,61])=false:=zM h0;have e1:(tx==[33,61])=false:=zM h1;have e2:(tx==[60])=false:=zM h2;have e3:(tx==[62])=false:=zM h3;have e4:(tx==[60,61])=false:=zM h4;have e5:(tx==[62,61])=false:=zM h5;clear h0 h1 h2 h3 h4 h5 B0 HT I1;exact QjW
 ·have d3:(tk==3)=false:=zM h3;have jA:(tk !=3)=true:=by rw[bne,d3];rfl
  have L3:Hi (X=.ok a.nd (T.drop k2)):=by rw[Hi,B0.o,show Qeh ⟨tk,tx,tn,tf⟩=none from by unfold Qeh;rw[if_pos h3]]
  clear h3 uA I1 B0 HT;exact QjW
structure PrI(p:Nat)(A:Option Addr)(C:Nat)(T:List Tok)(w:World)(k tb:Nat)(tok:Array Value)(W:World):Prop where
 pat:PAt W p A C T k
 tok:W.heap[tb]?=some (.cells tok 134 (0,0))
 res:W.heap[w.heap.size]?=some (.cells (yj 0 0 Em 0 Nl) 127 (0,0))
 chg:yr w W
 low:w.heap.size<tb/\p<w.heap.size
def PrI.below{tb:Nat}{tok:Array Value}(h:PrI p A C T w k tb tok W)(hb:yr W W'):PrI p A C T w k tb tok W':=
 ⟨h.pat.chg hb,(hb.block _ (Jb h.tok)).trans h.tok,(hb.block _ (Jb h.res)).trans h.res,h.chg.trans (hb.mono h.chg.size),h.low⟩
def Jbv(hP:PAt W p A C T k)(hC:Chg [p] w W)(hp:p<w.heap.size)(hT:∀b o,A=some ⟨b,o,none⟩->b<w.heap.size)(v0 v1 v2 v3 v4:Value):
  PAt (put5 W w.heap.size v0 v1 v2 v3 v4) p A C T k/\Chg [p] w (put5 W w.heap.size v0 v1 v2 v3 v4):=
 ⟨hP.put5 (Ne.symm (Nat.ne_of_lt hp)) (λb o e=>by have:=hT b o e;omega) _ _ _ _ _,hC.step (Kj (S:=[w.heap.size]) v0 v1 v2 v3 v4 (by simp:w.heap.size∈[w.heap.size])) λb hb=>.inr (by simp at hb;omega)⟩
def Kg(k n:Int)(s:By)(o:Int):Qaa (QcL k n s o)=(ym k n s o Nl):=by
 show #[_,_,_,_,Qaz 0 0 []]=_
 unfold Qaz;rw[if_pos rfl]
def JdH(k n:Int)(s:By)(o:Int):(QcL k n s o).nd=.mk k n s o []:=rfl
variable{V v:Value}
def JfO(a:An)(tf:Int)(h:Qaa a=(ym a.kind a.num a.name a.off V)):Qaa (.mk a.kind a.num a.name tf a.blk a.cap a.kids)=(ym a.kind a.num a.name tf V):=by
 obtain⟨k,n,s,o,b,c,l⟩:=a;have e:Qaz b c l=V:=Option.some.inj (congrArg (λx:Array Value=>x[4]?) h)
 show #[_,_,_,_,Qaz b c l]=_
 rw[e]
 first|done|rfl
def Jor(a:An)(tf:Int):(An.mk a.kind a.num a.name tf a.blk a.cap a.kids).nd=.mk a.nd.kind a.nd.num a.nd.name tf a.nd.kids:=by cases a;rfl
def JlP(a:An)(tf:Int):foot (An.mk a.kind a.num a.name tf a.blk a.cap a.kids)=foot a:=by obtain⟨k,n,s,o,b,c,l⟩:=a;cases l<;>simp[foot,An.blk,An.kids]
def JlQ(hat:a.At W)(hm:Qce lo bx a)(hl:w.heap.size<lo)(hb:bx<W.heap.size)(G1:w.heap.size<bx)(hbp:bx≠p)(hP:PAt W p A C T k)(hC:Chg [p] w W)(hp:p<w.heap.size)(hT:∀b o,A=some ⟨b,o,none⟩->b<w.heap.size)(o:Int)(v v0 v1 v2 v3 v4:Value):
  (An.mk a.kind a.num a.name o a.blk a.cap a.kids).At (put5 (W.setCell ⟨bx,3,none⟩ v) w.heap.size v0 v1 v2 v3 v4)/\Qce w.heap.size (put5 (W.setCell ⟨bx,3,none⟩ v) w.heap.size v0 v1 v2 v3 v4).heap.size (An.mk a.kind a.num a.name o a.blk a.cap a.kids)/\PAt (put5 (W.setCell ⟨bx,3,none⟩ v) w.heap.size v0 v1 v2 v3 v4) p A C T k/\Chg [p] w (put5 (W.setCell ⟨bx,3,none⟩ v) w.heap.size v0 v1 v2 v3 v4):=by
 have hsz:(put5 (W.setCell ⟨bx,3,none⟩ v) w.heap.size v0 v1 v2 v3 v4).heap.size=W.heap.size:=by rw[Kl];simp[World.setCell]
 have h1:Chg [w.heap.size,bx] W (W.setCell ⟨bx,3,none⟩ v):=(Chg.refl _ W).setCell (.inl (by simp:bx∈[w.heap.size,bx])) (p:=⟨bx,3,none⟩) v;have h2:=h1.trans (Kj (S:=[w.heap.size,bx]) (W:=W.setCell ⟨bx,3,none⟩ v) v0 v1 v2 v3 v4 (by simp:w.heap.size∈[w.heap.size,bx]));have M4:=JlP a o
 have e0:a.At (put5 (W.setCell ⟨bx,3,none⟩ v) w.heap.size v0 v1 v2 v3 v4):=JK a hat λb hb'=>h2.block b (zu ((hm.2 b hb').2)) (λhq=>by
  have h3:=hm.2 b hb';simp only[List.mem_cons,List.not_mem_nil,or_false]at hq
  rcases hq with rfl|rfl<;>omega)
 refine⟨?_,?_,?_,?_⟩
 ·obtain⟨k,n,s,o',b,c,l⟩:=a;exact e0
 ·unfold Qce;rw[M4,hsz];exact⟨hm.1,λb hb'=>by have:=hm.2 b hb';omega⟩
 ·exact(hP.setFar hbp (λb o e=>by have:=hT b o e;omega) 3 v).put5 (Ne.symm (Nat.ne_of_lt hp)) (λb o e=>by have:=hT b o e;omega) _ _ _ _ _
 ·exact hC.step h2 λq hq=>.inr (by simp only[List.mem_cons,List.not_mem_nil,or_false]at hq;omega)
def Jny(f:Nat)(h:(hd r).kind=1):pM (f+1) .prim r=.ok (.mk 0 (hd r).n [] (hd r).off []) r.tail:=by rw[pM,if_pos h]
def Qkf{P:Prop}(h:P:=by
  have S5:Hi (X=pM f .named (T.drop k)):=by rw[Hi,<-L3.o,if_neg hF]
  have D4:pM f .named (T.drop k)≠.out:=by rw[<-S5.o];exact N3.o
  clear hF L3 I1;go_wp2_with fail;refine NdP.call (I2 k _ HI.o.pat D4) D4 (λq _ hx B5=>by exact⟨rfl,by rw[HR.o,S5.o,hx];exact⟨rfl,(Chg.of_below HI.o.chg [p]).trans B5⟩⟩) λa w3 k3 xA xn xc hx T1 B=>?_
  obtain⟨hat,P7,D9,B5⟩:=B;have hzz:w3.heap[w.heap.size]?=some (.cells (yk 0 0 (.string ⟨#[]⟩) 0 none 0 0) 127):=B5.heap_some (by simp;exact I6) HI.o.res;have C0:=Zh (λv0 v1 v2 v3 v4=>Jch (w:=w) (W2:=wa4) (W3:=w3) hat P7 (Jb HI.o.res) D9 (Chg.of_below HI.o.chg [p]) B5 D3.o W6.o v0 v1 v2 v3 v4);have M7:Hi (X=.ok a.nd (T.drop k3)):=by rw[Hi,S5.o,hx]
  have R6:=Zh T1;have z5:=Jl hzz;have y5:=Js hzz;have SA:=Zh hzz;clear hzz hx hat P7 D9 B5 T1 D4 I2 S5 HI;go_wp2;refine bodyPost_ret (v:=.agg (Qaa a)) (by rw[R6.o];exact results_cell_row rfl _ _ w.heap.size 127 _ (0,0) _ rfl (Qcv _ _ _ _ _ SA.o) underlying127 rfl Qau) rfl ?_;rw[HR.o,M7.o];obtain⟨e1,e2,e3,e4⟩:=C0.o _ _ _ _ _
  exact⟨_,rfl,rfl,e1,e2,⟨k3,rfl,e3⟩,e4⟩):P:=h
def Qix{P:Prop}(h:P:=by
  obtain⟨e1,e2⟩:=Jbv M8.o X6.o D3.o W6.o _ _ _ _ _
  exact⟨_,JdH _ _ _ _,rfl,JdD _ _ _ _ _,ZH _ _ _ _ _ _,⟨k+1,rfl,e1⟩,e2⟩):P:=h
def Qic{P:Prop}(h:P:=by
  rw[HR.o,S5.o];obtain⟨e1,e2⟩:=Jbv M8.o X6.o D3.o W6.o _ _ _ _ _
  exact⟨_,JdH _ _ _ _,rfl,JdD _ _ _ _ _,ZH _ _ _ _ _ _,⟨k4,rfl,e1⟩,e2⟩):P:=h
def Jjx(f p:Nat)(A:Option Addr)(C:Nat)(T:List Tok)
  (I1:∀k w,PAt w p A C T k->pM f .expr (T.drop k)≠.out->Calls prog 88 #[Pt p] w (NdP p A C T w (pM f .expr (T.drop k))))
  (I2:∀k w,PAt w p A C T k->pM f .named (T.drop k)≠.out->Calls prog 169 #[Pt p] w (NdP p A C T w (pM f .named (T.drop k))))
  (k:Nat) (w:World) (h:PAt w p A C T k) (hne:pM (f+1) .prim (T.drop k)≠.out):
  Calls prog 159 #[Pt p] w (NdP p A C T w (pM (f+1) .prim (T.drop k))):=by
 obtain⟨X,hX⟩:=yt (pM (f+1) .prim (T.drop k))
 rw[hX]at hne |-;obtain⟨R,hR⟩:=yt (NdP p A C T w X)
 rw[hR];have HR:Hi (R=NdP p A C T w X):=hR.symm;have N3:=Zh hne;have HX:=Zh hX;have hZ:=zQ w (.cells (yj 0 0 Em 0 Nl) 127);have hB:=(Below.refl w.heap.size w).alloc zP (.cells (yj 0 0 Em 0 Nl) 127);have cp:=Kp p A C T k _ (h.chg hB);have HP:=Zh (h.chg hB);have HZ:=Zh hZ;have HB:=Zh hB;have D3:=Zh h.chg1;have W6:=Zh h.tokLt;have kA:=λ(e:(hd (T.drop k)).kind=1)=>h.more (by rw[e];decide)
 obtain⟨t,ht⟩:=yt (hd (T.drop k))
 have uA:=Zh ht;rw[ht]at cp kA;obtain⟨tk,tx,tn,tf⟩:=t;unfold Qfh Qda at cp;simp only at cp kA;have I6:w.heap.size≠p:=by have:=D3.o;omega
 clear h hne hR hZ hB hX ht;go_enter func159,ntmps159;go_wp2_with fail;refine cp.mono ?_;rintro e w3 ⟨rfl,sA⟩;have vB:=zQ w3 (.cells (yd tk tx tn tf) 134);have uB:yr w3 (w3.alloc (.cells (yd tk tx tn tf) 134)):=zO.alloc zP _;have qA:=sA.trans (uB.mono sA.size);have HI:Hi (PrI p A C T w k w3.heap.size (yd tk tx tn tf) (w3.alloc (.cells (yd tk tx tn tf) 134))):=⟨HP.o.chg qA,vB,(qA.block _ (Jb HZ.o)).trans HZ.o,HB.o.trans (qA.mono HB.o.size),Nat.lt_of_lt_of_le (Jb HZ.o) sA.size,D3.o⟩
 clear cp sA qA vB uB HP HZ HB;go_upto_region 2 with fail;generalize w3.alloc (.cells (yd tk tx tn tf) 134)=W3 at*;generalize w3.heap.size=tb at*;have cB:tb≠p/\tb≠w.heap.size:=by have:=HI.o.low;omega
 obtain⟨zA,bB⟩:=cB;have ht:=HI.o.tok;have c0:W3.cell? ⟨tb,0,none⟩=some (Iv tk):=by rw[Ja ht];rfl
 by_cases h1:tk=1
 ·subst h1;have d1:((1:Int)==1)=true:=zp;have hk1:=kA rfl;have L3:Hi (X=.ok (.mk 0 tn [] tf []) (T.drop (k+1))):=by rw[Hi,<-HX.o,Jny f (by rw[uA.o]),uA.o,tail_drop]
  have wk:IntKind.i64.wrap ((k:Int)+1)=(k:Int)+1:=IntWalk.i64_in _ (zu HI.o.pat.room);have pc:=Ja HI.o.pat.self 1;have pf:=Jc HI.o.pat.self 1;simp only[zW]at pc;have M8:Hi (PAt (W3.setCell ⟨p,1,none⟩ (Iv ((k:Int)+1))) p A C T (k+1)):=HI.o.pat.next hk1;have X6:Hi (Chg [p] w (W3.setCell ⟨p,1,none⟩ (Iv ((k:Int)+1)))):=(Chg.of_below HI.o.chg [p]).setCell (.inl (by simp:p∈[p])) (p:=⟨p,1,none⟩) _;have t2:W3.cell? ⟨tb,2,none⟩=some (Iv tn):=by rw[Ja ht];rfl
  have t3:W3.cell? ⟨tb,3,none⟩=some (Iv tf):=by rw[Ja ht];rfl
  have M1:(W3.setCell ⟨p,1,none⟩ (Iv ((k:Int)+1))).heap[w.heap.size]?=some (.cells (yj 0 0 Em 0 Nl) 127 (0,0)):=by rw[Below.heap_setCell _ _ _ _ (by first|exact I6|exact Ne.symm I6)];exact HI.o.res
  have z5:=Jl HI.o.res;have y5:=Js HI.o.res;have X5:=Zh M1;clear M1 ht hk1 kA HX uA I1 I2;go_wp2;refine bodyPost_ret (v:=.agg (Qaa (QcL 0 tn [] tf))) (by rw[Kg];exact results_cell_row rfl _ _ w.heap.size 127 _ (0,0) _ rfl (Qcv _ _ _ _ _ X5.o) underlying127 rfl Qau) rfl ?_;rw[HR.o,L3.o];exact Qix
 ·have d1:(tk==1)=false:=zM h1;have hx:=HX.o;rw[pM,if_neg (by rw[uA.o];exact h1)]at hx;have B0:=Zh hx;clear hx ht h1 kA HX;go_wp2_with fail;refine(Jt p A C T k 3 [40] _ HI.o.pat zp).mono ?_;intro e jA h2
  rcases h2 with⟨g1,g2,rfl,F1,S1⟩|⟨g1,rfl,I0⟩
  ·
   have M8:=Zh F1;have X6:Hi (Chg [p] w jA):=(Chg.of_below HI.o.chg [p]).trans S1;have X5:Hi (jA.heap[w.heap.size]?=some (.cells (yj 0 0 Em 0 Nl) 127 (0,0))):=S1.heap_some (by simp;exact I6) HI.o.res;have yA:Hi (jA.heap[tb]?=some (.cells (yd tk tx tn tf) 134 (0,0))):=S1.heap_some (by simp;exact zA) HI.o.tok;have hx:=B0.o;rw[JN g1 g2]at hx;dsimp only at hx;have L3:=Zh hx;have D4:pM f .expr (T.drop (k+1))≠.out:=KB (by rw[hx];exact N3.o);clear hx B0 HI F1 S1 g1 g2 I2;go_wp2_with fail;refine NdP.call (I1 (k+1) _ M8.o D4) D4 (λq _ hx S4=>by exact⟨rfl,by rw[HR.o,<-L3.o,hx];exact⟨rfl,X6.o.trans S4⟩⟩) λa w5 k5 xA xn xc hx T1 B=>?_
   obtain⟨hat,P7,aA,S4⟩:=B;have iA:yr w5 (w5.alloc (.cells (Qaa a) 127)):=zO.alloc zP _;have T6:=Zh (zQ w5 (.cells (Qaa a) 127));have yB:=Zh (aA.chg iA);have eA:=Zh (And.intro (K1 hat P7 iA zP) P7);have nA:=Zh ((X6.o.trans S4).alloc (.cells (Qaa a) 127));have vA:=S4.heap_some (by simp;exact I6) X5.o;have bA:=S4.heap_some (by simp;exact zA) yA.o;have cA:=Zh ((iA.block _ (Jb vA)).trans vA);have dA:=Zh ((iA.block _ (Jb bA)).trans bA);have S5:Hi (((Qar 3 [41] (T.drop k5)).bind λ_ r3=>PR.ok (.mk a.nd.kind a.nd.num a.nd.name tf a.nd.kids) r3)=X):=by rw[Hi,<-L3.o,hx,uA.o];rfl
   have R6:=Zh (JfO a tf T1);have D6:Hi (w.heap.size<jA.heap.size/\w.heap.size<w5.heap.size/\w5.heap.size≠p):=⟨Jb X5.o,Jb vA,Ne.symm (Nat.ne_of_lt aA.chg1)⟩
   obtain⟨lo,hlo⟩:=yt jA.heap.size
   rw[T1]at yB T6 eA nA cA dA;rw[hlo]at eA D6;have tA:w5.heap.size≠w.heap.size:=by have:=D6.o.2.1;omega
   have xB:w.heap.size≠w5.heap.size:=by have:=D6.o.2.1;omega
   have hA:=D6.o.2.2;clear hx hat P7 aA S4 T1 iA vA bA D4 L3 M8 X6 X5 yA I1 hlo;go_wp2_with fail;generalize w5.alloc _=W5 at*;generalize w5.heap.size=bx at*;refine(Qdv p A C T k5 [41] W5 yB.o).mono ?_;intro e w6 h6
   rcases KD 3 [41] (T.drop k5) with⟨r',ha⟩|ha
   ·rw[ha]at h6;obtain⟨rfl,⟨k6,fD,zB⟩,O1⟩:=h6;subst fD;have QB:=O1.heap_some (by simp;exact hA) T6.o;have mA:=O1.heap_some (by simp;exact I6) cA.o;have aB:=O1.heap_some (by simp;exact zA) dA.o;have M7:Hi (X=.ok (An.mk a.kind a.num a.name tf a.blk a.cap a.kids).nd (T.drop k6)):=by rw[Hi,<-S5.o,ha,Jor];rfl
    have C0:=Zh (λv v0 v1 v2 v3 v4=>JlQ (W:=w6) (JaE eA.o.1 eA.o.2 O1 (Nat.le_of_lt (Jb T6.o)) λb hb=>by have:=D6.o.1;have:=D3.o;simp at hb;omega) eA.o.2 D6.o.1 (Jb QB) D6.o.2.1 hA zB (nA.o.trans O1) D3.o W6.o tf v v0 v1 v2 v3 v4);have t3:=Ja aB 3;simp only[zW]at t3;have b5:=Jl QB;have z5:=Jl mA;have hg:=λj=>Jc QB j
    have f3:=hg 3;have y5:=Js mA;have dB:Hi ((w6.setCell ⟨bx,3,none⟩ (Iv tf)).heap[w.heap.size]?=some (.cells (yj 0 0 Em 0 Nl) 127)):=by rw[Hi,Below.heap_setCell _ _ _ _ (by first|exact tA|exact xB)];exact mA
    clear hg QB mA aB zB O1 ha eA nA yB cA dA T6 S5;go_wp2;refine bodyPost_ret (v:=.agg (Qaa (An.mk a.kind a.num a.name tf a.blk a.cap a.kids))) (by rw[R6.o];exact results_cell_row rfl _ _ w.heap.size 127 _ (0,0) _ rfl (Qcv _ _ _ _ _ dB.o) underlying127 rfl Qau) rfl ?_;rw[HR.o,M7.o];obtain⟨e1,e2,e3,e4⟩:=C0.o _ _ _ _ _ _;exact⟨_,rfl,rfl,e1,e2,⟨k6,rfl,e3⟩,e4⟩
   ·rw[ha]at h6;obtain⟨rfl,O1⟩:=h6;refine⟨rfl,?_⟩;rw[HR.o,<-S5.o,ha];exact⟨rfl,nA.o.trans O1⟩
  have hx:=B0.o;rw[Kf g1]at hx;replace B0:=Zh hx;replace HI:=Zh (HI.o.below I0);clear hx I0 g1;go_wp2_with fail;refine(Jt p A C T k 0 QeN _ HI.o.pat zp).mono ?_;intro e pA h2
  rcases h2 with⟨g1,g2,rfl,F1,S1⟩|⟨g1,rfl,I0⟩
  ·
   have M8:=Zh F1;have X6:Hi (Chg [p] w pA):=(Chg.of_below HI.o.chg [p]).trans S1;have X5:Hi (pA.heap[w.heap.size]?=some (.cells (yj 0 0 Em 0 Nl) 127 (0,0))):=S1.heap_some (by simp;exact I6) HI.o.res;have yA:Hi (pA.heap[tb]?=some (.cells (yd tk tx tn tf) 134 (0,0))):=S1.heap_some (by simp;exact zA) HI.o.tok;have hx:=B0.o;rw[JN g1 g2]at hx;have L3:Hi (X=.ok (.mk 1 0 [] tf []) (T.drop (k+1))):=by rw[Hi,<-hx,uA.o]
   clear hx B0 HI F1 S1 g1 g2;have M1:=X5.o;have z5:=Jl M1;have y5:=Js M1;have t3:pA.cell? ⟨tb,3,none⟩=some (Iv tf):=by rw[Ja yA.o];rfl
   clear M1 I1 I2;go_wp2;refine bodyPost_ret (v:=.agg (Qaa (QcL 1 0 [] tf))) (by rw[Kg];exact results_cell_row rfl _ _ w.heap.size 127 _ (0,0) _ rfl (Qcv _ _ _ _ _ X5.o) underlying127 rfl Qau) rfl ?_;rw[HR.o,L3.o];exact Qix
  have hx:=B0.o;rw[Kf g1]at hx;replace B0:=Zh hx;replace HI:=Zh (HI.o.below I0);clear hx I0 g1;go_wp2_with fail;refine(Jt p A C T k 0 QfU _ HI.o.pat zp).mono ?_;intro e rA h2
  rcases h2 with⟨g1,g2,rfl,F1,S1⟩|⟨g1,rfl,I0⟩
  ·
   have M8:=Zh F1;have X6:Hi (Chg [p] w rA):=(Chg.of_below HI.o.chg [p]).trans S1;have X5:Hi (rA.heap[w.heap.size]?=some (.cells (yj 0 0 Em 0 Nl) 127 (0,0))):=S1.heap_some (by simp;exact I6) HI.o.res;have yA:Hi (rA.heap[tb]?=some (.cells (yd tk tx tn tf) 134 (0,0))):=S1.heap_some (by simp;exact zA) HI.o.tok;have hx:=B0.o;rw[JN g1 g2]at hx;have L3:Hi (X=.ok (.mk 1 1 [] tf []) (T.drop (k+1))):=by rw[Hi,<-hx,uA.o]
   clear hx B0 HI F1 S1 g1 g2;have M1:=X5.o;have z5:=Jl M1;have y5:=Js M1;have t3:rA.cell? ⟨tb,3,none⟩=some (Iv tf):=by rw[Ja yA.o];rfl
   clear M1 I1 I2;go_wp2;refine bodyPost_ret (v:=.agg (Qaa (QcL 1 1 [] tf))) (by rw[Kg];exact results_cell_row rfl _ _ w.heap.size 127 _ (0,0) _ rfl (Qcv _ _ _ _ _ X5.o) underlying127 rfl Qau) rfl ?_;rw[HR.o,L3.o];exact Qix
  have hx:=B0.o;rw[Kf g1]at hx;replace B0:=Zh hx;replace HI:=Zh (HI.o.below I0);clear hx I0 g1;go_wp2_with fail;refine(Jt p A C T k 0 QeM _ HI.o.pat zp).mono ?_;intro e gA h2
  rcases h2 with⟨g1,g2,rfl,F1,S1⟩|⟨g1,rfl,I0⟩
  ·
   have M8:=Zh F1;have X6:Hi (Chg [p] w gA):=(Chg.of_below HI.o.chg [p]).trans S1;have X5:Hi (gA.heap[w.heap.size]?=some (.cells (yj 0 0 Em 0 Nl) 127 (0,0))):=S1.heap_some (by simp;exact I6) HI.o.res;have yA:Hi (gA.heap[tb]?=some (.cells (yd tk tx tn tf) 134 (0,0))):=S1.heap_some (by simp;exact zA) HI.o.tok;have hx:=B0.o;rw[JN g1 g2]at hx;have L3:=Zh hx;clear hx B0 HI F1 S1 g1 g2 I1 I2;go_upto_region 15 with fail;have hD:yr gA gA.drew:=zO.drew;replace M8:=Zh (M8.o.chg hD);replace X6:=Zh (X6.o.trans (Chg.of_below hD [p]));replace X5:=Zh ((hD.block _ (Jb X5.o)).trans X5.o);replace yA:=Zh ((hD.block _ (Jb yA.o)).trans yA.o);clear hD;have t3:=Ja yA.o 3;simp only[zW]at t3;refine LB (λW=>W.cell? ⟨tb,3,none⟩=some (Iv tf)) 5 (t3) λhH=>?_
   refine LK 0 rfl ?_;refine LK 2 rfl ?_;refine LK 3 rfl ?_;refine LO 1 rfl λK hK=>?_
   go_simp;go_at_call 168;refine PRp.call (ZJ p A C T (k+1) _ M8.o) (JO L3.o N3.o) (λq _ hq S4=>by exact⟨rfl,by rw[HR.o,<-L3.o,hq];exact⟨rfl,X6.o.trans S4⟩⟩) λs w5 k4 hq aA S4=>?_
   have S5:Hi (X=.ok (.mk 4 0 s tf []) (T.drop k4)):=by rw[Hi,<-L3.o,hq,uA.o];rfl
   replace M8:=Zh aA;replace X6:=Zh (X6.o.trans S4);replace X5:=Zh (S4.heap_some (by simp;exact I6) X5.o);replace yA:=Zh (S4.heap_some (by simp;exact zA) yA.o);clear hq aA S4 L3;replace t3:=Ja yA.o 3;simp only[zW]at t3;refine zU hK (t3) λhH=>?_
   clear hK K;refine LK 4 rfl ?_;refine LZ 5 rfl λK hK=>?_
   have M1:=X5.o;have z5:=Jl M1;have y5:=Js M1;clear M1;go_simp;clear z5 y5 t3;refine hK.out _ _ ?_;clear hK K;go_wp2;refine bodyPost_ret (v:=.agg (Qaa (QcL 4 0 s tf))) (by rw[Kg];exact results_cell_row rfl _ _ w.heap.size 127 _ (0,0) _ rfl (Qcv _ _ _ _ _ X5.o) underlying127 rfl Qau) rfl ?_;exact Qic
  have hx:=B0.o;rw[Kf g1]at hx;replace B0:=Zh hx;replace HI:=Zh (HI.o.below I0);clear hx I0 g1;go_wp2_with fail;refine(Jt p A C T k 0 QfT _ HI.o.pat zp).mono ?_;intro e wa4 h2
  rcases h2 with⟨g1,g2,rfl,F1,S1⟩|⟨g1,rfl,I0⟩
  ·
   have M8:=Zh F1;have X6:Hi (Chg [p] w wa4):=(Chg.of_below HI.o.chg [p]).trans S1;have X5:Hi (wa4.heap[w.heap.size]?=some (.cells (yj 0 0 Em 0 Nl) 127 (0,0))):=S1.heap_some (by simp;exact I6) HI.o.res;have yA:Hi (wa4.heap[tb]?=some (.cells (yd tk tx tn tf) 134 (0,0))):=S1.heap_some (by simp;exact zA) HI.o.tok;have hx:=B0.o;rw[JN g1 g2]at hx;have L3:=Zh hx;clear hx B0 HI F1 S1 g1 g2 I1 I2;go_upto_region 17 with fail;have hD:yr wa4 wa4.drew:=zO.drew;replace M8:=Zh (M8.o.chg hD);replace X6:=Zh (X6.o.trans (Chg.of_below hD [p]));replace X5:=Zh ((hD.block _ (Jb X5.o)).trans X5.o);replace yA:=Zh ((hD.block _ (Jb yA.o)).trans yA.o);clear hD;have t3:=Ja yA.o 3;simp only[zW]at t3;refine LB (λW=>W.cell? ⟨tb,3,none⟩=some (Iv tf)) 5 (t3) λhH=>?_
   refine LK 0 rfl ?_;refine LK 2 rfl ?_;refine LK 3 rfl ?_;refine LO 1 rfl λK hK=>?_
   go_simp;go_at_call 168;refine PRp.call (ZJ p A C T (k+1) _ M8.o) (JO L3.o N3.o) (λq _ hq S4=>by exact⟨rfl,by rw[HR.o,<-L3.o,hq];exact⟨rfl,X6.o.trans S4⟩⟩) λs w5 k4 hq aA S4=>?_
   have S5:Hi (X=.ok (.mk 5 0 s tf []) (T.drop k4)):=by rw[Hi,<-L3.o,hq,uA.o];rfl
   replace M8:=Zh aA;replace X6:=Zh (X6.o.trans S4);replace X5:=Zh (S4.heap_some (by simp;exact I6) X5.o);replace yA:=Zh (S4.heap_some (by simp;exact zA) yA.o);clear hq aA S4 L3;replace t3:=Ja yA.o 3;simp only[zW]at t3;refine zU hK (t3) λhH=>?_
   clear hK K;refine LK 4 rfl ?_;refine LZ 5 rfl λK hK=>?_
   have M1:=X5.o;have z5:=Jl M1;have y5:=Js M1;clear M1;go_simp;clear z5 y5 t3;refine hK.out _ _ ?_;clear hK K;go_wp2;refine bodyPost_ret (v:=.agg (Qaa (QcL 5 0 s tf))) (by rw[Kg];exact results_cell_row rfl _ _ w.heap.size 127 _ (0,0) _ rfl (Qcv _ _ _ _ _ X5.o) underlying127 rfl Qau) rfl ?_;exact Qic
  have hx:=B0.o;rw[Kf g1]at hx;replace B0:=Zh hx;replace HI:=Zh (HI.o.below I0);clear hx I0 g1;have cf:=Zi tx wa4;have ht:=HI.o.tok;have t0:=Ja ht 0;have t1:=Ja ht 1;simp only[zW]at t0 t1;have L3:=Zh (uA.o ▸ B0.o);clear ht B0;go_wp2_with fail;refine cf.mono ?_;intro e w7 h7;obtain⟨rfl,rfl⟩:=h7
  by_cases lB:(QaU tx).isSome=true
  ·rw[lB]
   by_cases nF:tk=0
   ·subst nF;have hk1:=HI.o.pat.more (by rw[uA.o];show (0:Int)≠4;decide);have S5:Hi (X=.ok (.mk 3 0 tx tf []) (T.drop (k+1))):=by rw[Hi,<-L3.o,if_pos ⟨lB,rfl⟩,tail_drop]
    have d0:((0:Int)==0)=true:=zp;have wk:IntKind.i64.wrap ((k:Int)+1)=(k:Int)+1:=IntWalk.i64_in _ (zu HI.o.pat.room);have pc:=Ja HI.o.pat.self 1;have pf:=Jc HI.o.pat.self 1;have t3:=Ja HI.o.tok 3;simp only[zW]at pc t3;have M8:Hi (PAt (wa4.setCell ⟨p,1,none⟩ (Iv ((k:Int)+1))) p A C T (k+1)):=HI.o.pat.next hk1;have X6:Hi (Chg [p] w (wa4.setCell ⟨p,1,none⟩ (Iv ((k:Int)+1)))):=(Chg.of_below HI.o.chg [p]).setCell (.inl (by simp:p∈[p])) (p:=⟨p,1,none⟩) _;have M1:(wa4.setCell ⟨p,1,none⟩ (Iv ((k:Int)+1))).heap[w.heap.size]?=some (.cells (yj 0 0 Em 0 Nl) 127 (0,0)):=by rw[Below.heap_setCell _ _ _ _ (by first|exact I6|exact Ne.symm I6)];exact HI.o.res
    have z5:=Jl HI.o.res;have y5:=Js HI.o.res;have X5:=Zh M1;clear M1 hk1 L3 lB I1 I2;go_wp2;refine bodyPost_ret (v:=.agg (Qaa (QcL 3 0 tx tf))) (by rw[Kg];exact results_cell_row rfl _ _ w.heap.size 127 _ (0,0) _ rfl (Qcv _ _ _ _ _ X5.o) underlying127 rfl Qau) rfl ?_;rw[HR.o,S5.o];exact Qix
   ·have d0:(tk==0)=false:=zM nF;have hF:¬((QaU tx).isSome=true/\tk=0):=λh=>nF h.2
    clear lB nF;exact Qkf
  ·have hF:¬((QaU tx).isSome=true/\tk=0):=λh=>lB h.1
   rw[Bool.not_eq_true]at lB;rw[lB];clear lB;exact Qkf
def Qfu:(prog.info? 127).map (λi=>(i.zero,i.size,i.bytes))=some (some (.agg (yj 0 0 Em 0 Nl)),5,64):=zk
variable{xs:List Value}
def JA{w':World}{base:Nat}(h:w.ownsRow base e size v n xs)(hc:Chg S w w')(hs:∀b∈S,b<base):w'.ownsRow base e size v n xs:=by
 refine⟨h.1,h.2.imp id ?_⟩;rintro⟨g,cap,cur,h1,h2,h3,h4⟩;exact⟨g,cap,cur,h1,h2,hc.heap_some (λhm=>by have:=hs g hm;omega) h3,h4⟩
def Jk{base:Nat}(h:w.ownsRow base e size v n xs):∃a m c,v=.slice a m c:=by
 rcases h.2 with⟨rfl,_⟩|⟨g,cap,cur,rfl,_⟩<;>exact⟨_,_,_,rfl⟩
def Vf(l:List An)(a:An):ndL (l++[a])=ndL l++[a.nd]:=by
 induction l with
 |nil=>simp[ndL]
 |cons x r ih=>simp[ndL,ih]
def Vw(l:List An)(a:An):Qak (l++[a])=Qak l++foot a:=by
 induction l with
 |nil=>simp[Qak]
 |cons x r ih=>simp[Qak,ih]
def Jjy(l:List An)(a:An):Qdb (l++[a])=Qdb l++(Qaa a).toList:=by simp[Qdb]
def JfP(a:An):∀u∈(Qaa a).toList,u.oneCell'=true:=by
 obtain⟨xA,xn,xc,h⟩:=Jg a;rw[h];intro u hu;simp at hu
 rcases hu with rfl|rfl|rfl|rfl|rfl<;>rfl
def KI{P:Program}(w:World)(base:Nat)(t ty e:TypeId)(i:TypeInfo)(z:Value)(size bytes:Nat)(ht:P.underlying t=some (.slice e))(hi:P.info? e=some i)(hz:i.zero=some z)
  (hsize:i.size=size) (hby:i.bytes=bytes) (hzs:z.cells.size=size) (hsz:0<size)
  (v:Value) (n:Nat) (xs:List Value) (hown:w.ownsRow base e size v n xs)
  (a:Addr) (m c:Nat) (news:List Value) (hl:news.length=m*size) (hnews:∀j u,news[j]?=some u->w.cell? (a.add j)=some u) (h1:∀u∈news,u.oneCell'=true) (h0:0<m)
  (h63:n+m<=maxLen) (hbytes:(n+m)*bytes<=140737488355328) (hbase:base<=w.heap.size):
  ∃v' w',(Builtin.append_ #[t,t] ty #[v,.slice (some a) m c]).run P w=.ok v' w'/\w'.ownsRow base e size v' (n+m) (xs++news)/\w.grownBy w' v.ownBlock/\
   (v'.ownBlock=v.ownBlock\/v'.ownBlock=some w.heap.size):=by
 obtain⟨v',w',hr,h2,h3,_⟩:=run_append_own (P:=P) w base t ty e i z size bytes ht hi hz hsize hby hzs hsz v n xs hown a m c news hl hnews h1 h63 hbytes hbase;refine⟨v',w',hr,h2,h3,?_⟩;subst hsize;subst hby;have yA:n+m<=9223372036854775807:=by simp only[maxLen]at h63;omega
 rcases hown.2 with⟨rfl,rfl⟩|⟨g,cap,cur,rfl,hbg,hg,hnc,hcm,hcs,htake⟩
 ·have hb:=hbytes;simp only[Nat.zero_add]at hb;have hq:=run_append_nil (P:=P) w t ty e i z ht hi hz a m c news hl hnews h0 zo zo;rw[hr]at hq;injection hq with h4 h5;rw[h4];exact .inr rfl
 ·by_cases hroom:n+m<=cap
  ·have zA:n*i.size+news.length<=cur.size:=by rw[hl,hcs,<-Nat.add_mul];exact Nat.mul_le_mul_right _ hroom
   have hq:=run_append_room (P:=P) w t ty e i ht hi g n cap cur hg a m c news hl hnews h1 hroom zA;rw[hr]at hq;injection hq with h4 h5;rw[h4];exact .inl rfl
  ·have xA:∀j u,xs[j]?=some u->w.cell? ((⟨g,0,none⟩:Addr).add j)=some u:=hown.cells (g:=g) rfl;have hq:=run_append_grow (P:=P) w t ty e i z ht hi hz ⟨g,0,none⟩ n cap xs hown.1 xA a m c news hl hnews zo zo (growslice_fits zo hbytes);rw[hr]at hq;injection hq with h4 h5;rw[h4];exact .inr rfl
def Km{ops:Array Oper}{o:Oper}{ac:Act}{K:Act->World->Prop}{Q:Exit->Act->World->Prop}{E:Prop}(w:World)(hgd:o.guard=none)(s x:Operand)
  (ho:o.op=.call {callee:=.builtin .append,args:=#[s,x],argTypes:=#[125,125]}) (base:Nat) (v:Value) (l:List An) (a:An) (hs:ac.eval s=v)
  (hown:w.ownsRow base 127 5 v l.length (Qdb l)) (rb:Nat) (hx:ac.eval x=.slice (some ⟨rb,0,none⟩) 1 1) (hrow:w.heap[rb]?=some (.cells (Qaa a) 127 (0,0)))
  (h63:l.length<=100000000) (hbase:base<=w.heap.size)
  (h:∀v' w',w'.ownsRow base 127 5 v' (l++[a]).length (Qdb (l++[a]))->w.grownBy w' v.ownBlock->(v'.ownBlock=v.ownBlock\/v'.ownBlock=some w.heap.size)->K (ac.put o.dst v') w'):
  if Region.wanted o (yielded ops ac.tmps)=true then Oper.wp prog o ac w K Q else E:=by
 have hw:Region.wanted o (yielded ops ac.tmps)=true:=by simp[Region.wanted,hgd]
 rw[if_pos hw];obtain⟨i0,hi,yA,zA,xA⟩:=info_parts Qfu
 obtain⟨v',w',hr,h1,h2,h3⟩:=KI (P:=prog) w base 125 o.type 127 i0 _ 5 64 underlying125 hi yA zA xA rfl zp v l.length (Qdb l) hown ⟨rb,0,none⟩ 1 1 (Qaa a).toList (by rw[Array.length_toList,J3]) (λj u hj=>by
  rw[show (⟨rb,0,none⟩:Addr).add j=⟨rb,j,none⟩ by unfold Addr.add;split<;>simp_all]
  exact KP hrow hj) (JfP a) zp (by unfold maxLen;omega) zo hbase
 unfold Oper.wp execOp;simp only[ho,resolve,invoke,builtin,Sem.run_bind,Sem.run_pure,Result.andThen_ok,List.map_toArray,List.map_cons,List.map_nil,hs,hx,hr];rw[<-Jjy]at h1;exact h v' w' (by rw[List.length_append];exact h1) h2 h3
structure NmI(nm:By)(of:Int)(p:Nat)(A:Option Addr)(C:Nat)(T:List Tok)(w:World)(lo bx:Nat)(wr:World)(k2:Nat)(l:List An)(V:Value):Prop where
 pat:PAt wr p A C T k2
 own:wr.ownsRow lo 127 5 V l.length (Qdb l)
 ats:∀a∈l,a.At wr
 fts:(Qak l).Nodup/\∀b∈Qak l,lo<=b/\b<wr.heap.size
 dis:∀g,V.ownBlock=some g->g∉Qak l
 box:wr.heap[bx]?=some (.cells (ym 20 0 nm of V) 127 (0,0))
 res:wr.heap[w.heap.size]?=some (.cells (yj 0 0 Em 0 Nl) 127 (0,0))
 chg:Chg [p] w wr
 low:w.heap.size<bx/\bx<lo/\p<w.heap.size
 lle:lo<=wr.heap.size
variable{l:List An}
def JC(ha:a∈l):∀b∈foot a,b∈Qak l:=by
 induction l with
 |nil=>cases ha
 |cons x r ih=>
  intro b hb;unfold Qak
  rcases List.mem_cons.1 ha with rfl|ha
  ·exact List.mem_append_left _ hb
  ·exact List.mem_append_right _ (ih ha b hb)
variable{nm:By}
def NmI.on{wr:World}(h:NmI nm of p A C T w lo bx wr k2 l V)(hP:PAt W p A C T k3)(hc:Chg [p] wr W):NmI nm of p A C T w lo bx W k3 l V:=by
 obtain⟨l1,l2,l3⟩:=h.low
 exact⟨hP,JA h.own hc zr,λa ha=>JK a (h.ats a ha) λb hb=>by
  have:=h.fts.2 b (JC ha b hb)
  exact hc.block b this.2 zr,⟨h.fts.1,λb hb=>⟨(h.fts.2 b hb).1,Nat.lt_of_lt_of_le (h.fts.2 b hb).2 hc.size⟩⟩,h.dis,hc.heap_some zr h.box,hc.heap_some zr h.res,h.chg.trans hc,h.low,Nat.le_trans h.lle hc.size⟩
def NmI.step{wr:World}{k4:Nat}{V':Value}{b:An}{cs:Array Value}(h:NmI nm of p A C T w lo bx wr k2 l V)
  (TA:b.At w6) (S9:Qce wr.heap.size w6.heap.size b) (X8:PAt w6 p A C T k4) (O1:Chg [p] wr w6) (hT:∀b o,A=some ⟨b,o,none⟩->b<w.heap.size)
  (hown:w7.ownsRow lo 127 5 V' (l++[b]).length (Qdb (l++[b]))) (hgr:(w6.alloc (.cells cs 127)).grownBy w7 V.ownBlock) (O0:V'.ownBlock=V.ownBlock\/V'.ownBlock=some (w6.alloc (.cells cs 127)).heap.size):
  NmI nm of p A C T w lo bx (w7.setCell ⟨bx,4,none⟩ V') k4 (l++[b]) V'/\w7.heap[bx]?=some (.cells (ym 20 0 nm of V) 127 (0,0)):=by
 have h6:=h.on X8 O1;obtain⟨l1,l2,l3⟩:=h.low;have L1:yr w6 (w6.alloc (.cells cs 127)):=zO.alloc zP _;have hrow:∀g,V.ownBlock=some g->lo<=g/\g<w6.heap.size:=λg hg=>h6.own.lt g hg
 have zA:∀q,q<w6.heap.size->some q≠V.ownBlock->w7.heap[q]?=w6.heap[q]?:=λq hq hn=>(hgr.block q zr hn).trans (L1.block q hq)
 have hsz:w6.heap.size<w7.heap.size:=by have:=hgr.size;simp at this;omega
 have X4:w7.heap[bx]?=some (.cells (ym 20 0 nm of V) 127 (0,0)):=(zA bx (Jb h6.box) λe=>by have:=hrow bx e.symm;omega).trans h6.box;have SD:(w7.setCell ⟨bx,4,none⟩ V').heap.size=w7.heap.size:=by simp[World.setCell]
 have hst:Chg [bx] w7 (w7.setCell ⟨bx,4,none⟩ V'):=(Chg.refl _ _).setCell (.inl (by simp:bx∈[bx])) (p:=⟨bx,4,none⟩) V';have F4:∀q,q<w6.heap.size->some q≠V.ownBlock->q≠bx->(w7.setCell ⟨bx,4,none⟩ V').heap[q]?=w6.heap[q]?:=λq hq hn hne=>(hst.block q zo (by simpa using hne)).trans (zA q hq hn)
 have xA:∀(q:Addr) u,q.block<w6.heap.size->some q.block≠V.ownBlock->q.block≠bx->w6.cell? q=some u->(w7.setCell ⟨bx,4,none⟩ V').cell? q=some u:=λq u h1 h2 h3 h4=>(World.cell?_of_block (F4 q.block h1 h2 h3)).trans h4
 have M4:∀q∈Qak (l++[b]),lo<=q/\q<w6.heap.size:=by
  intro q hq;rw[Vw]at hq
  rcases List.mem_append.1 hq with hq|hq
  ·have h1:=h.fts.2 q hq;have h2:=O1.size;exact⟨h1.1,by omega⟩
  ·have h1:=S9.2 q hq;have h2:=h.lle;exact⟨by omega,h1.2⟩
 have yA:∀q∈Qak (l++[b]),some q≠V.ownBlock:=by
  intro q hq e;rw[Vw]at hq
  rcases List.mem_append.1 hq with hq|hq
  ·exact h.dis q e.symm hq
  ·have h1:=(h.own.lt q e.symm).2;have h2:=(S9.2 q hq).1;omega
 obtain⟨tb,ot,hA,uA,vA⟩:=X8.toks;have aA:=hT _ _ hA;refine⟨⟨⟨?_,⟨tb,ot,hA,uA,λi t hi j u hu=>?_⟩,X8.lt,X8.fin,X8.room⟩,?_,?_,⟨?_,?_⟩,?_,?_,?_,?_,h.low,?_⟩,X4⟩
 ·exact(F4 p X8.chg1 (λe=>by have:=hrow p e.symm;omega) zo).trans X8.self
 ·exact xA _ u (by have:=h6.chg.size;show tb<_;omega) (λe=>by have:=hrow tb e.symm;omega) (by show tb≠bx;omega) (vA i t hi j u hu)
 ·exact JA hown hst zr
 ·intro a ha
  rcases List.mem_append.1 ha with ha'|ha'
  ·exact JK a (h6.ats a ha') λq hq=>F4 q (M4 q (JC ha q hq)).2 (yA q (JC ha q hq)) (zu ((M4 q (JC ha q hq)).1))
  ·obtain rfl:a=b:=by simpa using ha'
   exact JK a TA λq hq=>F4 q (M4 q (JC ha q hq)).2 (yA q (JC ha q hq)) (zu ((M4 q (JC ha q hq)).1))
 ·rw[Vw]
  exact List.nodup_append.2 ⟨h.fts.1,S9.1,λx hx y hy e=>by
   subst e;have:=(h.fts.2 x hx).2;have:=(S9.2 x hy).1
   omega⟩
 ·intro q hq;have:=M4 q hq;rw[SD];omega
 ·intro g hg hm;have h1:=M4 g hm
  rcases O0 with e|e
  ·exact yA g hm (hg.symm.trans e)
  ·rw[e]at hg;simp at hg;omega
 ·have:=Jm X4 4 V';exact this
 ·exact(F4 _ (Jb h6.res) (λe=>by have:=hrow _ e.symm;omega) zo).trans h6.res
 ·refine⟨?_,?_,?_,?_,λq hq hn=>?_⟩
  ·exact hgr.os.trans h6.chg.os
  ·exact hgr.tape.trans h6.chg.tape
  ·exact hgr.output.trans h6.chg.output
  ·have:=h6.chg.size;rw[SD];omega
  ·exact(F4 q (Nat.lt_of_lt_of_le hq h6.chg.size) (λe=>by have:=hrow q e.symm;omega) zo).trans (h6.chg.block q hq hn)
 ·have:=h6.lle;rw[SD];omega
def Jck(r:List Tok):(∃nm r',Qbb r=.ok nm r')\/Qbb r=.bad (hd r).off:=by
 unfold Qbb;split
 ·exact .inl ⟨_,_,rfl⟩
 ·exact .inr rfl
def Jjz(f:Nat)(r:List Tok):pM (f+1) .named r=(Qbb r).bind λnm r1=>
   match acc 3 [40] r1 with
   |none=>.ok (.mk 2 0 nm.1 nm.2 []) r1
   |some r2=>
    match acc 3 [41] r2 with
    |some r3=>.ok (.mk 20 0 nm.1 nm.2 []) r3
    |none=>pM f (.args nm.1 nm.2 []) r2:=by rw[pM];rfl
def JlR(f:Nat)(nm:By)(o:Int)(l:List Nd)(r:List Tok):pM (f+1) (.args nm o l) r=(pM f .expr r).bind λa r1=>
   match acc 3 [44] r1 with
   |some r2=>pM f (.args nm o (l++[a])) r2
   |none=>(Qar 3 [41] r1).bind λ_ r2=>.ok (.mk 20 0 nm o (l++[a])) r2:=by rw[pM];rfl
variable{X:Obj}
def Jf{b:Nat}{o:Obj}(h:W.heap[b]?=some o):(W.alloc X).heap[b]?=some o:=(heap_alloc_old _ _ (Jb h)).trans h
structure NmB(nm:By)(of kd:Int)(p:Nat)(A:Option Addr)(C:Nat)(T:List Tok)(w:World)(bx:Nat)(W:World)(k2:Nat):Prop where
 pat:PAt W p A C T k2
 box:W.heap[bx]?=some (.cells (ym kd 0 nm of Nl) 127 (0,0))
 res:W.heap[w.heap.size]?=some (.cells (yj 0 0 Em 0 Nl) 127 (0,0))
 chg:Chg [p] w W
 low:w.heap.size<bx/\p<w.heap.size
def NmB.on{kd:Int}{wr:World}(h:NmB nm of kd p A C T w bx wr k2)(hP:PAt W p A C T k3)(hc:Chg [p] wr W):NmB nm of kd p A C T w bx W k3:=by
 obtain⟨l1,l2⟩:=h.low;exact⟨hP,hc.heap_some zr h.box,hc.heap_some zr h.res,h.chg.trans hc,h.low⟩
def NmB.set{kd:Int}(h:NmB nm of kd p A C T w bx W k2)(hT:∀b o,A=some ⟨b,o,none⟩->b<w.heap.size)(kd':Int):NmB nm of kd' p A C T w bx (W.setCell ⟨bx,0,none⟩ (Iv kd')) k2:=by
 obtain⟨l1,l2⟩:=h.low;have hc:Chg [bx] W (W.setCell ⟨bx,0,none⟩ (Iv kd')):=(Chg.refl _ _).setCell (.inl (by simp:bx∈[bx])) (p:=⟨bx,0,none⟩) _;refine⟨h.pat.setFar zo (λb o e=>by have:=hT b o e;omega) 0 _,?_,hc.heap_some zr h.res,h.chg.step hc λq hq=>.inr (by simp at hq;omega),h.low⟩;have:=Jm h.box 0 (Iv kd');exact this
def NmB.start(h:NmB nm of 20 p A C T w bx W k2):NmI nm of p A C T w W.heap.size bx W k2 [] Nl:=by
 obtain⟨l1,l2⟩:=h.low;exact⟨h.pat,World.ownsRow_nil _ _ _ _,by simp,by simp[Qak],by simp[Qak],h.box,h.res,h.chg,⟨l1,Jb h.box,l2⟩,le_refl _⟩
def NmI.fin{wr:World}(h:NmI nm of p A C T w lo bx wr k2 l V)(hl:l≠[])(hT:∀b o,A=some ⟨b,o,none⟩->b<w.heap.size):
  ∃g c,V=.slice (some ⟨g,0,none⟩) l.length c/\∀v0 v1 v2 v3 v4,(An.mk 20 0 nm of g c l).At (put5 wr w.heap.size v0 v1 v2 v3 v4)/\Qce w.heap.size (put5 wr w.heap.size v0 v1 v2 v3 v4).heap.size (An.mk 20 0 nm of g c l)/\PAt (put5 wr w.heap.size v0 v1 v2 v3 v4) p A C T k2/\Chg [p] w (put5 wr w.heap.size v0 v1 v2 v3 v4):=by
 obtain⟨l1,l2,l3⟩:=h.low
 rcases h.own.2 with⟨_,e⟩|⟨g,c,cur,rfl,hg,EC,hn,hm,hs,ht⟩
 ·exact absurd (List.eq_nil_of_length_eq_zero e) hl
 have hlt:=Jb EC;refine⟨g,c,rfl,λv0 v1 v2 v3 v4=>?_⟩;have hc:=Kj (S:=[w.heap.size]) (W:=wr) v0 v1 v2 v3 v4 (by simp:w.heap.size∈[w.heap.size]);have hrow:(put5 wr w.heap.size v0 v1 v2 v3 v4).heap[g]?=some (.cells cur 127 (0,0)):=hc.heap_some zr EC;refine⟨?_,?_,h.pat.put5 zo (λb o e=>by have:=hT b o e;omega) _ _ _ _ _,h.chg.step hc λb hb=>.inr (by simp at hb;omega)⟩
 ·unfold An.At;refine⟨λ_ j=>Jc hrow j,KN l 0 (λj u hu=>?_) λa ha=>?_⟩
  ·rw[Nat.zero_mul,Nat.zero_add,Ja hrow];rw[<-ht,List.getElem?_take]at hu;split at hu
   ·simpa using hu
   ·cases hu
  ·exact JK a (h.ats a ha) λb hb=>by
    have:=h.fts.2 b (JC ha b hb);exact hc.block b this.2 zr
 ·rw[Kl]
  cases l with
  |nil=>exact absurd rfl hl
  |cons x r=>
   unfold Qce foot;refine⟨List.nodup_cons.2 ⟨h.dis g rfl,h.fts.1⟩,λq hq=>?_⟩
   rcases List.mem_cons.1 hq with rfl|hq
   ·exact⟨by omega,hlt⟩
   ·have:=h.fts.2 q hq;exact⟨by omega,this.2⟩
def Qid{P:Prop}(h:P:=by
  rw[HR.o,L3.o];obtain⟨e1,e2⟩:=Jbv T2.o.pat T2.o.chg D3.o W6.o _ _ _ _ _
  exact⟨_,JdH _ _ _ _,rfl,JdD _ _ _ _ _,ZH _ _ _ _ _ _,⟨_,rfl,e1⟩,e2⟩):P:=h
def JgX(f p:Nat)(A:Option Addr)(C:Nat)(T:List Tok)(hf:f<=100000000)(hx:∀t∈T,t.text.length<=1000000)
  (I1:∀g,g<=f->∀k w,PAt w p A C T k->pM g .expr (T.drop k)≠.out->Calls prog 88 #[Pt p] w (NdP p A C T w (pM g .expr (T.drop k))))
  (k:Nat) (w:World) (h:PAt w p A C T k) (hne:pM (f+1) .named (T.drop k)≠.out):
  Calls prog 169 #[Pt p] w (NdP p A C T w (pM (f+1) .named (T.drop k))):=by
 obtain⟨X,hX⟩:∃X,pM (f+1) .named (T.drop k)=X:=⟨_,rfl⟩
 have iA:=Jjz f (T.drop k);rw[hX]at hne iA |-;obtain⟨R,hR⟩:∃R,NdP p A C T w X=R:=⟨_,rfl⟩
 rw[hR];have HR:Hi (R=NdP p A C T w X):=hR.symm;have N3:=Zh hne;have hZ:=zQ w (.cells #[Iv 0,Iv 0,Em,Iv 0,Nl] 127);have hB:=(Below.refl w.heap.size w).alloc zP (.cells #[Iv 0,Iv 0,Em,Iv 0,Nl] 127);have HP:=Zh (h.chg hB);have HZ:=Zh hZ;have HB:=Zh hB;have D3:=Zh h.chg1;have W6:=Zh h.tokLt;have jA:=Zh iA;have I6:w.heap.size≠p:=by have:=D3.o;omega
 clear h hne hR hZ hB iA hX;go_enter func169,ntmps169;go_wp2_with fail;refine(VO p A C T k _ HP.o hx).mono ?_;intro e w1 h1
 rcases Jck (T.drop k) with⟨nm,r,hi⟩|hi
 ·rw[hi]at h1;obtain⟨rfl,⟨k1,rfl,R5⟩,hc1⟩:=h1;have nA:=hc1.heap_some (by simp;exact I6) HZ.o
  have B0:Hi (X=(match acc 3 [40] (T.drop k1) with
   |none=>.ok (.mk 2 0 nm.1 nm.2 []) (T.drop k1)
   |some r2=>
    match acc 3 [41] r2 with
    |some r3=>.ok (.mk 20 0 nm.1 nm.2 []) r3
    |none=>pM f (.args nm.1 nm.2 []) r2)):=by rw[Hi,jA.o,hi];rfl
  have R9:=Zh R5;have Q3:=Zh ((Chg.of_below HB.o [p]).trans hc1);have hA:=Zh nA;clear hi R5 hc1 nA jA HP HB HZ;obtain⟨nm,of⟩:=nm;unfold Qgh;dsimp only at B0 |-
  have T2:Hi (NmB nm of 2 p A C T w (w1.heap.size+1) ((w1.alloc (.cells #[Sv nm,Iv of] 144)).alloc (.cells #[Iv 2,Iv 0,Sv nm,Iv of,Nl] 127)) k1):=by
   have hb:Below w1.heap.size w1 ((w1.alloc (.cells #[Sv nm,Iv of] 144)).alloc (.cells #[Iv 2,Iv 0,Sv nm,Iv of,Nl] 127)):=(zO.alloc zP _).alloc zq _;have hn:=zQ (w1.alloc (.cells #[Sv nm,Iv of] 144)) (.cells #[Iv 2,Iv 0,Sv nm,Iv of,Nl] 127);rw[World.size_alloc]at hn;exact⟨R9.o.chg hb,hn,(hb.block _ (Jb hA.o)).trans hA.o,Q3.o.trans (Chg.of_below hb [p]),by have:=Jb hA.o;omega,D3.o⟩
  clear R9 Q3 hA;go_wp2_with fail;generalize World.alloc (World.alloc w1 _) _=W2 at*;generalize w1.heap.size+1=bx at*;generalize w1.heap.size=lb at*;have rA:bx≠w.heap.size:=by have:=T2.o.low;omega
  have yB:w.heap.size≠bx:=by have:=T2.o.low;omega
  have tA:bx≠p:=by have:=T2.o.low;omega
  have sA:p≠bx:=by have:=T2.o.low;omega
  refine(Jt p A C T k1 3 [40] W2 T2.o.pat zp).mono ?_;intro e w3 h2
  rcases h2 with⟨g1,g2,rfl,F1,S1⟩|⟨g1,rfl,I0⟩
  ·have xA:=B0.o;rw[JN g1 g2]at xA;dsimp only at xA;have L3:=Zh xA;replace T2:=Zh (T2.o.on F1 S1);have mA:=Zh (T2.o.set W6.o 20);have f0:=Jc T2.o.box 0;have b0:=Ja T2.o.box 0;have uB:=Jb T2.o.box;simp only[zW]at b0;clear g1 g2 F1 S1 xA B0;go_wp2_with fail;clear f0 b0 uB T2;have T2:=mA;clear mA;generalize World.setCell w3 _ _=W3 at*;refine(Jt p A C T (k1+1) 3 [41] W3 T2.o.pat zp).mono ?_;intro e w4 h4
   rcases h4 with⟨g1,g2,rfl,F1,S1⟩|⟨g1,rfl,I0⟩
   ·have xA:=L3.o;rw[JN g1 g2]at xA;dsimp only at xA;replace L3:=Zh xA;replace T2:=Zh (T2.o.on F1 S1);clear g1 g2 F1 S1 xA;have M1:=T2.o.res;have R0:=T2.o.box;have b5:=Jl R0;have z5:=Jl M1;have y5:=Js M1;clear M1 R0 I1;go_wp2;refine bodyPost_ret (v:=.agg (Qaa (QcL 20 0 nm of))) (by rw[Kg];exact results_cell_row rfl _ _ w.heap.size 127 _ (0,0) _ rfl (Qcv _ _ _ _ _ T2.o.res) underlying127 rfl Qau) rfl ?_;exact Qid
   ·have xA:=L3.o;rw[Kf g1]at xA;dsimp only at xA;replace L3:=Zh xA;replace T2:=Zh (T2.o.on (T2.o.pat.chg I0) (Chg.of_below I0 [p]));have kA:Hi (∃k2 l V,NmI nm of p A C T w w4.heap.size bx w4 k2 l V/\pM f (.args nm of (ndL l)) (T.drop k2)=X/\f+l.length<=f):=⟨_,[],_,T2.o.start,L3.o.symm,le_refl _⟩
    generalize w4.heap.size=lo at*;clear g1 I0 xA L3 T2;go_wp2_with fail;go_loopg [] f λg wr=>Hi (∃k2 l V,NmI nm of p A C T w lo bx wr k2 l V/\pM g (.args nm of (ndL l)) (T.drop k2)=X/\g+l.length<=f)
    case atStart=>exact kA
    case round=>
    clear kA;obtain⟨wl,rfl⟩:=zJ wr;obtain⟨k2,l,V,hI,vA,qA⟩:=hrel.o
    cases gk with
    |zero=>exact absurd vA.symm N3.o
    |succ f2=>
    obtain⟨va,vn,vc,rfl⟩:=Jk hI.own;rw[JlR]at vA;have S6:pM f2 .expr (T.drop k2)≠.out:=KB (by rw[vA];exact N3.o);have hD:Below wl.heap.size wl wl.drew:=(Below.refl wl.heap.size wl).drew;have HI:=Zh (hI.on (hI.pat.chg hD) (Chg.of_below hD [p]));have dA:=Zh vA;have xB:l.length<=100000000:=zo;have C7:f2<=f:=zo;have zB:Hi (f2+1+l.length<=f):=qA;clear hI vA qA hrel hD;go_upto_region 8 with fail;have b4:=Ja HI.o.box 4;simp only[zW]at b4;refine LB (λW=>W.cell? ⟨bx,4,none⟩=some (.slice va vn vc)) 7 (by simp[*,World.cell?_alloc_some]) λhH=>?_
    refine LK 0 rfl ?_;refine LK 1 rfl ?_;refine LK 2 rfl ?_;refine LO 3 rfl λK hK=>?_
    go_simp;go_at_call 88;refine NdP.call (I1 f2 C7 k2 _ HI.o.pat S6) S6 (λq _ XA O1=>by exact⟨rfl,by rw[HR.o,<-dA.o,XA];exact⟨rfl,HI.o.chg.trans O1⟩⟩) λb w6 k4 yA yn yc XA Q4 B=>?_
    have eA:=Zh (HI.o.on B.2.2.1 B.2.2.2);have bA:=Zh B;have M7:=Zh XA;have HOW:=Zh (eA.o.own.alloc (.cells #[Iv b.kind,Iv b.num,.string (bs b.name),Iv b.off,.slice yA yn yc] 127));have R3:Hi ((w6.alloc (.cells #[Iv b.kind,Iv b.num,.string (bs b.name),Iv b.off,.slice yA yn yc] 127)).heap[w6.heap.size]?=some (.cells (Qaa b) 127 (0,0))):=by rw[Hi,Q4];exact zQ _ _
    have Q2:lo<=(w6.alloc (.cells #[Iv b.kind,Iv b.num,.string (bs b.name),Iv b.off,.slice yA yn yc] 127)).heap.size:=by have:=eA.o.lle;rw[World.size_alloc];omega
    replace b4:=Ja eA.o.box 4;simp only[zW]at b4;clear XA B Q4 S6 eA;refine zU hK (b4) λhH=>?_
    clear hK K;refine LO 4 rfl λK hK=>?_
    go_simp;refine zU hK (by simp[*,World.cell?_alloc_some]) λhH=>?_
    clear hK K;refine LO 5 rfl λK hK=>?_
    (refine Km (w6.alloc (.cells #[Iv b.kind,Iv b.num,.string (bs b.name),Iv b.off,.slice yA yn yc] 127)) zt (.tmp 21) (.tmp 24) zt lo (.slice va vn vc) l b zt HOW.o w6.heap.size zt R3.o xB Q2 ?_;intro v7 w7 N1 P3 O3)
    obtain⟨a7,m7,c7,rfl⟩:=Jk N1;obtain⟨hst,X4⟩:=NmI.step HI.o bA.o.1 bA.o.2.1 bA.o.2.2.1 bA.o.2.2.2 W6.o N1 P3 O3;have D2:=Zh hst;replace b4:=Ja X4 4;simp only[zW]at b4;have f4:=Jc X4 4;have T9:=Jb X4;clear N1 P3 O3 hst X4 HOW R3 Q2 bA;refine zU hK (b4) λhH=>?_
    clear hK K;refine LK 6 rfl ?_;refine LZ 7 rfl λK hK=>?_
    go_simp;clear b4 f4 T9;refine hK.out _ _ ?_;clear hK K;go_wp2_with fail;generalize World.setCell w7 _ _=W7 at*;refine(Jt p A C T k4 3 [44] W7 D2.o.pat zp).mono ?_;intro e w8 h8;have zA:=dA.o;rw[M7.o]at zA;simp only[PR.bind]at zA
    rcases h8 with⟨g1,g2,rfl,ME,NE⟩|⟨g1,rfl,L5⟩
    ·rw[JN g1 g2]at zA;dsimp only at zA;have uA:=Zh (D2.o.on ME NE);rw[<-Vf]at zA;have cA:=Zh zA;clear zA g1 g2 ME NE D2 dA M7;go_wp2;go_roundg f2
     case measure=>exact Nat.lt_succ_self _
     case rel=>exact⟨_,_,_,uA.o,cA.o,by have:=zB.o;rw[List.length_append,List.length_singleton];omega⟩
    ·rw[Kf g1]at zA;dsimp only at zA;have uA:=Zh (D2.o.on (D2.o.pat.chg L5) (Chg.of_below L5 [p]));rw[<-Vf]at zA;have cA:=Zh zA;clear zA g1 L5 D2 dA M7 I1;go_wp2_with fail;refine(Qdv p A C T k4 [41] w8 uA.o.pat).mono ?_;intro e w9 h9
     rcases KD 3 [41] (T.drop k4) with⟨r9,ha⟩|ha
     ·rw[ha]at h9;obtain⟨rfl,⟨k9,vB,pA⟩,O6⟩:=h9;subst vB;have gA:=Zh (uA.o.on pA O6);obtain⟨g9,c9,hV,aA⟩:=gA.o.fin zq W6.o;have aB:Hi (X=.ok (An.mk 20 0 nm of g9 c9 (l++[b])).nd (T.drop k9)):=by rw[Hi,<-cA.o,ha];rfl
      have C0:=Zh aA
      have R6:Hi (Qaa (An.mk 20 0 nm of g9 c9 (l++[b]))=#[Iv 20,Iv 0,Sv nm,Iv of,.slice a7 m7 c7]):=by
       rw[Hi,hV]
       show #[_,_,_,_,Qaz g9 c9 (l++[b])]=_
       unfold Qaz;rw[if_neg zq]
      have R0:=gA.o.box;have M1:=gA.o.res;have b5:=Jl R0;have z5:=Jl M1;have y5:=Js M1;have X5:=Zh M1;clear M1 R0 ha pA O6 hV aA gA uA cA;go_wp2;refine bodyPost_ret (v:=.agg (Qaa (An.mk 20 0 nm of g9 c9 (l++[b])))) (by rw[R6.o];exact results_cell_row rfl _ _ w.heap.size 127 _ (0,0) _ rfl (Qcv _ _ _ _ _ X5.o) underlying127 rfl Qau) rfl ?_;rw[HR.o,aB.o];exact QgU
     ·rw[ha]at h9;obtain⟨rfl,O6⟩:=h9;refine⟨rfl,?_⟩;rw[HR.o,<-cA.o,ha];exact⟨rfl,uA.o.chg.trans O6⟩
  ·have xA:=B0.o;rw[Kf g1]at xA;dsimp only at xA;have L3:=Zh xA;replace T2:=Zh (T2.o.on (T2.o.pat.chg I0) (Chg.of_below I0 [p]));clear g1 I0 xA B0;have M1:=T2.o.res;have R0:=T2.o.box;have b5:=Jl R0;have z5:=Jl M1;have y5:=Js M1;clear M1 R0 I1;go_wp2;refine bodyPost_ret (v:=.agg (Qaa (QcL 2 0 nm of))) (by rw[Kg];exact results_cell_row rfl _ _ w.heap.size 127 _ (0,0) _ rfl (Qcv _ _ _ _ _ T2.o.res) underlying127 rfl Qau) rfl ?_;exact Qid
 ·rw[hi]at h1;obtain⟨rfl,hc1⟩:=h1;refine⟨rfl,?_⟩;rw[HR.o,jA.o,hi];exact⟨rfl,(Chg.of_below HB.o [p]).trans hc1⟩
def Jnz(f:Nat){r1:List Tok}(h:acc 0 QgA r=some r1):pM (f+1) .expr r=(Qbb r1).bind λnm r2=>(Qar 3 [61] r2).bind λ_ r3=>(pM f .expr r3).bind λv r4=>(Qar 0 kIn r4).bind λ_ r5=>(pM f .expr r5).bind λb r6=>.ok (.mk 19 0 nm.1 (hd r).off [v,b]) r6:=by rw[pM,h]
def Jos(f:Nat){r1:List Tok}(h0:acc 0 QgA r=none)(h:acc 0 kIf r=some r1):pM (f+1) .expr r=(pM f .expr r1).bind λc r2=>(Qar 0 Qen r2).bind λ_ r3=>(pM f .expr r3).bind λy r4=>(Qar 0 Qfs r4).bind λ_ r5=>(pM f .expr r5).bind λz r6=>.ok (.mk 18 0 [] (hd r).off [c,y,z]) r6:=by rw[pM,h0,h]
def Jot(f:Nat)(h0:acc 0 QgA r=none)(h:acc 0 kIf r=none):pM (f+1) .expr r=pM f (.level 1) r:=by rw[pM,h0,h]
variable{α:Type}
def JgY{β:Type}(a:α)(r:List Tok)(f:α->List Tok->PR β):(PR.ok a r).bind f=f a r:=rfl
structure Bx(p lo hi:Nat)(W:World)(bx:Nat)(a:An):Prop where
 at':a.At W
 made:Qce lo hi a
 hle:lo<=hi/\hi<=W.heap.size
 box:W.heap[bx]?=some (.cells (Qaa a) 127 (0,0))
 ne:bx≠p
 lt:p<lo
def Bx.on(h:Bx p lo hi W bx a)(hc:Chg [p] W W'):Bx p lo hi W' bx a:=
 ⟨JaE h.at' h.made hc h.hle.2 λb hb=>by have:=h.lt;simp at hb;omega,h.made,⟨h.hle.1,Nat.le_trans h.hle.2 hc.size⟩,hc.heap_some (by simp;exact h.ne) h.box,h.ne,h.lt⟩
def Bx.make{w2 w3:World}(hat:a.At w3)(hm:Qce w2.heap.size w3.heap.size a)(hp:p<w2.heap.size)(hP:PAt w3 p A C T k)(hs:w2.heap.size<=w3.heap.size):Bx p w2.heap.size w3.heap.size (w3.alloc (.cells (Qaa a) 127)) w3.heap.size a:=
 ⟨K1 hat hm (zO.alloc zP _) zP,hm,⟨hs,by simp⟩,zQ _ _,Ne.symm (Nat.ne_of_lt hP.chg1),hp⟩
def Bx.cells{xA:Option Addr}{xn xc:Nat}(h:Bx p lo hi W bx a)(hf:Qaa a=(za a.kind a.num a.name a.off xA xn xc)):
  C5 W bx (Iv a.kind) (Iv a.num) (Sv a.name) (Iv a.off) (.slice xA xn xc):=by
 have:=h.box;rw[hf]at this;exact Jl this
def JjA(f p:Nat)(A:Option Addr)(C:Nat)(T:List Tok)(hx:∀t∈T,t.text.length<=1000000)
  (I1:∀k w,PAt w p A C T k->pM f .expr (T.drop k)≠.out->Calls prog 88 #[Pt p] w (NdP p A C T w (pM f .expr (T.drop k))))
  (I2:∀k w,PAt w p A C T k->pM f (.level 1) (T.drop k)≠.out->Calls prog 136 #[Pt p,Iv 1] w (NdP p A C T w (pM f (.level 1) (T.drop k))))
  (k:Nat) (w:World) (h:PAt w p A C T k) (hne:pM (f+1) .expr (T.drop k)≠.out):
  Calls prog 88 #[Pt p] w (NdP p A C T w (pM (f+1) .expr (T.drop k))):=by
 obtain⟨X,hX⟩:∃X,pM (f+1) .expr (T.drop k)=X:=⟨_,rfl⟩
 have C4:=Zh hX;rw[hX]at hne |-;obtain⟨R,hR⟩:∃R,R=NdP p A C T w X:=⟨_,rfl⟩
 rw[<-hR];have HR:=Zh hR;have N3:=Zh hne;have HS:=Zh (NS.start h);have cp:=Kp p A C T k _ HS.o.pat;obtain⟨of,nA⟩:∃of,(hd (T.drop k)).off=of:=⟨_,rfl⟩
 unfold Qfh at cp;have hfl:=JdG (hd (T.drop k));rw[nA]at hfl;have F8:=Zh nA;generalize Qda (hd (T.drop k))=tv at*;clear h hne hR nA hX;go_enter func88,ntmps88;go_wp2_with fail;refine cp.mono ?_;rintro e w1 ⟨rfl,L1⟩;replace HS:=Zh (HS.o.up L1);clear cp L1;go_wp2_with fail;refine(Jt p A C T k 0 QgA w1 HS.o.pat zp).mono ?_;intro e w2 h2
 rcases h2 with⟨g1,g2,rfl,F1,S1⟩|⟨g1,rfl,I0⟩
 ·have eA:=C4.o;rw[Jnz f (JN g1 g2),F8.o]at eA;have B0:=Zh eA;replace HS:=Zh (HS.o.on F1 S1);clear g1 g2 F1 S1 eA I2 C4 F8;go_wp2_with fail;refine PRp.call (VO p A C T (k+1) _ HS.o.pat hx) (JO B0.o N3.o) (λq _ hx hc=>by exact⟨rfl,HS.o.bad HR.o B0.o hx hc⟩) λnm w3 k3 oF hp hc=>?_
  obtain⟨nm,qA⟩:=nm;replace B0:=Zh (Jx B0.o oF);have bA:=Zh (zQ w3 (.cells #[Sv nm,Iv qA] 144));have hA:w3.heap.size≠p:=Ne.symm (Nat.ne_of_lt hp.chg1);replace HS:=Zh ((HS.o.on hp hc).new (.cells #[Sv nm,Iv qA] 144));clear oF hp hc hx;unfold Qgh;dsimp only;go_wp2_with fail;generalize World.alloc w3 _=w3' at*;generalize w3.heap.size=lb at*;go_wp2_with fail;refine PRp.call (Qdv p A C T k3 [61] _ HS.o.pat) (J6 _ _ _) (λq _ hx hc=>by exact⟨rfl,HS.o.bad HR.o B0.o hx hc⟩) λ_ w4 k4 hx hp hc=>?_
  replace B0:=Zh (Jx B0.o hx);replace HS:=Zh (HS.o.on hp hc);replace bA:=Zh (hc.heap_some (by simp;exact hA) bA.o);clear hx hp hc;go_wp2_with fail;refine NdP.call (I1 k4 _ HS.o.pat (JO B0.o N3.o)) (JO B0.o N3.o) (λq _ hx hc=>by exact⟨rfl,HS.o.bad HR.o B0.o hx hc⟩) λva w5 k5 vaA van vac hx T1 B=>?_
  have hc:=B.2.2.2.alloc (.cells (Qaa va) 127);have zA:=Zh (Bx.make B.1 B.2.1 HS.o.plt B.2.2.1 B.2.2.2.size);have cA:=Zh HS.o.lt;replace B0:=Zh (Jx B0.o hx);replace HS:=Zh ((HS.o.on B.2.2.1 B.2.2.2).new (.cells (Qaa va) 127));replace bA:=Zh (hc.heap_some (by simp;exact hA) bA.o);have vA:=Zh T1;rw[T1]at zA HS bA;clear hx T1 B hc;go_wp2_with fail;generalize World.alloc w5 _=w5' at*;generalize w5.heap.size=bxa at*;generalize w4.heap.size=lova at*;go_wp2_with fail;refine PRp.call (Qfn p A C T k5 kIn _ HS.o.pat) (J6 _ _ _) (λq _ hx hc=>by exact⟨rfl,HS.o.bad HR.o B0.o hx hc⟩) λ_ w6 k6 hx hp hc=>?_
  replace B0:=Zh (Jx B0.o hx);replace HS:=Zh (HS.o.on hp hc);replace bA:=Zh (hc.heap_some (by simp;exact hA) bA.o);replace zA:=Zh (zA.o.on hc);clear hx hp hc;have aA:=JO B0.o N3.o;go_upto_region 7 with fail;have hc:=Chg.of_below (Below.refl w6.heap.size w6).drew [p];replace HS:=Zh HS.o.dr;replace bA:=Zh (hc.heap_some (by simp;exact hA) bA.o);replace zA:=Zh (zA.o.on hc);have q1:=Jcg bA.o;have q2:=zA.o.cells vA.o;have gA:Hi (bxa<=w6.drew.heap.size):=zA.o.hle.2;refine LB (λW=>W.cell? ⟨lb,0,none⟩=some (Sv nm)/\C5 W bxa (Iv va.kind) (Iv va.num) (.string (bs va.name)) (Iv va.off) (.slice vaA van vac)) 8 (⟨q1,q2⟩) λhH=>?_
  refine LK 0 rfl ?_;refine LK 1 rfl ?_;refine LK 2 rfl ?_;refine LK 3 rfl ?_;refine LK 4 rfl ?_;refine LO 5 rfl λK hK=>?_
  go_simp;go_at_call 88;refine NdP.call (I1 k6 _ HS.o.pat aA) aA (λq _ hx hc=>by exact⟨rfl,HS.o.bad HR.o B0.o hx hc⟩) λb w9 k9 yA yn yc hx Q4 B=>?_
  have hc:=B.2.2.2;have iA:=Zh B;have j9:=Zh Q4;have kA:=Zh (Jx B0.o hx);replace HS:=Zh (HS.o.on B.2.2.1 B.2.2.2);replace bA:=Zh (hc.heap_some (by simp;exact hA) bA.o);replace zA:=Zh (zA.o.on hc);replace q1:=Jcg bA.o;replace q2:=zA.o.cells vA.o;have r5:=Jl HS.o.res;have f5:=Js HS.o.res;have N7:=HS.o.lt;clear hx Q4 B hc aA;refine zU hK (⟨q1,q2⟩) λhH=>?_
  clear hK K;refine LO 6 rfl λK hK=>?_
  go_simp;refine zU hK (by simp[*,C5,yV,World.cell?_alloc_some,World.cell?_setCell_far]) λhH=>?_
  clear hK K;refine LK 7 rfl ?_;refine LZ 8 rfl λK hK=>?_
  go_simp;clear q1 q2 r5 f5 N7;refine hK.out _ _ ?_;clear hK K;have mA:Hi (Qdi lova w9.heap.size [va,b]):=⟨bxa,zA.o.hle.1,zA.o.made,w9.heap.size,zA.o.hle.2,iA.o.2.1.mono gA.o zP,le_refl _⟩
  have C0:=Zh (λv0 v1 v2 v3 v4=>Zj (w:=w) (W3:=w9) (kids:=[va,b]) (cs:=#[Iv va.kind,Iv va.num,.string (bs va.name),Iv va.off,.slice vaA van vac,Iv b.kind,Iv b.num,.string (bs b.name),Iv b.off,.slice yA yn yc]) zq (by simp[Qdb,vA.o,j9.o]) (by simp;exact⟨zA.o.at',iA.o.1⟩) mA.o cA.o HS.o.pat HS.o.chg HS.o.pl HS.o.tl 19 0 nm of 2 v0 v1 v2 v3 v4);go_wp2;refine bodyPost_ret (v:=.agg (Qaa (An.mk 19 0 nm of w9.heap.size 2 [va,b]))) (results_cell_row rfl _ _ w.heap.size 127 _ (0,0) _ rfl (V6 _ _ _ _ _ _ HS.o.res) underlying127 rfl Qau) rfl ?_;rw[HR.o,<-kA.o];exact QgU
 ·have P4:=Kf g1;replace HS:=Zh (HS.o.up I0);clear g1 I0;go_wp2_with fail;refine(Jt p A C T k 0 kIf w2 HS.o.pat zp).mono ?_;intro e w3 h3
  rcases h3 with⟨g1,g2,rfl,F1,S1⟩|⟨g1,rfl,I0⟩
  ·have eA:=C4.o;rw[Jos f P4 (JN g1 g2),F8.o]at eA;have B0:=Zh eA;replace HS:=Zh (HS.o.on F1 S1);clear g1 g2 F1 S1 eA I2 C4 F8 P4 hx;go_wp2_with fail;refine NdP.call (I1 (k+1) _ HS.o.pat (JO B0.o N3.o)) (JO B0.o N3.o) (λq _ hx hc=>by exact⟨rfl,HS.o.bad HR.o B0.o hx hc⟩) λva w4 k4 vaA van vac hx T1 B=>?_
   have hc:=B.2.2.2.alloc (.cells (Qaa va) 127);have zA:=Zh (Bx.make B.1 B.2.1 HS.o.plt B.2.2.1 B.2.2.2.size);have cA:=Zh HS.o.lt;replace B0:=Zh (Jx B0.o hx);replace HS:=Zh ((HS.o.on B.2.2.1 B.2.2.2).new (.cells (Qaa va) 127));have vA:=Zh T1;rw[T1]at zA HS;clear hx T1 B hc;go_wp2_with fail;generalize World.alloc w4 _=w4' at*;generalize w4.heap.size=bxa at*;generalize w3.heap.size=lova at*;go_wp2_with fail;refine PRp.call (Qfn p A C T k4 Qen _ HS.o.pat) (J6 _ _ _) (λq _ hx hc=>by exact⟨rfl,HS.o.bad HR.o B0.o hx hc⟩) λ_ w5 k5 hx hp hc=>?_
   replace B0:=Zh (Jx B0.o hx);replace HS:=Zh (HS.o.on hp hc);replace zA:=Zh (zA.o.on hc);clear hx hp hc;go_wp2_with fail;refine NdP.call (I1 k5 _ HS.o.pat (JO B0.o N3.o)) (JO B0.o N3.o) (λq _ hx hc=>by exact⟨rfl,HS.o.bad HR.o B0.o hx hc⟩) λvb w6 k6 vbA vbn vbc hx T1 B=>?_
   have hc:=B.2.2.2.alloc (.cells (Qaa vb) 127);have jA:Hi (bxa<=w5.heap.size):=zA.o.hle.2;have uA:=Zh (Bx.make B.1 B.2.1 HS.o.plt B.2.2.1 B.2.2.2.size);have pA:=Zh HS.o.lt;replace B0:=Zh (Jx B0.o hx);replace HS:=Zh ((HS.o.on B.2.2.1 B.2.2.2).new (.cells (Qaa vb) 127));replace zA:=Zh (zA.o.on hc);have dA:=Zh T1;rw[T1]at uA HS zA;clear hx T1 B hc;go_wp2_with fail;generalize World.alloc w6 _=w6' at*;generalize w6.heap.size=bxb at*;generalize w5.heap.size=lovb at*;go_wp2_with fail;refine PRp.call (Qfn p A C T k6 Qfs _ HS.o.pat) (J6 _ _ _) (λq _ hx hc=>by exact⟨rfl,HS.o.bad HR.o B0.o hx hc⟩) λ_ w7 k7 hx hp hc=>?_
   replace B0:=Zh (Jx B0.o hx);replace HS:=Zh (HS.o.on hp hc);replace zA:=Zh (zA.o.on hc);replace uA:=Zh (uA.o.on hc);clear hx hp hc;have aA:=JO B0.o N3.o;go_upto_region 13 with fail;have hc:=Chg.of_below (Below.refl w7.heap.size w7).drew [p];replace HS:=Zh HS.o.dr;replace zA:=Zh (zA.o.on hc);replace uA:=Zh (uA.o.on hc);have q1:=zA.o.cells vA.o;have q2:=uA.o.cells dA.o;have gA:Hi (bxb<=w7.drew.heap.size):=uA.o.hle.2;refine LB (λW=>C5 W bxa (Iv va.kind) (Iv va.num) (.string (bs va.name)) (Iv va.off) (.slice vaA van vac)/\C5 W bxb (Iv vb.kind) (Iv vb.num) (.string (bs vb.name)) (Iv vb.off) (.slice vbA vbn vbc)) 7 (⟨q1,q2⟩) λhH=>?_
   refine LK 0 rfl ?_;refine LK 1 rfl ?_;refine LK 2 rfl ?_;refine LK 3 rfl ?_;refine LO 4 rfl λK hK=>?_
   go_simp;go_at_call 88;refine NdP.call (I1 k7 _ HS.o.pat aA) aA (λq _ hx hc=>by exact⟨rfl,HS.o.bad HR.o B0.o hx hc⟩) λb w9 k9 yA yn yc hx Q4 B=>?_
   have hc:=B.2.2.2;have iA:=Zh B;have j9:=Zh Q4;have kA:=Zh (Jx B0.o hx);replace HS:=Zh (HS.o.on B.2.2.1 B.2.2.2);replace zA:=Zh (zA.o.on hc);replace uA:=Zh (uA.o.on hc);replace q1:=zA.o.cells vA.o;replace q2:=uA.o.cells dA.o;have r5:=Jl HS.o.res;have f5:=Js HS.o.res;have N7:=HS.o.lt;clear hx Q4 B hc aA;refine zU hK (⟨q1,q2⟩) λhH=>?_
   clear hK K;refine LO 5 rfl λK hK=>?_
   go_simp;refine zU hK (by simp[*,C5,yV,World.cell?_alloc_some,World.cell?_setCell_far]) λhH=>?_
   clear hK K;refine LK 6 rfl ?_;refine LZ 7 rfl λK hK=>?_
   go_simp;clear q1 q2 r5 f5 N7;refine hK.out _ _ ?_;clear hK K;have mA:Hi (Qdi lova w9.heap.size [va,vb,b]):=⟨bxa,zA.o.hle.1,zA.o.made,bxb,Nat.le_trans jA.o uA.o.hle.1,uA.o.made.mono jA.o zP,w9.heap.size,uA.o.hle.2,iA.o.2.1.mono gA.o zP,le_refl _⟩
   have C0:=Zh (λv0 v1 v2 v3 v4=>Zj (w:=w) (W3:=w9) (kids:=[va,vb,b]) (cs:=#[Iv va.kind,Iv va.num,.string (bs va.name),Iv va.off,.slice vaA van vac,Iv vb.kind,Iv vb.num,.string (bs vb.name),Iv vb.off,.slice vbA vbn vbc,Iv b.kind,Iv b.num,.string (bs b.name),Iv b.off,.slice yA yn yc]) zq (by simp[Qdb,vA.o,dA.o,j9.o]) (by simp;exact⟨zA.o.at',uA.o.at',iA.o.1⟩) mA.o cA.o HS.o.pat HS.o.chg HS.o.pl HS.o.tl 18 0 [] of 3 v0 v1 v2 v3 v4);go_wp2;refine bodyPost_ret (v:=.agg (Qaa (An.mk 18 0 [] of w9.heap.size 3 [va,vb,b]))) (results_cell_row rfl _ _ w.heap.size 127 _ (0,0) _ rfl (V6 _ _ _ _ _ _ HS.o.res) underlying127 rfl Qau) rfl ?_;rw[HR.o,<-kA.o];exact QgU
  ·have eA:=C4.o;rw[Jot f P4 (Kf g1)]at eA;subst eA;replace HS:=Zh (HS.o.up I0);clear g1 I0 C4 F8 P4 hx I1;go_wp2_with fail;refine NdP.call (I2 k _ HS.o.pat N3.o) N3.o (λq _ hx hc=>by exact⟨rfl,by rw[HR.o,hx];exact⟨rfl,HS.o.chg.trans hc⟩⟩) λa w4 k4 xA xn xc hx T1 B=>?_
   have L4:=Zh (HS.o.pass B);have M7:=Zh hx;have R6:=Zh T1;have h5:=Jl (HS.o.on B.2.2.1 B.2.2.2).res;have y5:=Js (HS.o.on B.2.2.1 B.2.2.2).res;have SA:=Zh (HS.o.on B.2.2.1 B.2.2.2).res;clear hx T1 B I2;go_wp2;refine bodyPost_ret (v:=.agg (Qaa a)) (by rw[R6.o];exact results_cell_row rfl _ _ w.heap.size 127 _ (0,0) _ rfl (Qcv _ _ _ _ _ SA.o) underlying127 rfl Qau) rfl ?_;rw[HR.o,M7.o];obtain⟨e1,e2,e3,e4⟩:=L4.o _ _ _ _ _;exact⟨_,rfl,rfl,e1,e2,⟨k4,rfl,e3⟩,e4⟩
def putAt(b:Nat):World->Nat->List Value->World
 |W,_,[]=>W
 |W,j,v::l=>putAt b (W.setCell ⟨b,j,none⟩ v) (j+1) l
def Yj{S:List Nat}{b:Nat}(hb:b∈S):∀(l:List Value)(W:World)(j:Nat),Chg S W (putAt b W j l)
 |[],W,_=>Chg.refl S W
 |v::l,W,j=>((Chg.refl S W).setCell (.inl hb) (p:=⟨b,j,none⟩) v).trans (Yj hb l _ _)
def PAt.putAt{p q:Nat}{A:Option Addr}{C:Nat}{T:List Tok}{k:Nat}(h1:q≠p)(h2:∀b o,A=some ⟨b,o,none⟩->q≠b):∀(l:List Value){W:World}(j:Nat),PAt W p A C T k->PAt (putAt q W j l) p A C T k
 |[],_,_,h=>h
 |v::l,_,j,h=>PAt.putAt h1 h2 l (j+1) (h.setFar h1 h2 j v)
def Yk{b t:Nat}:∀(l:List Value)(pre old:List Value)(W:World),W.heap[b]?=some (.cells (pre++old).toArray t (0,0))->old.length=l.length->(putAt b W pre.length l).heap[b]?=some (.cells (pre++l).toArray t (0,0))
 |[],pre,old,W,h,hl=>by
  obtain rfl:old=[]:=List.eq_nil_of_length_eq_zero hl;exact h
 |v::l,pre,[],W,h,hl=>by cases hl
 |v::l,pre,x::old,W,h,hl=>by
  have h1:=heap_setCell_same _ _ pre.length _ _ v h
  have h2:=Yk (t:=t) l (pre++[v]) old (W.setCell ⟨b,pre.length,none⟩ v) (by
   rw[h1]
   simp) (by simpa using hl)
  simpa[putAt] using h2
def Jq{ops:Array Oper}{o:Oper}{ac:Act}{K:Act->World->Prop}{Q:Exit->Act->World->Prop}{E:Prop}(w:World)(hgd:o.guard=none)(s x:Operand)(t e:TypeId)(z:Value)(size bytes:Nat)
  (ho:o.op=.call {callee:=.builtin .append,args:=#[s,x],argTypes:=#[t,t]}) (ht:prog.underlying t=some (.slice e)) (hi:(prog.info? e).map (λi=>(i.zero,i.size,i.bytes))=some (some z,size,bytes)) (hzs:z.cells.size=size) (hsz:0<size)
  (base:Nat) (v:Value) (n:Nat) (xs news:List Value) (hs:ac.eval s=v)
  (hown:w.ownsRow base e size v n xs) (rb:Nat) (hx:ac.eval x=.slice (some ⟨rb,0,none⟩) 1 1) (hrow:w.heap[rb]?=some (.cells news.toArray e (0,0))) (hl:news.length=size) (h1:∀u∈news,u.oneCell'=true)
  (h63:n<=100000000) (hby:bytes<=1000) (hbase:base<=w.heap.size)
  (h:∀v' w',w'.ownsRow base e size v' (n+1) (xs++news)->w.grownBy w' v.ownBlock->(v'.ownBlock=v.ownBlock\/v'.ownBlock=some w.heap.size)->K (ac.put o.dst v') w'):
  if Region.wanted o (yielded ops ac.tmps)=true then Oper.wp prog o ac w K Q else E:=by
 have hw:Region.wanted o (yielded ops ac.tmps)=true:=by simp[Region.wanted,hgd]
 rw[if_pos hw];obtain⟨i0,hi,yA,zA,xA⟩:=info_parts hi
 obtain⟨v',w',hr,h1,h2,h3⟩:=KI (P:=prog) w base t o.type e i0 _ size bytes ht hi yA zA xA hzs hsz v n xs hown ⟨rb,0,none⟩ 1 1 news zo (λj u hj=>by
  rw[show (⟨rb,0,none⟩:Addr).add j=⟨rb,j,none⟩ by unfold Addr.add;split<;>simp_all]
  exact KP hrow hj) h1 zp (by unfold maxLen;omega) (by
   have:=Nat.mul_le_mul (show n+1<=100000001 by omega) hby
   omega) hbase
 unfold Oper.wp execOp;simp only[ho,resolve,invoke,builtin,Sem.run_bind,Sem.run_pure,Result.andThen_ok,List.map_toArray,List.map_cons,List.map_nil,hs,hx,hr];exact h v' w' h1 h2 h3
def Qfe:(prog.info? 144).map (λi=>(i.zero,i.size,i.bytes))=some (some (.agg #[Em,Iv 0]),2,24):=zk
def Qgj:(prog.info? 147).map (·.size)=some 10:=zk
def QcP:(prog.info? 3).map (λi=>(i.zero,i.size,i.bytes))=some (some (Iv 0),1,8):=zk
def VP{b1 b2 e1 e2 n1 n2 s1 s2:Nat}{v1 v2:Value}{x1 x2:List Value}(h1:w.ownsRow b1 e1 s1 v1 n1 x1)(h2:w.ownsRow b2 e2 s2 v2 n2 x2)(hne:e1≠e2):v1.ownBlock=none\/v1.ownBlock≠v2.ownBlock:=by
 rcases h1.2 with⟨rfl,_⟩|⟨g,cap,cur,rfl,_,hg,_⟩
 ·exact .inl rfl
 ·refine .inr λe=>?_
  rcases h2.2 with⟨rfl,_⟩|⟨g2,cap2,cur2,rfl,_,IG,_⟩
  ·simp[Value.ownBlock]at e
  ·simp[Value.ownBlock]at e;subst e;rw[hg]at IG;simp at IG;exact hne IG.2
def QbQ(l:List (By×Int)):List Value:=l.flatMap λx=>[.string (bs x.1),Iv x.2]
def Qad(l:List Int):List Value:=l.map λn=>Iv n
def Jcl(l:List (By×Int))(x:By×Int):QbQ (l++[x])=QbQ l++[.string (bs x.1),Iv x.2]:=by simp[QbQ]
def Jcm(l:List Int)(x:Int):Qad (l++[x])=Qad l++[Iv x]:=by simp[Qad]
structure FnA where
 name:By
 off:Int
 params:List (By×Int)
 types:List Int
 result:Int
 body:An
 pv:Value
 tv:Value
 lo:Nat
 hi:Nat
def FnA.src(f:FnA):FnS:=⟨(f.name,f.off),f.params,f.types,f.result,f.body.nd⟩
def FnA.cells(f:FnA):List Value:=[Sv f.name,Iv f.off,f.pv,f.tv,Iv f.result]++(Qaa f.body).toList
structure FnA.Ok(W:World)(f:FnA):Prop where
 pown:W.ownsRow f.lo 144 2 f.pv f.params.length (QbQ f.params)
 town:W.ownsRow f.lo 3 1 f.tv f.types.length (Qad f.types)
 bat:f.body.At W
 bmd:∃m,f.lo<=m/\m<=f.hi/\(∀g,f.pv.ownBlock=some g->g<m)/\(∀g,f.tv.ownBlock=some g->g<m)/\Qce m f.hi f.body
 hle:f.hi<=W.heap.size
def FnA.Ok.chg{f:FnA}(h:f.Ok W)(hc:Chg S W W')(hs:∀b∈S,b<f.lo\/f.hi<=b):f.Ok W':=by
 obtain⟨m,m1,m2,m3,m4,m5⟩:=h.bmd
 have hk:∀{e size n:Nat}{v:Value}{xs:List Value},W.ownsRow f.lo e size v n xs->(∀g,v.ownBlock=some g->g<m)->W'.ownsRow f.lo e size v n xs:=by
  intro e size n v xs ho hm;refine⟨ho.1,ho.2.imp id ?_⟩;rintro⟨g,cap,cur,rfl,h2,h3,h4⟩;have:=hm g rfl;exact⟨g,cap,cur,rfl,h2,hc.heap_some (λhm=>by rcases hs g hm with h|h<;>omega) h3,h4⟩
 exact⟨hk h.pown m3,hk h.town m4,JK _ h.bat λb hb=>hc.block b (zv ((m5.2 b hb).2) h.hle) λhm=>by have:=m5.2 b hb;rcases hs b hm with h|h<;>omega,⟨m,m1,m2,m3,m4,m5⟩,Nat.le_trans h.hle hc.size⟩
def FnP(p:Nat)(A:Option Addr)(C:Nat)(T:List Tok)(w:World)(x:PR FnS)(e:Ending)(w':World):Prop:=
 match x with
 |.out=>True
 |.bad o=>QgN p w o e w'
 |.ok fs r=>∃f:FnA,f.src=fs/\e=.returned (.agg f.cells.toArray)/\f.Ok w'/\w.heap.size<=f.lo/\f.lo<=f.hi/\(∃k',r=T.drop k'/\PAt w' p A C T k')/\Chg [p] w w'
structure FnB(nm:By)(of:Int)(p:Nat)(A:Option Addr)(C:Nat)(T:List Tok)(w:World)(bx:Nat)(W:World)(k2:Nat)(pv tv:Value)(res:Int)(ps:List (By×Int))(ts:List Int):Prop where
 pat:PAt W p A C T k2
 box:W.heap[bx]?=some (.cells #[Sv nm,Iv of,pv,tv,Iv res,Iv 0,Iv 0,Em,Iv 0,Nl] 147 (0,0))
 rs:W.heap[w.heap.size]?=some (.cells #[Em,Iv 0,Nl,Nl,Iv 0,Iv 0,Iv 0,Em,Iv 0,Nl] 147 (0,0))
 chg:Chg [p] w W
 low:w.heap.size<bx/\p<w.heap.size
 pown:W.ownsRow (bx+1) 144 2 pv ps.length (QbQ ps)
 town:W.ownsRow (bx+1) 3 1 tv ts.length (Qad ts)
section
variable {nm:By}{of:Int}{p:Nat}{A:Option Addr}{C:Nat}{T:List Tok}{w:World}{bx:Nat}{W:World}{k2:Nat}{pv tv:Value}{res:Int}{ps:List (By×Int)}{ts:List Int}
def FnB.on(h:FnB nm of p A C T w bx W k2 pv tv res ps ts)(hP:PAt W' p A C T k3)(hc:Chg [p] W W'):FnB nm of p A C T w bx W' k3 pv tv res ps ts:=by
 obtain⟨l1,l2⟩:=h.low;exact⟨hP,hc.heap_some zr h.box,hc.heap_some zr h.rs,h.chg.trans hc,h.low,JA h.pown hc zr,JA h.town hc zr⟩
def FnB.bad{x:PR α}{g:α->List Tok->PR FnS}{X:PR FnS}{R:Ending->World->Prop}{q:Int}(h:FnB nm of p A C T w bx W k2 pv tv res ps ts)(hR:R=FnP p A C T w X)(hX:x.bind g=X)(hx:x=.bad q)(hc:Chg [p] W W'):R (.panicked [{v:=Qeo q,recovered:=false}]) W':=by
 subst hx hX hR;exact⟨rfl,h.chg.trans hc⟩
def FnB.cell{j:Nat}{u:Value}(h:FnB nm of p A C T w bx W k2 pv tv res ps ts)(hu:[Sv nm,Iv of,pv,tv,Iv res][j]?=some u):W.cell? ⟨bx,j,none⟩=some u:=by
 rw[Ja h.box];have hj:j<5:=(List.getElem?_eq_some_iff.1 hu).1;rw[List.getElem?_toArray,<-hu]
 match j,hj with
 |0,_=>rfl
 |1,_=>rfl
 |2,_=>rfl
 |3,_=>rfl
 |4,_=>rfl
def FnB.set{j:Nat}{u:Value}(h:FnB nm of p A C T w bx W k2 pv tv res ps ts)(hT:∀b o,A=some ⟨b,o,none⟩->b<w.heap.size):
  PAt (W.setCell ⟨bx,j,none⟩ u) p A C T k2/\(W.setCell ⟨bx,j,none⟩ u).heap[w.heap.size]?=some (.cells #[Em,Iv 0,Nl,Nl,Iv 0,Iv 0,Iv 0,Em,Iv 0,Nl] 147 (0,0))/\Chg [p] w (W.setCell ⟨bx,j,none⟩ u)/\Chg [bx] W (W.setCell ⟨bx,j,none⟩ u):=by
 obtain⟨l1,l2⟩:=h.low;have hc:Chg [bx] W (W.setCell ⟨bx,j,none⟩ u):=(Chg.refl _ _).setCell (.inl (by simp:bx∈[bx])) (p:=⟨bx,j,none⟩) u;exact⟨h.pat.setFar zo (λb o e=>by have:=hT b o e;omega) j _,hc.heap_some zr h.rs,h.chg.step hc λq hq=>.inr (by simp at hq;omega),hc⟩
def FnB.setR(h:FnB nm of p A C T w bx W k2 pv tv res ps ts)(hT:∀b o,A=some ⟨b,o,none⟩->b<w.heap.size)(r:Int):FnB nm of p A C T w bx (W.setCell ⟨bx,4,none⟩ (Iv r)) k2 pv tv r ps ts:=by
 obtain⟨e1,e2,e3,e4⟩:=h.set (j:=4) (u:=Iv r) hT;have hb:=Jm h.box 4 (Iv r);exact⟨e1,hb,e2,e3,h.low,JA h.pown e4 zq,JA h.town e4 zq⟩
def FnB.grow(h:FnB nm of p A C T w bx w6 k2 pv tv res ps ts)(hT:∀b o,A=some ⟨b,o,none⟩->b<w.heap.size)(hv:∀g,v.ownBlock=some g->bx+1<=g)(hgr:(w6.alloc X).grownBy w7 v.ownBlock):
  PAt w7 p A C T k2/\w7.heap[bx]?=some (.cells #[Sv nm,Iv of,pv,tv,Iv res,Iv 0,Iv 0,Em,Iv 0,Nl] 147 (0,0))/\w7.heap[w.heap.size]?=some (.cells #[Em,Iv 0,Nl,Nl,Iv 0,Iv 0,Iv 0,Em,Iv 0,Nl] 147 (0,0))/\Chg [p] w w7:=by
 obtain⟨l1,l2⟩:=h.low;have hlt:=Jb h.box;have hk:∀q,q<=bx->w7.heap[q]?=w6.heap[q]?:=λq hq=>(hgr.block q zr λe=>by have:=hv q e.symm;omega).trans (heap_alloc_old _ _ zo)
 have hs:w6.heap.size<=w7.heap.size:=by have:=hgr.size;simp at this;omega
 obtain⟨tb,ot,hA,xA,yA⟩:=h.pat.toks;have zA:=hT _ _ hA;refine⟨⟨(hk p zo).trans h.pat.self,⟨tb,ot,hA,xA,λi t hi j u hu=>(World.cell?_of_block (hk tb zo)).trans (yA i t hi j u hu)⟩,h.pat.lt,h.pat.fin,h.pat.room⟩,(hk bx zP).trans h.box,(hk _ zo).trans h.rs,hgr.os.trans h.chg.os,hgr.tape.trans h.chg.tape,hgr.output.trans h.chg.output,Nat.le_trans h.chg.size hs,λq hq hn=>(hk q zo).trans (h.chg.block q hq hn)⟩
def Zk{b:Nat}{v2:Value}(h:w6.ownsRow b e size v n xs)(hgr:(w6.alloc X).grownBy w7 v2.ownBlock)(hd:v.ownBlock=none\/v.ownBlock≠v2.ownBlock):w7.ownsRow b e size v n xs:=(h.alloc X).kept hgr hd
def FnB.addP{pv':Value}{x:By×Int}(h:FnB nm of p A C T w bx w6 k2 pv tv res ps ts)(hT:∀b o,A=some ⟨b,o,none⟩->b<w.heap.size)(hown:w7.ownsRow (bx+1) 144 2 pv' (ps.length+1) (QbQ ps++[.string (bs x.1),Iv x.2]))(hgr:(w6.alloc X).grownBy w7 pv.ownBlock):
  FnB nm of p A C T w bx (w7.setCell ⟨bx,2,none⟩ pv') k2 pv' tv res (ps++[x]) ts/\w7.heap[bx]?=some (.cells #[Sv nm,Iv of,pv,tv,Iv res,Iv 0,Iv 0,Em,Iv 0,Nl] 147 (0,0)):=by
 obtain⟨g1,g2,g3,g4⟩:=h.grow hT (λg hg=>(h.pown.lt g hg).1) hgr;have h7:FnB nm of p A C T w bx w7 k2 pv' tv res (ps++[x]) ts->True:=λ_=>trivial
 have XB:w7.ownsRow (bx+1) 3 1 tv ts.length (Qad ts):=Zk h.town hgr (VP h.town h.pown zp);have hc:Chg [bx] w7 (w7.setCell ⟨bx,2,none⟩ pv'):=(Chg.refl _ _).setCell (.inl (by simp:bx∈[bx])) (p:=⟨bx,2,none⟩) pv';obtain⟨l1,l2⟩:=h.low;refine⟨⟨g1.setFar zo (λb o e=>by have:=hT b o e;omega) 2 _,Jm g2 2 pv',hc.heap_some zr g3,g4.step hc λq hq=>.inr (by simp at hq;omega),h.low,?_,JA XB hc zq⟩,g2⟩;have:=JA hown hc zq;rw[Jcl,length_append];exact this
def FnB.addT{tv':Value}{x:Int}(h:FnB nm of p A C T w bx w6 k2 pv tv res ps ts)(hT:∀b o,A=some ⟨b,o,none⟩->b<w.heap.size)(hown:w7.ownsRow (bx+1) 3 1 tv' (ts.length+1) (Qad ts++[Iv x]))(hgr:(w6.alloc X).grownBy w7 tv.ownBlock):
  FnB nm of p A C T w bx (w7.setCell ⟨bx,3,none⟩ tv') k2 pv tv' res ps (ts++[x])/\w7.heap[bx]?=some (.cells #[Sv nm,Iv of,pv,tv,Iv res,Iv 0,Iv 0,Em,Iv 0,Nl] 147 (0,0)):=by
 obtain⟨g1,g2,g3,g4⟩:=h.grow hT (λg hg=>(h.town.lt g hg).1) hgr;have xA:w7.ownsRow (bx+1) 144 2 pv ps.length (QbQ ps):=Zk h.pown hgr (VP h.pown h.town zp);have hc:Chg [bx] w7 (w7.setCell ⟨bx,3,none⟩ tv'):=(Chg.refl _ _).setCell (.inl (by simp:bx∈[bx])) (p:=⟨bx,3,none⟩) tv';obtain⟨l1,l2⟩:=h.low;refine⟨⟨g1.setFar zo (λb o e=>by have:=hT b o e;omega) 3 _,Jm g2 3 tv',hc.heap_some zr g3,g4.step hc λq hq=>.inr (by simp at hq;omega),h.low,JA xA hc zq,?_⟩,g2⟩;have:=JA hown hc zq;rw[Jcm,length_append];exact this
def FnB.fin{w5 w9:World}{k9:Nat}(h:FnB nm of p A C T w bx w5 k2 pv tv res ps ts)(hat:a.At w9)(hm:Qce w5.heap.size w9.heap.size a)(hP:PAt w9 p A C T k9)(hc:Chg [p] w5 w9)(hT:∀b o,A=some ⟨b,o,none⟩->b<w.heap.size):
  (putAt bx w9 5 (Qaa a).toList).heap[bx]?=some (.cells (FnA.mk nm of ps ts res a pv tv (bx+1) w9.heap.size).cells.toArray 147 (0,0))/\(putAt bx w9 5 (Qaa a).toList).heap[w.heap.size]?=some (.cells #[Em,Iv 0,Nl,Nl,Iv 0,Iv 0,Iv 0,Em,Iv 0,Nl] 147 (0,0))/\
  ∀vs,(FnA.mk nm of ps ts res a pv tv (bx+1) w9.heap.size).Ok (putAt w.heap.size (putAt bx w9 5 (Qaa a).toList) 0 vs)/\PAt (putAt w.heap.size (putAt bx w9 5 (Qaa a).toList) 0 vs) p A C T k9/\Chg [p] w (putAt w.heap.size (putAt bx w9 5 (Qaa a).toList) 0 vs)/\w.heap.size<=bx+1/\bx+1<=w9.heap.size:=by
 obtain⟨l1,l2⟩:=h.low;have h9:=h.on hP hc;have hlt:=Jb h9.box;have zA:=Jb h.box;have c1:Chg [w.heap.size,bx] w9 (putAt bx w9 5 (Qaa a).toList):=Yj zq _ _ _;have xA:(Qaa a).toList.length=5:=by rw[Array.length_toList,J3]
 refine⟨?_,?_,λvs=>?_⟩
 ·exact Yk (Qaa a).toList [Sv nm,Iv of,pv,tv,Iv res] [Iv 0,Iv 0,Em,Iv 0,Nl] w9 h9.box (by rw[xA];rfl)
 ·exact(Yj (S:=[bx]) zq _ _ _).heap_some zr h9.rs
 ·have c2:Chg [w.heap.size,bx] w9 (putAt w.heap.size (putAt bx w9 5 (Qaa a).toList) 0 vs):=c1.trans (Yj zq _ _ _);have yA:(FnA.mk nm of ps ts res a pv tv (bx+1) w9.heap.size).Ok w9:=⟨h9.pown,h9.town,hat,⟨w5.heap.size,by show bx+1<=_;omega,hc.size,λg hg=>(h.pown.lt g hg).2,λg hg=>(h.town.lt g hg).2,hm⟩,le_refl _⟩
  refine⟨yA.chg c2 λb hb=>?_,?_,h9.chg.step c2 λq hq=>.inr ?_,by omega,by omega⟩
  ·simp only[List.mem_cons,List.not_mem_nil,or_false]at hb
   rcases hb with rfl|rfl
   ·exact .inl (by show _<bx+1;omega)
   ·exact .inl (by show _<_+1;omega)
  ·exact PAt.putAt zo (λb o e=>by have:=hT b o e;omega) _ _ (PAt.putAt zo (λb o e=>by have:=hT b o e;omega) _ _ hP)
  ·simp only[List.mem_cons,List.not_mem_nil,or_false]at hq;omega
end
def QiY(f:Nat)(ps:List (By×Int))(ts:List Int)(nm:By×Int)(t:Int)(r3:List Tok):PR (List (By×Int)×List Int):=
 match acc 3 [44] r3 with
 |some r4=>QaQ f (ps++[nm]) (ts++[t]) r4
 |none=>(Qar 3 [41] r3).bind λ_ r4=>.ok (ps++[nm],ts++[t]) r4
def QiZ(f:Nat)(ps:List (By×Int))(ts:List Int)(nm:By×Int)(r1:List Tok):PR (List (By×Int)×List Int):=
 (Qar 3 [58] r1).bind λ_ r2=>(Qdu r2).bind (QiY f ps ts nm)
def JfQ(f:Nat)(ps:List (By×Int))(ts:List Int)(r:List Tok):QaQ (f+1) ps ts r=(Qbb r).bind (QiZ f ps ts):=by rw[QaQ];rfl
def QgG(f:Nat)(nm:By×Int)(pt:List (By×Int)×List Int)(r3:List Tok):PR FnS:=
 (Qar 3 [58] r3).bind λ_ r4=>(Qdu r4).bind λt r5=>(Qar 3 [61] r5).bind λ_ r6=>(pM f .expr r6).bind λb r7=>.ok ⟨nm,pt.1,pt.2,t,b⟩ r7
def JlS(f:Nat)(r:List Tok):Qeg f r=(Qbb r).bind λnm r1=>(Qar 3 [40] r1).bind λ_ r2=>
  (match acc 3 [41] r2 with
   |some r3=>PR.ok ([],[]) r3
   |none=>QaQ f [] [] r2).bind (QgG f nm):=rfl
def Vg{β γ:Type}{x:PR α}{f:α->List Tok->PR β}{g:β->List Tok->PR γ}{X:PR γ}(h:(x.bind f).bind g=X):(x.bind λa r=>(f a r).bind g)=X:=by cases x<;>exact h
def JfR(r:List Tok):(∃t r',Qdu r=.ok t r')\/Qdu r=.bad (hd r).off:=by
 unfold Qdu;split
 ·exact .inl ⟨_,_,rfl⟩
 ·split
  ·exact .inl ⟨_,_,rfl⟩
  ·exact .inr rfl
def JdI(r:List Tok):Qdu r≠.out:=by
 rcases JfR r with⟨_,_,h⟩|h<;>rw[h]<;>exact λh=>by cases h
def QjE{P:Prop}(h:P:=by
  have T9:=Jb R0;clear N1 P3 O3 hst R0 HOW R3 Q2;refine hK.out _ _ (hcl) λhH=>?_
  clear hK K;refine LK 6 rfl ?_;refine LZ 7 rfl λK hK=>?_
  go_simp;clear hcl f4 T9;refine hK.out _ _ ?_;clear hK K;go_wp2_with fail;go_meet
  exact⟨_,_,_,_,_,D2.o,B0.o⟩):P:=h
def Qhq{P:Prop}(h:P:=by
  rw[HR.o,<-L3.o];obtain⟨e1,e2,e3,e4,e5⟩:=pF.o
  exact⟨_,rfl,by rw[j9.o _ _],e1,e4,e5,⟨k9,rfl,e2⟩,e3⟩):P:=h
def Jcn(f p:Nat)(A:Option Addr)(C:Nat)(T:List Tok)(hf:f<=100000000)(hx:∀t∈T,t.text.length<=1000000)
  (I1:∀k w,PAt w p A C T k->pM f .expr (T.drop k)≠.out->Calls prog 88 #[Pt p] w (NdP p A C T w (pM f .expr (T.drop k))))
  (k:Nat) (w:World) (h:PAt w p A C T k) (hne:Qeg f (T.drop k)≠.out):
  Calls prog 87 #[Pt p] w (FnP p A C T w (Qeg f (T.drop k))):=by
 obtain⟨X,hX⟩:=yt (Qeg f (T.drop k))
 have eA:=hX;rw[JlS]at eA;rw[hX]at hne |-;obtain⟨R,hR⟩:=yt (FnP p A C T w X)
 rw[hR];have HR:Hi (R=FnP p A C T w X):=hR.symm;have N3:=Zh hne;have hZ:=zQ w (.cells #[Em,Iv 0,Nl,Nl,Iv 0,Iv 0,Iv 0,Em,Iv 0,Nl] 147);have hB:=(Below.refl w.heap.size w).alloc zP (.cells #[Em,Iv 0,Nl,Nl,Iv 0,Iv 0,Iv 0,Em,Iv 0,Nl] 147);have HP:=Zh (h.chg hB);have HZ:=Zh hZ;have HC:=Zh (Chg.of_below hB [p]);have D3:=Zh h.chg1;have W6:=Zh h.tokLt;have B0:=Zh eA;have I6:w.heap.size≠p:=by have:=D3.o;omega
 clear h hne hR hZ hB eA hX;go_enter func87,ntmps87;go_wp2_with fail;refine PRp.call (VO p A C T k _ HP.o hx) (JO B0.o N3.o) (λq _ hi hc=>by exact⟨rfl,by rw[HR.o,<-B0.o,hi];exact⟨rfl,HC.o.trans hc⟩⟩) λnm w1 k1 hi R5 hc1=>?_
 obtain⟨nm,of⟩:=nm;replace B0:=Zh (Jx B0.o hi);unfold Qgh;dsimp only
 have A1:Hi (FnB nm of p A C T w w1.heap.size (w1.alloc (.cells #[Sv nm,Iv of,Nl,Nl,Iv 0,Iv 0,Iv 0,Em,Iv 0,Nl] 147)) k1 Nl Nl 0 [] []):=by
  have hb:yr w1 (w1.alloc (.cells #[Sv nm,Iv of,Nl,Nl,Iv 0,Iv 0,Iv 0,Em,Iv 0,Nl] 147)):=zO.alloc zP _;have hz:=hc1.heap_some (by simp;exact I6) HZ.o;exact⟨R5.chg hb,zQ _ _,(hb.block _ (Jb hz)).trans hz,(HC.o.trans hc1).alloc _,⟨Jb hz,D3.o⟩,World.ownsRow_nil _ _ _ _,World.ownsRow_nil _ _ _ _⟩
 clear hi R5 hc1 HP HZ HC;go_wp2_with fail;generalize World.alloc w1 _=W1 at*;generalize w1.heap.size=bx at*;have mA:bx≠w.heap.size:=by have:=A1.o.low;omega
 have pA:w.heap.size≠bx:=by have:=A1.o.low;omega
 have sA:bx≠p:=by have:=A1.o.low;omega
 go_wp2_with fail;refine PRp.call (Qdv p A C T k1 [40] _ A1.o.pat) (J6 _ _ _) (λq _ hx hc=>by exact⟨rfl,A1.o.bad HR.o B0.o hx hc⟩) λ_ w2 k2 hx hp hc=>?_
 replace B0:=Zh (Jx B0.o hx);replace A1:=Zh (A1.o.on hp hc);clear hx hp hc;go_wp2_with fail;refine(Jt p A C T k2 3 [41] w2 A1.o.pat zp).mono ?_;intro e w3 h3
 rcases h3 with⟨g1,g2,rfl,D9,B5⟩|⟨g1,rfl,AA⟩
 ·have yA:=B0.o;rw[JN g1 g2]at yA;dsimp only at yA;rw[JgY]at yA;replace B0:=Zh yA;replace A1:=Zh (A1.o.on D9 B5);clear g1 g2 D9 B5 yA;have yA:=B0.o
  try dsimp only at yA
  try rw[JgY]at yA
  rw[QgG]at yA;replace B0:=Zh yA;clear yA;go_wp2_with fail;refine PRp.call (Qdv p A C T (k2+1) [58] _ A1.o.pat) (J6 _ _ _) (λq _ hx hc=>by exact⟨rfl,A1.o.bad HR.o B0.o hx hc⟩) λ_ wt1 kt1 hx hp hc=>?_
  replace B0:=Zh (Jx B0.o hx);replace A1:=Zh (A1.o.on hp hc);clear hx hp hc;go_wp2_with fail;refine PRp.call (Jbt p A C T kt1 _ A1.o.pat) (JdI _) (λq _ hx hc=>by exact⟨rfl,A1.o.bad HR.o B0.o hx hc⟩) λty wt2 kt2 hx hp hc=>?_
  replace B0:=Zh (Jx B0.o hx);replace A1:=Zh (A1.o.on hp hc);clear hx hp hc;have R0:=A1.o.box;have b4:=Ja R0 4;have f4:=Jc R0 4;have gA:=Jb R0;simp only[zW]at b4;replace A1:=Zh (A1.o.setR W6.o ty);clear R0;go_wp2_with fail;clear b4 f4 gA;generalize World.setCell wt2 _ _=wt3 at*;refine PRp.call (Qdv p A C T kt2 [61] _ A1.o.pat) (J6 _ _ _) (λq _ hx hc=>by exact⟨rfl,A1.o.bad HR.o B0.o hx hc⟩) λ_ wt4 kt4 hx hp hc=>?_
  replace B0:=Zh (Jx B0.o hx);replace A1:=Zh (A1.o.on hp hc);clear hx hp hc;go_wp2_with fail;refine NdP.call (I1 kt4 _ A1.o.pat (JO B0.o N3.o)) (JO B0.o N3.o) (λq _ hx hc=>by exact⟨rfl,A1.o.bad HR.o B0.o hx hc⟩) λa w9 k9 xA xn xc hx T1 B=>?_
  obtain⟨hat,P7,vA,O6⟩:=B;replace B0:=Zh (Jx B0.o hx);obtain⟨g1,g2,g3⟩:=A1.o.fin hat P7 vA O6 W6.o;have L3:=B0;have O5:=Zh g1;have U9:=Zh g2;have aA:=Zh g3;have R0:=(A1.o.on vA O6).box;have b5:=Ja R0 5;have b6:=Ja R0 6;have b7:=Ja R0 7;have b8:=Ja R0 8;have b9:=Ja R0 9;simp only[zW]at b5 b6 b7 b8 b9;have f5:=Jc R0 5;have f6:=Jc R0 6;have f7:=Jc R0 7;have f8:=Jc R0 8;have f9:=Jc R0 9;have iA:=Jb R0;have R6:=Zh T1;rw[T1]at O5 U9 aA;simp only[FnA.cells,T1,cons_append,nil_append]at O5;clear hx hat P7 vA O6 T1 g1 g2 g3 R0 A1 B0 I1;go_upto_region 13 with fail;clear b5 b6 b7 b8 b9 f5 f6 f7 f8 f9 iA;have zA:Hi (_/\_/\_):=⟨O5.o,U9.o,aA.o⟩
  clear O5 U9 aA;simp only[putAt]at zA;generalize World.setCell (World.setCell _ _ _) _ _=W9 at*;have R0:=zA.o.1;have M1:=zA.o.2.1;have b0:=Ja R0 0;have b1:=Ja R0 1;have b2:=Ja R0 2;have b3:=Ja R0 3;have b4:=Ja R0 4;have b5:=Ja R0 5;have b6:=Ja R0 6;have b7:=Ja R0 7;have b8:=Ja R0 8;have b9:=Ja R0 9;have z0:=Ja M1 0;have y0:=Jc M1 0;have z1:=Ja M1 1;have y1:=Jc M1 1;have z2:=Ja M1 2;have y2:=Jc M1 2;have z3:=Ja M1 3;have y3:=Jc M1 3;have z4:=Ja M1 4;have y4:=Jc M1 4;have z5:=Ja M1 5;have y5:=Jc M1 5;have z6:=Ja M1 6;have y6:=Jc M1 6;have z7:=Ja M1 7;have y7:=Jc M1 7;have z8:=Ja M1 8;have y8:=Jc M1 8;have z9:=Ja M1 9;have y9:=Jc M1 9;simp only[zW]at b0 z0 b1 z1 b2 z2 b3 z3 b4 z4 b5 z5 b6 z6 b7 z7 b8 z8 b9 z9;have nA:=Jb M1;have cA:=Zh (Yk (t:=147) [Sv nm,Iv of,Nl,Nl,Iv ty,Iv a.kind,Iv a.num,Sv a.name,Iv a.off,.slice xA xn xc] [] [Em,Iv 0,Nl,Nl,Iv 0,Iv 0,Iv 0,Em,Iv 0,Nl] W9 M1 rfl);have pF:=Zh (zA.o.2.2 [Sv nm,Iv of,Nl,Nl,Iv ty,Iv a.kind,Iv a.num,Sv a.name,Iv a.off,.slice xA xn xc]);simp only[putAt,List.length_nil,nil_append,Nat.zero_add,Nat.reduceAdd]at cA pF;have j9:Hi (∀(ps:List (By×Int))(ts:List Int),(FnA.cells (FnA.mk nm of ps ts ty a Nl Nl (bx+1) w9.heap.size)).toArray=([Sv nm,Iv of,Nl,Nl,Iv ty,Iv a.kind,Iv a.num,Sv a.name,Iv a.off,.slice xA xn xc]).toArray):=λps ts=>by simp only[FnA.cells,R6.o,cons_append,nil_append]
  clear R0 M1 zA;go_wp2;refine bodyPost_ret (v:=.agg ([Sv nm,Iv of,Nl,Nl,Iv ty,Iv a.kind,Iv a.num,Sv a.name,Iv a.off,.slice xA xn xc]).toArray) (results_cell_row rfl _ _ w.heap.size 147 _ (0,0) _ rfl cA.o underlying147 rfl Qgj) rfl ?_;exact Qhq
 ·have yA:=B0.o;rw[Kf g1]at yA;dsimp only at yA;have jA:Hi (∃k2 pv tv ps ts,FnB nm of p A C T w bx w3 k2 pv tv 0 ps ts/\((QaQ f ps ts (T.drop k2)).bind (QgG f (nm,of)))=X/\f+ps.length<=f/\ts.length=ps.length):=⟨_,_,_,[],[],A1.o.on (A1.o.pat.chg AA) (Chg.of_below AA [p]),yA,le_refl _,rfl⟩
  clear g1 AA yA B0 A1;go_wp2_with fail;go_loopg [] f λg wr=>Hi (∃k2 pv tv ps ts,FnB nm of p A C T w bx wr k2 pv tv 0 ps ts/\((QaQ g ps ts (T.drop k2)).bind (QgG f (nm,of)))=X/\g+ps.length<=f/\ts.length=ps.length)
  case atStart=>exact jA
  case round=>
  clear jA;obtain⟨wl,rfl⟩:=zJ wr;obtain⟨k2,pv,tv,ps,ts,hI,dA,kA,hlt⟩:=hrel.o
  cases gk with
  |zero=>exact absurd dA.symm N3.o
  |succ g2=>
  obtain⟨va,vn,vc,rfl⟩:=Jk hI.pown;rw[JfQ]at dA;have hD:yr wl wl.drew:=(Below.refl wl.heap.size wl).drew;have A1:=Zh (hI.on (hI.pat.chg hD) (Chg.of_below hD [p]));have B0:=Zh (Vg dA);have tA:ps.length<=100000000:=zo;have hA:Hi (g2+1+ps.length<=f/\ts.length=ps.length):=⟨kA,hlt⟩
  clear hI dA kA hlt hrel hD;go_upto_region 4 with fail;go_cut [] λwx=>Hi (∃x k3 va vn vc,FnB nm of p A C T w bx wx k3 (.slice va vn vc) tv 0 (ps++[x]) ts/\((QiZ g2 ps ts x (T.drop k3)).bind (QgG f (nm,of)))=X)
  case first=>
   have hcl:=A1.o.cell (j:=2) rfl;refine LB (λW=>W.cell? ⟨bx,2,none⟩=some (.slice va vn vc)) 7 (by simp[*,World.cell?_alloc_some]) λhH=>?_
   refine LK 0 rfl ?_;refine LK 1 rfl ?_;refine LK 2 rfl ?_;refine LO 3 rfl λK hK=>?_
   go_simp;go_at_call 133;refine PRp.call (VO p A C T k2 _ A1.o.pat hx) (JO B0.o N3.o) (λq _ hi hc=>by exact⟨rfl,A1.o.bad HR.o B0.o hi hc⟩) λx w6 k4 hi hp hc=>?_
   unfold Qgh;replace B0:=Zh (Jx B0.o hi);replace A1:=Zh (A1.o.on hp hc);have HOW:=Zh (A1.o.pown.alloc (.cells #[.string (bs x.1),Iv x.2] 144));have R3:=Zh (zQ w6 (.cells #[.string (bs x.1),Iv x.2] 144));have Q2:bx+1<=(w6.alloc (.cells #[.string (bs x.1),Iv x.2] 144)).heap.size:=by have:=Jb A1.o.box;rw[World.size_alloc];omega
   replace hcl:=A1.o.cell (j:=2) rfl;clear hi hp hc;refine zU hK (hcl) λhH=>?_
   clear hK K;refine LO 4 rfl λK hK=>?_
   go_simp;refine zU hK (by simp[*,World.cell?_alloc_some]) λhH=>?_
   clear hK K;refine LO 5 rfl λK hK=>?_
   (refine Jq (w6.alloc (.cells #[.string (bs x.1),Iv x.2] 144)) zt (.tmp 13) (.tmp 16) 145 144 _ 2 24 zt underlying145 Qfe rfl zp (bx+1) (.slice va vn vc) ps.length (QbQ ps) [.string (bs x.1),Iv x.2] zt HOW.o w6.heap.size zt R3.o rfl (by intro u hu;simp at hu;rcases hu with rfl|rfl<;>rfl) tA zp Q2 ?_;intro v7 w7 N1 P3 O3)
   obtain⟨a7,m7,c7,rfl⟩:=Jk N1;obtain⟨hst,R0⟩:=A1.o.addP W6.o N1 P3;have D2:=Zh hst;replace hcl:=Ja R0 2;simp only[zW]at hcl;have f4:=Jc R0 2;exact QjE
  case rest=>
  obtain⟨x,k3,va,vn,vc,bA,uA⟩:=hcut.o;replace A1:=Zh bA;rw[QiZ]at uA;replace B0:=Zh (Vg uA);clear bA uA hcut;go_wp2_with fail;refine PRp.call (Qdv p A C T k3 [58] _ A1.o.pat) (J6 _ _ _) (λq _ hx hc=>by exact⟨rfl,A1.o.bad HR.o B0.o hx hc⟩) λ_ w4 k4 hx hp hc=>?_
  replace B0:=Zh (Jx B0.o hx);replace A1:=Zh (A1.o.on hp hc);clear hx hp hc;replace B0:=Zh (Vg B0.o);obtain⟨ua,un,uc,xB⟩:=Jk A1.o.town;subst xB;have hD:yr w4 w4.drew:=(Below.refl w4.heap.size w4).drew;replace A1:=Zh (A1.o.on (A1.o.pat.chg hD) (Chg.of_below hD [p]));have rA:ts.length<=100000000:=by have:=hA.o;omega
  clear hD;go_upto_region 6 with fail;go_cut [] λwx=>Hi (∃t k5 ua un uc,FnB nm of p A C T w bx wx k5 (.slice va vn vc) (.slice ua un uc) 0 (ps++[x]) (ts++[t])/\((QiY g2 ps ts x t (T.drop k5)).bind (QgG f (nm,of)))=X)
  case first=>
   have hcl:=A1.o.cell (j:=3) rfl;refine LB (λW=>W.cell? ⟨bx,3,none⟩=some (.slice ua un uc)) 7 (by simp[*,World.cell?_alloc_some]) λhH=>?_
   refine LK 0 rfl ?_;refine LK 1 rfl ?_;refine LK 2 rfl ?_;refine LO 3 rfl λK hK=>?_
   go_simp;go_at_call 135;refine PRp.call (Jbt p A C T k4 _ A1.o.pat) (JdI _) (λq _ hi hc=>by exact⟨rfl,A1.o.bad HR.o B0.o hi hc⟩) λt w6 k6 hi hp hc=>?_
   replace B0:=Zh (Jx B0.o hi);replace A1:=Zh (A1.o.on hp hc);have HOW:=Zh (A1.o.town.alloc (.cells #[Iv t] 3));have R3:=Zh (zQ w6 (.cells #[Iv t] 3));have Q2:bx+1<=(w6.alloc (.cells #[Iv t] 3)).heap.size:=by have:=Jb A1.o.box;rw[World.size_alloc];omega
   replace hcl:=A1.o.cell (j:=3) rfl;clear hi hp hc;refine zU hK (hcl) λhH=>?_
   clear hK K;refine LO 4 rfl λK hK=>?_
   go_simp;refine zU hK (by simp[*,World.cell?_alloc_some]) λhH=>?_
   clear hK K;refine LO 5 rfl λK hK=>?_
   (refine Jq (w6.alloc (.cells #[Iv t] 3)) zt (.tmp 22) (.tmp 25) 29 3 _ 1 8 zt underlying29 QcP rfl zp (bx+1) (.slice ua un uc) ts.length (Qad ts) [Iv t] zt HOW.o w6.heap.size zt R3.o rfl (by intro u hu;simp at hu;subst hu;rfl) rA zp Q2 ?_;intro v7 w7 N1 P3 O3)
   obtain⟨a7,m7,c7,rfl⟩:=Jk N1;obtain⟨hst,R0⟩:=A1.o.addT W6.o N1 P3;have D2:=Zh hst;replace hcl:=Ja R0 3;simp only[zW]at hcl;have f4:=Jc R0 3;exact QjE
  case rest=>
  obtain⟨t,k5,ua,un,uc,bA,uA⟩:=hcut.o;replace A1:=Zh bA;rw[QiY]at uA;replace B0:=Zh uA;clear bA uA hcut;go_wp2_with fail;refine(Jt p A C T k5 3 [44] _ A1.o.pat zp).mono ?_;intro e w8 h8
  rcases h8 with⟨g1,g2',rfl,ME,NE⟩|⟨g1,rfl,L5⟩
  ·have yA:=B0.o;rw[JN g1 g2']at yA;dsimp only at yA;have qA:=Zh yA;replace A1:=Zh (A1.o.on ME NE);clear yA g1 g2' ME NE B0;go_wp2;go_roundg g2
   case measure=>exact Nat.lt_succ_self _
   case rel=>exact⟨_,_,_,_,_,A1.o,qA.o,by have:=hA.o;rw[length_append,List.length_singleton];omega,by have:=hA.o;rw[length_append,length_append,List.length_singleton,List.length_singleton];omega⟩
  ·have yA:=B0.o;rw[Kf g1]at yA;dsimp only at yA;replace B0:=Zh (Vg yA);replace A1:=Zh (A1.o.on (A1.o.pat.chg L5) (Chg.of_below L5 [p]));clear yA g1 L5;go_wp2_with fail;refine PRp.call (Qdv p A C T k5 [41] _ A1.o.pat) (J6 _ _ _) (λq _ hx hc=>by exact⟨rfl,A1.o.bad HR.o B0.o hx hc⟩) λ_ w6 k6 hx hp hc=>?_
   replace B0:=Zh (Jx B0.o hx);replace A1:=Zh (A1.o.on hp hc);clear hx hp hc;have yA:=B0.o
   try dsimp only at yA
   try rw[JgY]at yA
   rw[QgG]at yA;replace B0:=Zh yA;clear yA;go_wp2_with fail;refine PRp.call (Qdv p A C T k6 [58] _ A1.o.pat) (J6 _ _ _) (λq _ hx hc=>by exact⟨rfl,A1.o.bad HR.o B0.o hx hc⟩) λ_ wt1 kt1 hx hp hc=>?_
   replace B0:=Zh (Jx B0.o hx);replace A1:=Zh (A1.o.on hp hc);clear hx hp hc;go_wp2_with fail;refine PRp.call (Jbt p A C T kt1 _ A1.o.pat) (JdI _) (λq _ hx hc=>by exact⟨rfl,A1.o.bad HR.o B0.o hx hc⟩) λty wt2 kt2 hx hp hc=>?_
   replace B0:=Zh (Jx B0.o hx);replace A1:=Zh (A1.o.on hp hc);clear hx hp hc;have R0:=A1.o.box;have b4:=Ja R0 4;have f4:=Jc R0 4;have gA:=Jb R0;simp only[zW]at b4;replace A1:=Zh (A1.o.setR W6.o ty);clear R0;go_wp2_with fail;clear b4 f4 gA;generalize World.setCell wt2 _ _=wt3 at*;refine PRp.call (Qdv p A C T kt2 [61] _ A1.o.pat) (J6 _ _ _) (λq _ hx hc=>by exact⟨rfl,A1.o.bad HR.o B0.o hx hc⟩) λ_ wt4 kt4 hx hp hc=>?_
   replace B0:=Zh (Jx B0.o hx);replace A1:=Zh (A1.o.on hp hc);clear hx hp hc;go_wp2_with fail;refine NdP.call (I1 kt4 _ A1.o.pat (JO B0.o N3.o)) (JO B0.o N3.o) (λq _ hx hc=>by exact⟨rfl,A1.o.bad HR.o B0.o hx hc⟩) λa w9 k9 xA xn xc hx T1 B=>?_
   obtain⟨hat,P7,vA,O6⟩:=B;replace B0:=Zh (Jx B0.o hx);obtain⟨g1,g2,g3⟩:=A1.o.fin hat P7 vA O6 W6.o;have L3:=B0;have O5:=Zh g1;have U9:=Zh g2;have aA:=Zh g3;have R0:=(A1.o.on vA O6).box;have b5:=Ja R0 5;have b6:=Ja R0 6;have b7:=Ja R0 7;have b8:=Ja R0 8;have b9:=Ja R0 9;simp only[zW]at b5 b6 b7 b8 b9;have f5:=Jc R0 5;have f6:=Jc R0 6;have f7:=Jc R0 7;have f8:=Jc R0 8;have f9:=Jc R0 9;have iA:=Jb R0;have R6:=Zh T1;rw[T1]at O5 U9 aA;simp only[FnA.cells,T1,cons_append,nil_append]at O5;clear hx hat P7 vA O6 T1 g1 g2 g3 R0 A1 B0 I1;go_upto_region 13 with fail;clear b5 b6 b7 b8 b9 f5 f6 f7 f8 f9 iA;have zA:Hi (_/\_/\_):=⟨O5.o,U9.o,aA.o⟩
   clear O5 U9 aA;simp only[putAt]at zA;generalize World.setCell (World.setCell _ _ _) _ _=W9 at*;have R0:=zA.o.1;have M1:=zA.o.2.1;have b0:=Ja R0 0;have b1:=Ja R0 1;have b2:=Ja R0 2;have b3:=Ja R0 3;have b4:=Ja R0 4;have b5:=Ja R0 5;have b6:=Ja R0 6;have b7:=Ja R0 7;have b8:=Ja R0 8;have b9:=Ja R0 9;have z0:=Ja M1 0;have y0:=Jc M1 0;have z1:=Ja M1 1;have y1:=Jc M1 1;have z2:=Ja M1 2;have y2:=Jc M1 2;have z3:=Ja M1 3;have y3:=Jc M1 3;have z4:=Ja M1 4;have y4:=Jc M1 4;have z5:=Ja M1 5;have y5:=Jc M1 5;have z6:=Ja M1 6;have y6:=Jc M1 6;have z7:=Ja M1 7;have y7:=Jc M1 7;have z8:=Ja M1 8;have y8:=Jc M1 8;have z9:=Ja M1 9;have y9:=Jc M1 9;simp only[zW]at b0 z0 b1 z1 b2 z2 b3 z3 b4 z4 b5 z5 b6 z6 b7 z7 b8 z8 b9 z9;have nA:=Jb M1;have cA:=Zh (Yk (t:=147) [Sv nm,Iv of,(.slice va vn vc),(.slice ua un uc),Iv ty,Iv a.kind,Iv a.num,Sv a.name,Iv a.off,.slice xA xn xc] [] [Em,Iv 0,Nl,Nl,Iv 0,Iv 0,Iv 0,Em,Iv 0,Nl] W9 M1 rfl);have pF:=Zh (zA.o.2.2 [Sv nm,Iv of,(.slice va vn vc),(.slice ua un uc),Iv ty,Iv a.kind,Iv a.num,Sv a.name,Iv a.off,.slice xA xn xc]);simp only[putAt,List.length_nil,nil_append,Nat.zero_add,Nat.reduceAdd]at cA pF;have j9:Hi (∀(ps:List (By×Int))(ts:List Int),(FnA.cells (FnA.mk nm of ps ts ty a (.slice va vn vc) (.slice ua un uc) (bx+1) w9.heap.size)).toArray=([Sv nm,Iv of,(.slice va vn vc),(.slice ua un uc),Iv ty,Iv a.kind,Iv a.num,Sv a.name,Iv a.off,.slice xA xn xc]).toArray):=λps ts=>by simp only[FnA.cells,R6.o,cons_append,nil_append]
   clear R0 M1 zA;go_wp2;refine bodyPost_ret (v:=.agg ([Sv nm,Iv of,(.slice va vn vc),(.slice ua un uc),Iv ty,Iv a.kind,Iv a.num,Sv a.name,Iv a.off,.slice xA xn xc]).toArray) (results_cell_row rfl _ _ w.heap.size 147 _ (0,0) _ rfl cA.o underlying147 rfl Qgj) rfl ?_;exact Qhq
structure Ih(p:Nat)(A:Option Addr)(C:Nat)(T:List Tok)(f:Nat):Prop where
 expr:∀k w,PAt w p A C T k->pM f .expr (T.drop k)≠.out->Calls prog 88 #[Pt p] w (NdP p A C T w (pM f .expr (T.drop k)))
 l1:∀k w,PAt w p A C T k->pM f (.level 1) (T.drop k)≠.out->Calls prog 136 #[Pt p,Iv 1] w (NdP p A C T w (pM f (.level 1) (T.drop k)))
 l2:∀k w,PAt w p A C T k->pM f (.level 2) (T.drop k)≠.out->Calls prog 136 #[Pt p,Iv 2] w (NdP p A C T w (pM f (.level 2) (T.drop k)))
 l3:∀k w,PAt w p A C T k->pM f (.level 3) (T.drop k)≠.out->Calls prog 136 #[Pt p,Iv 3] w (NdP p A C T w (pM f (.level 3) (T.drop k)))
 cm:∀k w,PAt w p A C T k->pM f .cmp (T.drop k)≠.out->Calls prog 158 #[Pt p] w (NdP p A C T w (pM f .cmp (T.drop k)))
 l5:∀k w,PAt w p A C T k->pM f (.level 5) (T.drop k)≠.out->Calls prog 136 #[Pt p,Iv 5] w (NdP p A C T w (pM f (.level 5) (T.drop k)))
 l6:∀k w,PAt w p A C T k->pM f (.level 6) (T.drop k)≠.out->Calls prog 136 #[Pt p,Iv 6] w (NdP p A C T w (pM f (.level 6) (T.drop k)))
 l7:∀k w,PAt w p A C T k->pM f (.level 7) (T.drop k)≠.out->Calls prog 136 #[Pt p,Iv 7] w (NdP p A C T w (pM f (.level 7) (T.drop k)))
 pr:∀k w,PAt w p A C T k->pM f .prim (T.drop k)≠.out->Calls prog 159 #[Pt p] w (NdP p A C T w (pM f .prim (T.drop k)))
 nm:∀k w,PAt w p A C T k->pM f .named (T.drop k)≠.out->Calls prog 169 #[Pt p] w (NdP p A C T w (pM f .named (T.drop k)))
def QfH(md:Md)(r:List Tok):pM 0 md r=.out:=by unfold pM;rfl
def JdJ(p:Nat)(A:Option Addr)(C:Nat)(T:List Tok)(hx:∀t∈T,t.text.length<=1000000):∀n f,f<=n->f<=100000000->Ih p A C T f
 |0,f,hn,_=>by
  obtain rfl:f=0:=zo;exact⟨λk w _ h=>absurd (QfH _ _) h,λk w _ h=>absurd (QfH _ _) h,λk w _ h=>absurd (QfH _ _) h,λk w _ h=>absurd (QfH _ _) h,λk w _ h=>absurd (QfH _ _) h,λk w _ h=>absurd (QfH _ _) h,λk w _ h=>absurd (QfH _ _) h,λk w _ h=>absurd (QfH _ _) h,λk w _ h=>absurd (QfH _ _) h,λk w _ h=>absurd (QfH _ _) h⟩
 |n+1,f,hn,hf=>by
  cases f with
  |zero=>exact JdJ p A C T hx n 0 (Nat.zero_le _) (Nat.zero_le _)
  |succ f=>
   have H:∀g,g<=f->Ih p A C T g:=λg hg=>JdJ p A C T hx n g zo zo
   have h0:=H f (Nat.le_refl _);exact⟨JjA f p A C T hx h0.expr h0.l1,JlK f p A C T λg hg=>(H g hg).l2,JlL f p A C T λg hg=>(H g hg).l3,JlI f p A C T h0.l3 h0.cm,JlO f p A C T h0.l5,JlM f p A C T λg hg=>(H g hg).l6,JlN f p A C T λg hg=>(H g hg).l7,JlJ f p A C T h0.l7 h0.pr,Jjx f p A C T h0.expr h0.nm,JgX f p A C T zo hx λg hg=>(H g hg).expr⟩
def JjB(p:Nat)(A:Option Addr)(C:Nat)(T:List Tok)(hx:∀t∈T,t.text.length<=1000000)(f:Nat)(hf:f<=100000000):∀k w,PAt w p A C T k->pM f .expr (T.drop k)≠.out->Calls prog 88 #[Pt p] w (NdP p A C T w (pM f .expr (T.drop k))):=(JdJ p A C T hx f f (Nat.le_refl _) hf).expr
end Go.Proofs.YtfafpklefknomaaGreatDoor



