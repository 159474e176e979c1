import Derived.Test.YtfafpklefknomaaGreatDoorR06
open List(mem_cons not_mem_nil)
open Nat(le_refl)
namespace Go.Proofs.YtfafpklefknomaaGreatDoor
open Go.ChangeShapes Go.WideShapes Go.ChangeAt Go.RowKit Go.Lib
open _root_.Go.Proofs.Tryz
set_option linter.all false
set_option maxRecDepth 100000
set_option maxHeartbeats 32000000
def Jbu{S:List Nat}{W3 Wf:World}{lo rb:Nat}{kids:List An}{cs:Array Value}(hkids:kids≠[])(hcs:cs.toList=Qdb kids)
  (hat:∀a∈kids,a.At W3) (hm:(Qak kids).Nodup/\∀b∈Qak kids,lo<=b/\b<W3.heap.size) (hC:Chg S W3 Wf) (hS:∀b∈S,b<lo\/b∉Qak kids)
  (hrow:Wf.heap[rb]?=some (.cells cs 127)) (hrb:W3.heap.size<=rb) (hlo:lo<=W3.heap.size) (kk n:Int) (s:By) (o:Int) (c:Nat) :
  (An.mk kk n s o rb c kids).At Wf/\Qce lo Wf.heap.size (An.mk kk n s o rb c kids):=by
 have hlt:=Jb hrow
 constructor
 ·unfold An.At;refine⟨λ_ j=>Jc hrow j,KN kids 0 (λj u hu=>?_) λa ha=>?_⟩
  ·rw[Nat.zero_mul,Nat.zero_add];exact KP hrow (by rw[hcs];exact hu)
  ·refine JK a (hat a ha) λb hb=>?_
   have xA:b∈Qak kids:=by
    clear hat hm hcs hrow hS hkids
    induction kids with
    |nil=>cases ha
    |cons x l ih=>
     exact Qhu
   have hbb:=hm.2 b xA
   exact hC.block b hbb.2 λhs=>by
    rcases hS b hs with h|h
    ·omega
    ·exact h xA
 ·cases kids with
  |nil=>exact absurd rfl hkids
  |cons x r=>
   unfold Qce foot;have e:Qak (x::r)=foot x++Qak r:=by rw[Qak]
   rw[e]at hm;refine⟨List.nodup_cons.2 ⟨λhx=>?_,hm.1⟩,λq hq=>?_⟩
   ·have:=(hm.2 _ hx).2;omega
   ·rcases List.mem_cons.1 hq with rfl|hq
    ·exact⟨by omega,hlt⟩
    ·have:=hm.2 q hq;exact⟨this.1,by omega⟩
def Jjw{lo hi:Nat}{a b:An}(h:Qdi lo hi [a,b]):((Qak [a,b]).Nodup/\∀q∈Qak [a,b],lo<=q/\q<hi)/\((Qak [b,a]).Nodup/\∀q∈Qak [b,a],lo<=q/\q<hi):=by
 have h1:=h.foot;refine⟨h1,?_⟩;simp only[Qak,List.append_nil]at *;exact⟨(List.perm_append_comm.nodup_iff).1 h1.1,λq hq=>h1.2 q (List.mem_append.2 (List.mem_append.1 hq).symm)⟩
structure Cm(p:Nat)(A:Option Addr)(C:Nat)(T:List Tok)(w:World)(k:Nat)(W:World)(lo:Nat)(n a b:An):Prop where
 pat:PAt W p A C T k
 nat:n.At W
 nmd:Qce lo W.heap.size n
 nlt:∀q∈foot n,q+1<W.heap.size
 at1:a.At W
 at2:b.At W
 fts:(Qak [b,a]).Nodup/\∀q∈Qak [b,a],lo<=q/\q+3<W.heap.size
 res:W.heap[w.heap.size]?=some (.cells #[Iv 0,Iv 0,Em,Iv 0,Nl] 127 (0,0))
 chg:Chg [p] w W
 low:w.heap.size<lo/\lo<=W.heap.size/\p<lo
def Cm.make{X:PR Nd}{f lv:Nat}{of:Int}{g:Nat}{p:Nat}{A:Option Addr}{C:Nat}{T:List Tok}{w:World}{lo bx:Nat}{W3 W4 w6:World}{k2 k4:Nat}{a b:An}{cs:Array Value}(h:LvI f lv of X p A C T w lo bx W3 k2 g a)
  (h4:W4.heap.size=W3.heap.size) (hc6:Chg [p] W3 w6) (hbt:b.At w6) (hbm:Qce W4.heap.size w6.heap.size b) (hp4:PAt w6 p A C T k4) (hp:p<w.heap.size) (hcs:cs.toList=Qdb [a,b]) (kk:Int) (B6 B7:Obj) :
  Cm p A C T w k4 (((w6.alloc B6).alloc (.cells cs 127)).alloc B7) lo (.mk kk 0 [] a.off (w6.heap.size+1) 2 [a,b]) a b:=by
 have hb:Below w6.heap.size w6 (((w6.alloc B6).alloc (.cells cs 127)).alloc B7):=((zO.alloc zP _).alloc zq _).alloc zr _;rw[h4]at hbm;have uA:Qdi lo w6.heap.size [a,b]:=⟨W3.heap.size,h.lle,h.made,w6.heap.size,hc6.size,hbm,le_refl _⟩
 obtain⟨f1,f2⟩:=Jjw uA;obtain⟨l1,l2,l3,l4⟩:=h.low;have yA:lo<=w6.heap.size:=Nat.le_trans h.lle hc6.size;have hsz:(((w6.alloc B6).alloc (.cells cs 127)).alloc B7).heap.size=w6.heap.size+3:=zq;have xA:a.At w6:=JaE h.at' h.made hc6 zP λq hq=>by simp at hq;omega
 have hrow:(((w6.alloc B6).alloc (.cells cs 127)).alloc B7).heap[w6.heap.size+1]?=some (.cells cs 127):=by
  have h1:=zQ (w6.alloc B6) (.cells cs 127);rw[World.size_alloc]at h1;exact(Below.heap_alloc _ _ _ zq).trans h1
 have zA:Qce lo w6.heap.size a:=h.made.mono zP hc6.size
 obtain⟨g1,g2⟩:=Jbu (S:=[]) zq hcs (λx hx=>by
  rcases List.mem_cons.1 hx with rfl|hx
  ·exact xA
  ·obtain rfl:x=b:=by simpa using hx
   exact hbt) f1 (Chg.of_below hb []) zq hrow zo yA kk 0 [] a.off 2
 exact⟨hp4.chg hb,g1,g2,λq hq=>by
  unfold foot at hq
  rcases List.mem_cons.1 hq with rfl|hq
  ·omega
  ·have:=(f1.2 q (by rw[Qak];exact hq)).2;omega,K1 xA zA hb zP,K1 hbt hbm hb zP,⟨f2.1,λq hq=>⟨(f2.2 q hq).1,by have:=(f2.2 q hq).2;omega⟩⟩,(hb.block _ (Jb (hc6.heap_some zr h.res))).trans (hc6.heap_some zr h.res),(h.chg.trans hc6).trans (Chg.of_below hb [p]),l1,by omega,by omega⟩
section
variable {p:Nat}{A:Option Addr}{C:Nat}{T:List Tok}{w W:World}{k lo nb:Nat}{n a b:An}{cs:Array Value}(h:Cm p A C T w k W lo n a b)(hp:p<w.heap.size)(hT:∀b o,A=some ⟨b,o,none⟩->b<w.heap.size)(hnb:nb+1=W.heap.size)(hnz:nb≠w.heap.size)
include p A C T w W k lo nb n a b cs h hp hT hnb hnz
theorem Cm.swap(hcs:cs.toList=Qdb [b,a])(kk o:Int)(v v0 v1 v2 v3 v4:Value) :
  ((W.setCell ⟨nb,4,none⟩ v).heap[w.heap.size]?=some (.cells #[Iv 0,Iv 0,Em,Iv 0,Nl] 127 (0,0)))/\(An.mk kk 0 [] o W.heap.size 2 [b,a]).At ((put5 (W.setCell ⟨nb,4,none⟩ v) w.heap.size v0 v1 v2 v3 v4).alloc (.cells cs 127))/\Qce w.heap.size ((put5 (W.setCell ⟨nb,4,none⟩ v) w.heap.size v0 v1 v2 v3 v4).alloc (.cells cs 127)).heap.size (An.mk kk 0 [] o W.heap.size 2 [b,a])/\PAt ((put5 (W.setCell ⟨nb,4,none⟩ v) w.heap.size v0 v1 v2 v3 v4).alloc (.cells cs 127)) p A C T k/\Chg [p] w ((put5 (W.setCell ⟨nb,4,none⟩ v) w.heap.size v0 v1 v2 v3 v4).alloc (.cells cs 127)):=by
 have hs:=h.chg.size;have hr:=Jb h.res;have hsz:(put5 (W.setCell ⟨nb,4,none⟩ v) w.heap.size v0 v1 v2 v3 v4).heap.size=W.heap.size:=by rw[Kl];simp[World.setCell]
 have h1:Chg [w.heap.size,nb] W (W.setCell ⟨nb,4,none⟩ v):=(Chg.refl _ W).setCell (.inl (by simp:nb∈[w.heap.size,nb])) (p:=⟨nb,4,none⟩) v;have h2:=(h1.trans (Kj (S:=[w.heap.size,nb]) (W:=W.setCell ⟨nb,4,none⟩ v) v0 v1 v2 v3 v4 (by simp:w.heap.size∈[w.heap.size,nb]))).alloc (.cells cs 127);have xA:=zQ (put5 (W.setCell ⟨nb,4,none⟩ v) w.heap.size v0 v1 v2 v3 v4) (.cells cs 127);rw[hsz]at xA;have hlo:=h.low
 obtain⟨g1,g2⟩:=Jbu zq hcs (λx hx=>by
  rcases List.mem_cons.1 hx with rfl|hx
  ·exact h.at2
  ·obtain rfl:x=a:=by simpa using hx
   exact h.at1) ⟨h.fts.1,λq hq=>⟨(h.fts.2 q hq).1,by have:=(h.fts.2 q hq).2;omega⟩⟩ h2 (λq hq=>by
  simp only[mem_cons,not_mem_nil,or_false]at hq
  rcases hq with rfl|rfl
  ·exact .inl hlo.1
  ·exact .inr λhm=>by have:=(h.fts.2 _ hm).2;omega) xA zP hlo.2.1 kk 0 [] o 2
 have yA:∀b o,A=some ⟨b,o,none⟩->nb≠b:=λb o e=>by have:=hT b o e;omega
 refine⟨?_,g1,g2.mono (Nat.le_of_lt hlo.1) zP,?_,?_⟩
 ·rw[Below.heap_setCell _ _ _ _ (by first|exact hnz|exact Ne.symm hnz)];exact h.res
 ·exact((h.pat.setFar zo yA 4 v).put5 (Ne.symm (Nat.ne_of_lt hp)) (λb o e=>by have:=hT b o e;omega) _ _ _ _ _).chg (zO.alloc zP _)
 ·exact h.chg.step h2 λq hq=>.inr (by simp only[mem_cons,not_mem_nil,or_false]at hq;omega)
theorem Cm.wrap(hcs:cs.toList=Qdb [n])(kk o:Int)(u0 u1 u2 u3 u4 v0 v1 v2 v3 v4:Value) :
  ((put5 W nb u0 u1 u2 u3 u4).heap[w.heap.size]?=some (.cells #[Iv 0,Iv 0,Em,Iv 0,Nl] 127 (0,0)))/\(An.mk kk 0 [] o W.heap.size 1 [n]).At ((put5 (put5 W nb u0 u1 u2 u3 u4) w.heap.size v0 v1 v2 v3 v4).alloc (.cells cs 127))/\Qce w.heap.size ((put5 (put5 W nb u0 u1 u2 u3 u4) w.heap.size v0 v1 v2 v3 v4).alloc (.cells cs 127)).heap.size (An.mk kk 0 [] o W.heap.size 1 [n])/\PAt ((put5 (put5 W nb u0 u1 u2 u3 u4) w.heap.size v0 v1 v2 v3 v4).alloc (.cells cs 127)) p A C T k/\Chg [p] w ((put5 (put5 W nb u0 u1 u2 u3 u4) w.heap.size v0 v1 v2 v3 v4).alloc (.cells cs 127)):=by
 have hs:=h.chg.size;have hr:=Jb h.res;have hsz:(put5 (put5 W nb u0 u1 u2 u3 u4) w.heap.size v0 v1 v2 v3 v4).heap.size=W.heap.size:=by rw[Kl,Kl]
 have h1:Chg [w.heap.size,nb] W (put5 W nb u0 u1 u2 u3 u4):=Kj (S:=[w.heap.size,nb]) (W:=W) u0 u1 u2 u3 u4 (by simp:nb∈[w.heap.size,nb]);have h2:=(h1.trans (Kj (S:=[w.heap.size,nb]) (W:=put5 W nb u0 u1 u2 u3 u4) v0 v1 v2 v3 v4 (by simp:w.heap.size∈[w.heap.size,nb]))).alloc (.cells cs 127);have xA:=zQ (put5 (put5 W nb u0 u1 u2 u3 u4) w.heap.size v0 v1 v2 v3 v4) (.cells cs 127);rw[hsz]at xA;have hlo:=h.low
 obtain⟨g1,g2⟩:=Jbu zq hcs (λx hx=>(by simpa using hx:x=n) ▸ h.nat) ⟨by simpa[Qak] using h.nmd.1,λq hq=>by
  have zA:q∈foot n:=by simpa[Qak] using hq
  exact h.nmd.2 q zA⟩ h2 (λq hq=>by
  simp only[mem_cons,not_mem_nil,or_false]at hq
  rcases hq with rfl|rfl
  ·exact .inl hlo.1
  ·exact .inr λhm=>by have:=h.nlt _ (by simpa[Qak] using hm);omega) xA zP hlo.2.1 kk 0 [] o 1
 have yA:∀b o,A=some ⟨b,o,none⟩->nb≠b:=λb o e=>by have:=hT b o e;omega
 refine⟨?_,g1,g2.mono (Nat.le_of_lt hlo.1) zP,?_,?_⟩
 ·exact((Kj (S:=[nb]) (W:=W) u0 u1 u2 u3 u4 (by simp:nb∈[nb])).block _ hr (by simp;exact Ne.symm hnz)).trans h.res
 ·exact((h.pat.put5 zo yA _ _ _ _ _).put5 (Ne.symm (Nat.ne_of_lt hp)) (λb o e=>by have:=hT b o e;omega) _ _ _ _ _).chg (zO.alloc zP _)
 ·exact h.chg.step h2 λq hq=>.inr (by simp only[mem_cons,not_mem_nil,or_false]at hq;omega)
end
def CmD(tx:By)(tn tf kk:Int):Prop:=
 ((tx==[62])=false/\(tx==[62,61])=false/\(tx==[33,61])=false/\∀x y:Nd,QdV ⟨3,tx,tn,tf⟩ kk x y=.mk kk 0 [] x.off [x,y])\/
 ((tx==[62])=true/\∀x y:Nd,QdV ⟨3,tx,tn,tf⟩ kk x y=.mk kk 0 [] x.off [y,x])\/
 ((tx==[62])=false/\(tx==[62,61])=true/\∀x y:Nd,QdV ⟨3,tx,tn,tf⟩ kk x y=.mk kk 0 [] x.off [y,x])\/
 ((tx==[62])=false/\(tx==[62,61])=false/\(tx==[33,61])=true/\∀x y:Nd,QdV ⟨3,tx,tn,tf⟩ kk x y=.mk 7 0 [] x.off [.mk kk 0 [] x.off [x,y]])
def ZK(a:An):a.nd.off=a.off:=by cases a;rfl
def Cm.fin{p:Nat}{A:Option Addr}{C:Nat}{T:List Tok}{w W:World}{k lo:Nat}{n a b:An}(h:Cm p A C T w k W lo n a b)(hp:p<w.heap.size)(hT:∀b o,A=some ⟨b,o,none⟩->b<w.heap.size)(v0 v1 v2 v3 v4:Value) :
  n.At (put5 W w.heap.size v0 v1 v2 v3 v4)/\Qce w.heap.size (put5 W w.heap.size v0 v1 v2 v3 v4).heap.size n/\PAt (put5 W w.heap.size v0 v1 v2 v3 v4) p A C T k/\Chg [p] w (put5 W w.heap.size v0 v1 v2 v3 v4):=by
 have hc:=Kj (S:=[w.heap.size]) (W:=W) v0 v1 v2 v3 v4 (by simp:w.heap.size∈[w.heap.size]);refine⟨JaE h.nat h.nmd hc zP λb hb=>by have:=h.low.1;simp at hb;omega,?_,h.pat.put5 (Ne.symm (Nat.ne_of_lt hp)) (λb o e=>by have:=hT b o e;omega) _ _ _ _ _,h.chg.step hc λb hb=>.inr (by simp at hb;omega)⟩;rw[Kl];exact h.nmd.mono (Nat.le_of_lt h.low.1) zP
def Jnx(f:Nat)(r:List Tok):pM (f+1) .cmp r=(pM f (.level 5) r).bind λa r1=>match Qeh (hd r1) with|none=>.ok a r1|some k=>(pM f (.level 5) r1.tail).bind λb r2=>.ok (QdV (hd r1) k a b) r2:=by rw[pM];rfl
theorem QjX{P:Prop}(h:P:=by
  clear hcn;go_wp2;obtain⟨e0,e1,e2,e3,e4⟩:=HCM.o.swap (cs:=#[Iv b.kind,Iv b.num,.string (bs b.name),Iv b.off,.slice yA yn yc,Iv a.kind,Iv a.num,.string (bs a.name),Iv a.off,.slice xA xn xc]) HPL.o HTL.o (by rw[HS7.o]) hnz.2 (by simp[Qdb,HCF.o,HCG.o]) kk a.off _ _ _ _ _ _;refine bodyPost_ret (v:=.agg (Qaa (.mk kk 0 [] a.off W7.heap.size 2 [b,a]))) (results_cell_row rfl _ _ w.heap.size 127 _ (0,0) _ rfl (V6 _ _ _ _ _ _ e0) underlying127 rfl Qau) rfl ?_;rw[HR.o,HX3.o,HCN.o,ZK]
  exact⟨_,rfl,rfl,e1,e2,⟨k4,rfl,e3⟩,e4⟩):P:=h
theorem ux1{P:Prop}(h:P:=by
  have hne3:pM f (.level 5) (T.drop (k2+1))≠.out:=KB (by rw[<- HX2.o];exact HNE.o);have HC3:Hi (Chg [p] W3 (W3.setCell ⟨p,1,none⟩ (Iv ((k2:Int)+1)))):=(Chg.of_below (Below.refl W3.heap.size W3) [p]).setCell (.inl (by simp:p∈[p])) (p:=⟨p,1,none⟩) _;have HP3:Hi (PAt (W3.setCell ⟨p,1,none⟩ (Iv ((k2:Int)+1))) p A C T (k2+1)):=HI.o.pat.next hk1;go_wp2_with fail;refine NdP.call (I1 (k2+1) _ HP3.o hne3) hne3 (λq _ hx hc6=>by exact⟨rfl,by rw[HR.o,HX2.o,hx];exact⟨rfl,(HI.o.chg.trans HC3.o).trans hc6⟩⟩) λb w6 k4 yA yn yc hx hcg B=>?_
  obtain⟨hbt,hbm,hp4,hc6⟩:=B;have HCG:=Zh hcg;have HX3:Hi (X=.ok (QdV ⟨3,tx,tn,tf⟩ kk a.nd b.nd) (T.drop k4)):=by rw[Hi,HX2.o,hx];rfl
  have h36:=HC3.o.trans hc6;go_upto_region 18 with fail;have hCM:=Cm.make (cs:=#[Iv a.kind,Iv a.num,.string (bs a.name),Iv a.off,.slice xA xn xc,Iv b.kind,Iv b.num,.string (bs b.name),Iv b.off,.slice yA yn yc]) HI.o (by simp[World.setCell]) h36 hbt hbm hp4 HPL.o (by simp[Qdb,HCF.o,hcg]) kk (.cells #[Iv b.kind,Iv b.num,.string (bs b.name),Iv b.off,.slice yA yn yc] 127) (.cells #[Iv kk,Iv 0,.string ⟨#[]⟩,Iv a.off,.slice (some ⟨w6.heap.size+1,0,none⟩) 2 2] 127);have hbx6:=h36.heap_some (by simp;omega) HI.o.box;rw[HCF.o]at hbx6;have ht6:=h36.heap_some (by simp;omega) HT.o;have hB6:Below w6.heap.size w6 (w6.alloc (.cells #[Iv b.kind,Iv b.num,.string (bs b.name),Iv b.off,.slice yA yn yc] 127)):=zO.alloc (Nat.le_refl _) _;have hbx7:=(hB6.block _ (Jb hbx6)).trans hbx6;have ht7:=(hB6.block _ (Jb ht6)).trans ht6;have hbb7:=zQ w6 (.cells #[Iv b.kind,Iv b.num,.string (bs b.name),Iv b.off,.slice yA yn yc] 127);have hlt7:bx<w6.heap.size/\tb<w6.heap.size:=⟨Jb hbx6,Jb ht6⟩
  have b5:=Jl hbx7;have z5:=Jl hbb7;have HCM:=Zh hCM;have HBX:=Zh hbx7;have HBB:=Zh hbb7;have HT7:=Zh ht7;have HLT7:=Zh hlt7;have HS6:Hi ((w6.alloc (.cells #[Iv b.kind,Iv b.num,.string (bs b.name),Iv b.off,.slice yA yn yc] 127)).heap.size=w6.heap.size+1):=by rw[Hi,World.size_alloc]
  clear hx hbt hbm hp4 hc6 hcg h36 hCM hbx6 ht6 hB6 hbx7 ht7 hbb7 hne3 HX2 HI HT HP3 HC3 I1;go_upto_region 19 with fail;have hB7:Below (w6.heap.size+1) (w6.alloc (.cells #[Iv b.kind,Iv b.num,.string (bs b.name),Iv b.off,.slice yA yn yc] 127)) (((w6.alloc (.cells #[Iv b.kind,Iv b.num,.string (bs b.name),Iv b.off,.slice yA yn yc] 127)).alloc (.cells #[Iv a.kind,Iv a.num,.string (bs a.name),Iv a.off,.slice xA xn xc,Iv b.kind,Iv b.num,.string (bs b.name),Iv b.off,.slice yA yn yc] 127)).alloc (.cells #[Iv kk,Iv 0,.string ⟨#[]⟩,Iv a.off,.slice (some ⟨w6.heap.size+1,0,none⟩) 2 2] 127)):=(zO.alloc (by simp) _).alloc (by simp) _
  have hN7:(((w6.alloc (.cells #[Iv b.kind,Iv b.num,.string (bs b.name),Iv b.off,.slice yA yn yc] 127)).alloc (.cells #[Iv a.kind,Iv a.num,.string (bs a.name),Iv a.off,.slice xA xn xc,Iv b.kind,Iv b.num,.string (bs b.name),Iv b.off,.slice yA yn yc] 127)).alloc (.cells #[Iv kk,Iv 0,.string ⟨#[]⟩,Iv a.off,.slice (some ⟨w6.heap.size+1,0,none⟩) 2 2] 127)).heap[w6.heap.size+1+1]?=some (.cells #[Iv kk,Iv 0,.string ⟨#[]⟩,Iv a.off,.slice (some ⟨w6.heap.size+1,0,none⟩) 2 2] 127 (0,0)):=by
   have h1:=zQ ((w6.alloc (.cells #[Iv b.kind,Iv b.num,.string (bs b.name),Iv b.off,.slice yA yn yc] 127)).alloc (.cells #[Iv a.kind,Iv a.num,.string (bs a.name),Iv a.off,.slice xA xn xc,Iv b.kind,Iv b.num,.string (bs b.name),Iv b.off,.slice yA yn yc] 127)) (.cells #[Iv kk,Iv 0,.string ⟨#[]⟩,Iv a.off,.slice (some ⟨w6.heap.size+1,0,none⟩) 2 2] 127);rw[World.size_alloc,World.size_alloc]at h1;exact h1
  have hs7:(((w6.alloc (.cells #[Iv b.kind,Iv b.num,.string (bs b.name),Iv b.off,.slice yA yn yc] 127)).alloc (.cells #[Iv a.kind,Iv a.num,.string (bs a.name),Iv a.off,.slice xA xn xc,Iv b.kind,Iv b.num,.string (bs b.name),Iv b.off,.slice yA yn yc] 127)).alloc (.cells #[Iv kk,Iv 0,.string ⟨#[]⟩,Iv a.off,.slice (some ⟨w6.heap.size+1,0,none⟩) 2 2] 127)).heap.size=w6.heap.size+1+1+1:=by rw[World.size_alloc,World.size_alloc,World.size_alloc]
  have HBX7:Hi ((((w6.alloc (.cells #[Iv b.kind,Iv b.num,.string (bs b.name),Iv b.off,.slice yA yn yc] 127)).alloc (.cells #[Iv a.kind,Iv a.num,.string (bs a.name),Iv a.off,.slice xA xn xc,Iv b.kind,Iv b.num,.string (bs b.name),Iv b.off,.slice yA yn yc] 127)).alloc (.cells #[Iv kk,Iv 0,.string ⟨#[]⟩,Iv a.off,.slice (some ⟨w6.heap.size+1,0,none⟩) 2 2] 127)).heap[bx]?=_):=(hB7.block bx (by have:=HLT7.o;omega)).trans HBX.o;have HBB7:Hi ((((w6.alloc (.cells #[Iv b.kind,Iv b.num,.string (bs b.name),Iv b.off,.slice yA yn yc] 127)).alloc (.cells #[Iv a.kind,Iv a.num,.string (bs a.name),Iv a.off,.slice xA xn xc,Iv b.kind,Iv b.num,.string (bs b.name),Iv b.off,.slice yA yn yc] 127)).alloc (.cells #[Iv kk,Iv 0,.string ⟨#[]⟩,Iv a.off,.slice (some ⟨w6.heap.size+1,0,none⟩) 2 2] 127)).heap[w6.heap.size]?=_):=(hB7.block w6.heap.size (Nat.lt_succ_self _)).trans HBB.o;have HT8:Hi ((((w6.alloc (.cells #[Iv b.kind,Iv b.num,.string (bs b.name),Iv b.off,.slice yA yn yc] 127)).alloc (.cells #[Iv a.kind,Iv a.num,.string (bs a.name),Iv a.off,.slice xA xn xc,Iv b.kind,Iv b.num,.string (bs b.name),Iv b.off,.slice yA yn yc] 127)).alloc (.cells #[Iv kk,Iv 0,.string ⟨#[]⟩,Iv a.off,.slice (some ⟨w6.heap.size+1,0,none⟩) 2 2] 127)).heap[tb]?=_):=(hB7.block tb (by have:=HLT7.o;omega)).trans HT7.o;have HN7:=Zh hN7;have HS7:=Zh hs7;clear hs7 b5 z5 hN7 hB7 HBX HBB HT7 HS6;generalize (((w6.alloc (.cells #[Iv b.kind,Iv b.num,.string (bs b.name),Iv b.off,.slice yA yn yc] 127)).alloc (.cells #[Iv a.kind,Iv a.num,.string (bs a.name),Iv a.off,.slice xA xn xc,Iv b.kind,Iv b.num,.string (bs b.name),Iv b.off,.slice yA yn yc] 127)).alloc (.cells #[Iv kk,Iv 0,.string ⟨#[]⟩,Iv a.off,.slice (some ⟨w6.heap.size+1,0,none⟩) 2 2] 127))=W7 at *;generalize w6.heap.size=s6 at *;have ct:=Ja HT8.o 1;simp only[ZD,ZE,ZF]at ct;have hn:=HN7.o;have hrs:=HCM.o.res;have bc:=Jl hn;have zc:=Jl hrs;have yf:=Js hrs;have gf:=Js hn;have pc5:=Jl HBX7.o;have qc5:=Jl HBB7.o;have HRS:=Zh hrs;have hzl:=Jb hrs;have hnl:=Jb hn;have hnz:w.heap.size≠s6+1+1/\s6+1+1≠w.heap.size:=by have:=HCM.o.low;have:=HLT7.o;omega
  clear hn hrs
  rcases HDJ.o with⟨e3,e5,e1,hcn⟩|⟨e3,hcn⟩|⟨e3,e5,hcn⟩|⟨e3,e5,e1,hcn⟩
  ·have HCN:=Zh hcn;clear hcn;go_wp2;refine bodyPost_ret (v:=.agg (Qaa (.mk kk 0 [] a.off (s6+1) 2 [a,b]))) (results_cell_row rfl _ _ w.heap.size 127 _ (0,0) _ rfl (Qcv _ _ _ _ _ HRS.o) underlying127 rfl Qau) rfl ?_;rw[HR.o,HX3.o,HCN.o,ZK];obtain⟨e1,e2,e3,e4⟩:=HCM.o.fin HPL.o HTL.o _ _ _ _ _;exact⟨_,rfl,rfl,e1,e2,⟨k4,rfl,e3⟩,e4⟩
  ·have HCN:=Zh hcn;exact QjX
  ·have HCN:=Zh hcn;exact QjX
  ·have HCN:=Zh hcn;clear hcn;go_wp2;obtain⟨e0,e1,e2,e3,e4⟩:=HCM.o.wrap (cs:=#[Iv kk,Iv 0,.string ⟨#[]⟩,Iv a.off,.slice (some ⟨s6+1,0,none⟩) 2 2]) HPL.o HTL.o (by rw[HS7.o]) hnz.2 rfl 7 a.off _ _ _ _ _ _ _ _ _ _;refine bodyPost_ret (v:=.agg (Qaa (.mk 7 0 [] a.off W7.heap.size 1 [.mk kk 0 [] a.off (s6+1) 2 [a,b]]))) (results_cell_row rfl _ _ w.heap.size 127 _ (0,0) _ rfl (V6 _ _ _ _ _ _ e0) underlying127 rfl Qau) rfl ?_;rw[HR.o,HX3.o,HCN.o,ZK]
   exact⟨_,rfl,rfl,e1,e2,⟨k4,rfl,e3⟩,e4⟩):P:=h
theorem QjW{P:Prop}(h:P:=by
  have HFIN:=Zh (λv0 v1 v2 v3 v4=>HI.o.fin HPL.o HTL.o v0 v1 v2 v3 v4);have hbx:=HI.o.box;have hrs:=HI.o.res;rw[HCF.o]at hbx;have b5:=Jl hbx;have z5:=Jl hrs;have y5:=Js hrs;have HRS:=Zh hrs;clear hbx hrs HI;go_wp2;refine bodyPost_ret (v:=.agg (Qaa a)) (by rw[HCF.o];exact results_cell_row rfl _ _ w.heap.size 127 _ (0,0) _ rfl (Qcv _ _ _ _ _ HRS.o) underlying127 rfl Qau) rfl ?_;rw[HR.o,HX2.o];obtain⟨e1,e2,e3,e4⟩:=HFIN.o _ _ _ _ _
  exact⟨_,rfl,rfl,e1,e2,⟨k2,rfl,e3⟩,e4⟩):P:=h
def JlO(f p:Nat)(A:Option Addr)(C:Nat)(T:List Tok)
  (I1:∀k w,PAt w p A C T k->pM f (.level 5) (T.drop k)≠.out->Calls prog 136 #[Pt p,Iv 5] w (NdP p A C T w (pM f (.level 5) (T.drop k))))
  (k:Nat) (w:World) (h:PAt w p A C T k) (hne:pM (f+1) .cmp (T.drop k)≠.out) :
  Calls prog 158 #[Pt p] w (NdP p A C T w (pM (f+1) .cmp (T.drop k))):=by
 obtain⟨X,hX⟩:∃X,pM (f+1) .cmp (T.drop k)=X:=⟨_,rfl⟩
 have aA:=Jnx f (T.drop k);rw[hX]at hne aA |-;obtain⟨R,hR⟩:∃R,NdP p A C T w X=R:=⟨_,rfl⟩
 rw[hR];have HR:Hi (R=NdP p A C T w X):=hR.symm;have HNE:=Zh hne;have hZ:=zQ w (.cells #[Iv 0,Iv 0,Em,Iv 0,Nl] 127);have hB:=(Below.refl w.heap.size w).alloc zP (.cells #[Iv 0,Iv 0,Em,Iv 0,Nl] 127);have HP:=Zh (h.chg hB);have HZ:=Zh hZ;have HB:=Zh hB;have HPL:=Zh h.chg1;have HTL:=Zh h.tokLt;have vA:=Zh aA;have hne2:pM f (.level 5) (T.drop k)≠.out:=KB (by rw[<- vA.o];exact hne);have hpz:w.heap.size≠p:=by have:=HPL.o;omega
 have bA:Hi (w.heap.size<(w.alloc (.cells #[Iv 0,Iv 0,Em,Iv 0,Nl] 127)).heap.size):=by rw[Hi,World.size_alloc];exact Nat.lt_succ_self _
 clear h hne hR hZ hB aA hX;go_enter func158,ntmps158;go_wp2_with fail;refine(I1 k _ HP.o hne2).mono ?_;intro e w2 h2
 cases hx:pM f (.level 5) (T.drop k) with
 |out=>exact absurd hx hne2
 |bad q=>
  rw[hx]at h2;obtain⟨rfl,hc2⟩:=h2;refine⟨rfl,?_⟩;rw[HR.o,vA.o,hx];exact⟨rfl,(Chg.of_below HB.o [p]).trans hc2⟩
 |ok nd r=>
 rw[hx]at h2;obtain⟨a,hA,rfl,hat,hmd,⟨k2,hr,hp2⟩,hc2⟩:=h2;subst hA hr;have hzz:=hc2.heap_some (by simp;exact hpz) HZ.o;have zA:Below w2.heap.size w2 (w2.alloc (.cells (Qaa a) 127)):=zO.alloc zP _;have yA:Hi (LvI 0 0 0 .out p A C T w (w.alloc (.cells #[Iv 0,Iv 0,Em,Iv 0,Nl] 127)).heap.size w2.heap.size (w2.alloc (.cells (Qaa a) 127)) k2 0 a):=⟨rfl,le_refl _,hp2.chg zA,K1 hat hmd zA zP,hmd.mono zP zq,zQ _ _,(zA.block _ (Jb hzz)).trans hzz,((Chg.of_below HB.o [p]).trans hc2).alloc _,⟨bA.o,by have:=Jb hzz;omega,by have:=hp2.chg1;have:=HPL.o;have:=hc2.size;have:=bA.o;omega,by have:=Jb hzz;omega⟩,by have:=hc2.size;simp;simp at this;omega,λhm=>by have:=(hmd.2 _ hm).2;omega⟩
 obtain⟨xA,xn,xc,hcf⟩:=Jg a;have HCF:=Zh hcf;have HX1:Hi (X=match Qeh (hd (T.drop k2)) with|none=>.ok a.nd (T.drop k2)|some kk=>(pM f (.level 5) (T.drop (k2+1))).bind λb r2=>.ok (QdV (hd (T.drop k2)) kk a.nd b) r2):=by rw[Hi,vA.o,hx];simp only[PR.bind,tail_drop]
 rw[hcf]at yA |-;have cp:=Kp p A C T k2 _ yA.o.pat;have uA:=λ(e:(hd (T.drop k2)).kind=3)=>yA.o.pat.more (by rw[e];decide)
 clear hx hat hmd hp2 hc2 hcf hzz zA vA HP HB HZ hne2 bA;generalize hd (T.drop k2)=t at *;obtain⟨tk,tx,tn,tf⟩:=t;unfold Qfh Qda at cp;simp only at cp uA;go_wp2_with fail;refine cp.mono ?_;rintro e w3 ⟨rfl,cA⟩;have eA:=zQ w3 (.cells #[Iv tk,Sv tx,Iv tn,Iv tf] 134);have HI:=Zh ((yA.o.below cA).below ((Below.refl w3.heap.size w3).alloc zP (.cells #[Iv tk,Sv tx,Iv tn,Iv tf] 134)));have dA:w2.heap.size<w3.heap.size:=by have:=cA.size;simp at this;omega
 generalize hlo:(w.alloc (.cells #[Iv 0,Iv 0,Em,Iv 0,Nl] 127)).heap.size=lo at *;clear yA cA cp hlo;go_upto_region 3 with fail;generalize iA:w3.alloc (.cells #[Iv tk,Sv tx,Iv tn,Iv tf] 134)=W3 at *;have HT:=Zh eA;have kA:w3.heap.size<W3.heap.size:=Jb HT.o
 have gA:w2.heap.size<w3.heap.size/\w.heap.size<w2.heap.size/\p<w2.heap.size:=by
  have q1:=HI.o.low;have q2:=HPL.o;exact⟨dA,by omega,by omega⟩
 clear iA eA dA;generalize w3.heap.size=tb at *;generalize w2.heap.size=bx at *;have c0:W3.cell? ⟨tb,0,none⟩=some (Iv tk):=by rw[Ja HT.o];rfl
 have c1:W3.cell? ⟨tb,1,none⟩=some (Sv tx):=by rw[Ja HT.o];rfl
 have u1:=Jj tx
 by_cases h3:tk=3
 ·subst h3;have d3:((3:Int)==3)=true:=zp;have hk1:=uA rfl;have wk:IntKind.i64.wrap ((k2:Int)+1)=(k2:Int)+1:=IntWalk.i64_in _ (zu HI.o.pat.room);have pc:=Ja HI.o.pat.self 1;have pf:=Jc HI.o.pat.self 1;simp only[zW]at pc;clear uA
  by_cases h0:tx=[61,61]
  ·
   have e0:(tx==[61,61])=true:=by rw[h0];decide
   have e1:(tx==[33,61])=false:=by rw[h0];decide
   have e2:(tx==[60])=false:=by rw[h0];decide
   have e3:(tx==[62])=false:=by rw[h0];decide
   have e4:(tx==[60,61])=false:=by rw[h0];decide
   have e5:(tx==[62,61])=false:=by rw[h0];decide
   have HX2:Hi (X=(pM f (.level 5) (T.drop (k2+1))).bind λb r2=>.ok (QdV ⟨3,tx,tn,tf⟩ 15 a.nd b) r2):=by rw[Hi,HX1.o,show Qeh ⟨3,tx,tn,tf⟩=some 15 from by rw[h0];rfl]
   have HDJ:Hi (CmD tx tn tf 15):=.inl ⟨e3,e5,e1,λx y=>by rw[h0];rfl⟩;clear HX1 h0;go_upto_region 16 with fail;clear e0 e1 e2 e3 e4 e5;generalize (15:Int)=kk at *;exact ux1
  by_cases h1:tx=[33,61]
  ·
   have e0:(tx==[61,61])=false:=by rw[h1];decide
   have e1:(tx==[33,61])=true:=by rw[h1];decide
   have e2:(tx==[60])=false:=by rw[h1];decide
   have e3:(tx==[62])=false:=by rw[h1];decide
   have e4:(tx==[60,61])=false:=by rw[h1];decide
   have e5:(tx==[62,61])=false:=by rw[h1];decide
   have HX2:Hi (X=(pM f (.level 5) (T.drop (k2+1))).bind λb r2=>.ok (QdV ⟨3,tx,tn,tf⟩ 15 a.nd b) r2):=by rw[Hi,HX1.o,show Qeh ⟨3,tx,tn,tf⟩=some 15 from by rw[h1];rfl]
   have HDJ:Hi (CmD tx tn tf 15):=.inr (.inr (.inr ⟨e3,e5,e1,λx y=>by rw[h1];rfl⟩));clear HX1 h0 h1;go_upto_region 16 with fail;clear e0 e1 e2 e3 e4 e5;generalize (15:Int)=kk at *;exact ux1
  by_cases h2:tx=[60]
  ·
   have e0:(tx==[61,61])=false:=by rw[h2];decide
   have e1:(tx==[33,61])=false:=by rw[h2];decide
   have e2:(tx==[60])=true:=by rw[h2];decide
   have e3:(tx==[62])=false:=by rw[h2];decide
   have e4:(tx==[60,61])=false:=by rw[h2];decide
   have e5:(tx==[62,61])=false:=by rw[h2];decide
   have HX2:Hi (X=(pM f (.level 5) (T.drop (k2+1))).bind λb r2=>.ok (QdV ⟨3,tx,tn,tf⟩ 13 a.nd b) r2):=by rw[Hi,HX1.o,show Qeh ⟨3,tx,tn,tf⟩=some 13 from by rw[h2];rfl]
   have HDJ:Hi (CmD tx tn tf 13):=.inl ⟨e3,e5,e1,λx y=>by rw[h2];rfl⟩;clear HX1 h0 h1 h2;go_upto_region 16 with fail;clear e0 e1 e2 e3 e4 e5;generalize (13:Int)=kk at *;exact ux1
  by_cases h3:tx=[62]
  ·
   have e0:(tx==[61,61])=false:=by rw[h3];decide
   have e1:(tx==[33,61])=false:=by rw[h3];decide
   have e2:(tx==[60])=false:=by rw[h3];decide
   have e3:(tx==[62])=true:=by rw[h3];decide
   have e4:(tx==[60,61])=false:=by rw[h3];decide
   have e5:(tx==[62,61])=false:=by rw[h3];decide
   have HX2:Hi (X=(pM f (.level 5) (T.drop (k2+1))).bind λb r2=>.ok (QdV ⟨3,tx,tn,tf⟩ 13 a.nd b) r2):=by rw[Hi,HX1.o,show Qeh ⟨3,tx,tn,tf⟩=some 13 from by rw[h3];rfl]
   have HDJ:Hi (CmD tx tn tf 13):=.inr (.inl ⟨e3,λx y=>by rw[h3];rfl⟩);clear HX1 h0 h1 h2 h3;go_upto_region 16 with fail;clear e0 e1 e2 e3 e4 e5;generalize (13:Int)=kk at *;exact ux1
  by_cases h4:tx=[60,61]
  ·
   have e0:(tx==[61,61])=false:=by rw[h4];decide
   have e1:(tx==[33,61])=false:=by rw[h4];decide
   have e2:(tx==[60])=false:=by rw[h4];decide
   have e3:(tx==[62])=false:=by rw[h4];decide
   have e4:(tx==[60,61])=true:=by rw[h4];decide
   have e5:(tx==[62,61])=false:=by rw[h4];decide
   have HX2:Hi (X=(pM f (.level 5) (T.drop (k2+1))).bind λb r2=>.ok (QdV ⟨3,tx,tn,tf⟩ 14 a.nd b) r2):=by rw[Hi,HX1.o,show Qeh ⟨3,tx,tn,tf⟩=some 14 from by rw[h4];rfl]
   have HDJ:Hi (CmD tx tn tf 14):=.inl ⟨e3,e5,e1,λx y=>by rw[h4];rfl⟩;clear HX1 h0 h1 h2 h3 h4;go_upto_region 16 with fail;clear e0 e1 e2 e3 e4 e5;generalize (14:Int)=kk at *;exact ux1
  by_cases h5:tx=[62,61]
  ·
   have e0:(tx==[61,61])=false:=by rw[h5];decide
   have e1:(tx==[33,61])=false:=by rw[h5];decide
   have e2:(tx==[60])=false:=by rw[h5];decide
   have e3:(tx==[62])=false:=by rw[h5];decide
   have e4:(tx==[60,61])=false:=by rw[h5];decide
   have e5:(tx==[62,61])=true:=by rw[h5];decide
   have HX2:Hi (X=(pM f (.level 5) (T.drop (k2+1))).bind λb r2=>.ok (QdV ⟨3,tx,tn,tf⟩ 14 a.nd b) r2):=by rw[Hi,HX1.o,show Qeh ⟨3,tx,tn,tf⟩=some 14 from by rw[h5];rfl]
   have HDJ:Hi (CmD tx tn tf 14):=.inr (.inr (.inl ⟨e3,e5,λx y=>by rw[h5];rfl⟩));clear HX1 h0 h1 h2 h3 h4 h5;go_upto_region 16 with fail;clear e0 e1 e2 e3 e4 e5;generalize (14:Int)=kk at *;exact ux1
  have HX2:Hi (X=.ok a.nd (T.drop k2)):=by rw[Hi,HX1.o,show Qeh ⟨3,tx,tn,tf⟩=none from by unfold Qeh;simp[h0,h1,h2,h3,h4,h5]]
  have e0:(tx==[61,61])=false:=zM h0;have e1:(tx==[33,61])=false:=zM h1;have e2:(tx==[60])=false:=zM h2;have e3:(tx==[62])=false:=zM h3;have e4:(tx==[60,61])=false:=zM h4;have e5:(tx==[62,61])=false:=zM h5;clear h0 h1 h2 h3 h4 h5 HX1 HT I1;exact QjW
 ·have d3:(tk==3)=false:=zM h3;have jA:(tk !=3)=true:=by rw[bne,d3];rfl
  have HX2:Hi (X=.ok a.nd (T.drop k2)):=by rw[Hi,HX1.o,show Qeh ⟨tk,tx,tn,tf⟩=none from by unfold Qeh;rw[if_pos h3]]
  clear h3 uA I1 HX1 HT;exact QjW
end Go.Proofs.YtfafpklefknomaaGreatDoor
