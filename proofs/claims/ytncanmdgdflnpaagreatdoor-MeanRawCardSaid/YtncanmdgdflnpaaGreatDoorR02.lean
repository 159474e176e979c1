import Derived.Test.YtncanmdgdflnpaaGreatDoorR01
open List(cons_append length_append mem_cons nil_append not_mem_nil)
open Nat(le_of_lt le_refl ne_of_lt)
namespace Go.Proofs.YtncanmdgdflnpaaGreatDoor
open Go.ChangeShapes Go.WideShapes Go.ChangeAt Go.RowKit Go.Lib
open _root_.Go.Proofs.Tryz
set_option linter.all false
set_option maxRecDepth 100000
set_option maxHeartbeats 32000000
abbrev U1(w6:World)(b:An)(yA:Option Addr)(yn yc:Nat):World:=w6.alloc (.cells #[Iv b.kind,Iv b.num,.string (bs b.name),Iv b.off,.slice yA yn yc] 119)
abbrev U2(w6:World)(a b:An)(xA:Option Addr)(xn xc:Nat)(yA:Option Addr)(yn yc:Nat):World:=(U1 w6 b yA yn yc).alloc (.cells #[Iv a.kind,Iv a.num,.string (bs a.name),Iv a.off,.slice xA xn xc,Iv b.kind,Iv b.num,.string (bs b.name),Iv b.off,.slice yA yn yc] 119)
def Z6{S:List Nat}{W3 Wf:World}{lo rb:Nat}{kids:List An}{cs:Array Value}(W6:kids≠[])(hcs:cs.toList=Qdx kids)
  (hat:∀a∈kids,a.At W3) (hm:(Qaf kids).Nodup/\∀b∈Qaf kids,lo<=b/\b<W3.heap.size) (hC:Chg S W3 Wf) (hS:∀b∈S,b<lo\/b∉Qaf kids)
  (hrow:Wf.heap[rb]?=some (.cells cs 119)) (C9:W3.heap.size<=rb) (hlo:lo<=W3.heap.size) (kk n:Int) (s:By) (o:Int) (c:Nat):
  (An.mk kk n s o rb c kids).At Wf/\Qcs lo Wf.heap.size (An.mk kk n s o rb c kids):=by
 have hlt:=Jb hrow
 constructor
 ·unfold An.At;refine⟨λ_ j=>Jc hrow j,Kp kids 0 (λj u hu=>?_) λa ha=>?_⟩
  ·rw[Nat.zero_mul,Nat.zero_add];exact Ks hrow (by rw[hcs];exact hu)
  ·refine JE a (hat a ha) λb hb=>?_
   have xA:b∈Qaf kids:=by
    clear hat hm hcs hrow hS W6
    induction kids with
    |nil=>cases ha
    |cons x l ih=>
     exact Qll
   have yA:=hm.2 b xA
   exact hC.block b yA.2 λhs=>by
    rcases hS b hs with h|h
    ·omega
    ·exact h xA
 ·cases kids with
  |nil=>exact absurd rfl W6
  |cons x r=>
   unfold Qcs foot;have e:Qaf (x::r)=foot x++Qaf r:=by rw[Qaf]
   rw[e]at hm;refine⟨List.nodup_cons.2 ⟨λhx=>?_,hm.1⟩,λq hq=>?_⟩
   ·have:=(hm.2 _ hx).2;omega
   ·rcases List.mem_cons.1 hq with rfl|hq
    ·exact⟨by omega,hlt⟩
    ·have:=hm.2 q hq;exact⟨this.1,by omega⟩
def JgJ{lo hi:Nat}{a b:An}(h:QdK lo hi [a,b]):((Qaf [a,b]).Nodup/\∀q∈Qaf [a,b],lo<=q/\q<hi)/\((Qaf [b,a]).Nodup/\∀q∈Qaf [b,a],lo<=q/\q<hi):=by
 have h1:=h.foot;refine⟨h1,?_⟩;simp only[Qaf,List.append_nil]at *;exact⟨(List.perm_append_comm.nodup_iff).1 h1.1,λq hq=>h1.2 q (List.mem_append.2 (List.mem_append.1 hq).symm)⟩
structure Cm(p:Nat)(A:Option Addr)(C:Nat)(T:List Tok)(w:World)(k:Nat)(W:World)(lo:Nat)(n a b:An):Prop where
 pat:PAt W p A C T k
 nat:n.At W
 nmd:Qcs lo W.heap.size n
 nlt:∀q∈foot n,q+1<W.heap.size
 at1:a.At W
 at2:b.At W
 fts:(Qaf [b,a]).Nodup/\∀q∈Qaf [b,a],lo<=q/\q+3<W.heap.size
 res:W.heap[w.heap.size]?=some (.cells #[Iv 0,Iv 0,Em,Iv 0,Nl] 119 (0,0))
 chg:Chg [p] w W
 low:w.heap.size<lo/\lo<=W.heap.size/\p<lo
def Cm.make{X:PR Nd}{f lv:Nat}{of:Int}{g:Nat}{p:Nat}{A:Option Addr}{C:Nat}{T:List Tok}{w:World}{lo bx:Nat}{W3 W4 w6:World}{k2 k4:Nat}{a b:An}{cs:Array Value}(h:LvI f lv of X p A C T w lo bx W3 k2 g a)
  (h4:W4.heap.size=W3.heap.size) (j0:Chg [p] W3 w6) (X6:b.At w6) (X7:Qcs W4.heap.size w6.heap.size b) (j6:PAt w6 p A C T k4) (hp:p<w.heap.size) (hcs:cs.toList=Qdx [a,b]) (kk:Int) (B6 B7:Obj):
  Cm p A C T w k4 (((w6.alloc B6).alloc (.cells cs 119)).alloc B7) lo (.mk kk 0 [] a.off (w6.heap.size+1) 2 [a,b]) a b:=by
 have hb:Below w6.heap.size w6 (((w6.alloc B6).alloc (.cells cs 119)).alloc B7):=((zzb.alloc zzl _).alloc zp _).alloc zq _;rw[h4]at X7;have uA:QdK lo w6.heap.size [a,b]:=⟨W3.heap.size,h.lle,h.made,w6.heap.size,j0.size,X7,Nat.le_refl _⟩
 obtain⟨f1,f2⟩:=JgJ uA;obtain⟨l1,l2,l3,l4⟩:=h.low;have yA:lo<=w6.heap.size:=Nat.le_trans h.lle j0.size;have hsz:(((w6.alloc B6).alloc (.cells cs 119)).alloc B7).heap.size=w6.heap.size+3:=zp
 have xA:a.At w6:=Zf h.at' h.made j0 zzl λq hq=>by simp at hq;omega
 have hrow:(((w6.alloc B6).alloc (.cells cs 119)).alloc B7).heap[w6.heap.size+1]?=some (.cells cs 119):=by
  have h1:=zzw (w6.alloc B6) (.cells cs 119);rw[World.size_alloc]at h1;exact(Below.heap_alloc _ _ _ zp).trans h1
 have zA:Qcs lo w6.heap.size a:=h.made.mono zzl j0.size
 obtain⟨g1,g2⟩:=Z6 (S:=[]) zp hcs (λx hx=>by
  rcases List.mem_cons.1 hx with rfl|hx
  ·exact xA
  ·obtain rfl:x=b:=by simpa using hx
   exact X6) f1 (Chg.of_below hb []) zp hrow zo yA kk 0 [] a.off 2
 exact⟨j6.chg hb,g1,g2,λq hq=>by
  unfold foot at hq
  rcases List.mem_cons.1 hq with rfl|hq
  ·omega
  ·have:=(f1.2 q (by rw[Qaf];exact hq)).2;omega,Kz xA zA hb zzl,Kz X6 X7 hb zzl,⟨f2.1,λq hq=>⟨(f2.2 q hq).1,by have:=(f2.2 q hq).2;omega⟩⟩,(hb.block _ (Jb (j0.heap_some zq h.res))).trans (j0.heap_some zq h.res),(h.chg.trans j0).trans (Chg.of_below hb [p]),l1,by omega,by omega⟩
theorem zAa{P:Prop}(h:P:=by
  exact h.chg.step h2 λq hq=>.inr (by simp only[mem_cons,not_mem_nil,or_false]at hq;omega)):P:=h
def Cm.swap{p:Nat}{A:Option Addr}{C:Nat}{T:List Tok}{w W:World}{k lo nb:Nat}{n a b:An}{cs:Array Value}(h:Cm p A C T w k W lo n a b)(hp:p<w.heap.size)(hT:∀b o,A=some ⟨b,o,none⟩->b<w.heap.size)(hnb:nb+1=W.heap.size)(D9:nb≠w.heap.size)(hcs:cs.toList=Qdx [b,a])(kk o:Int)(v v0 v1 v2 v3 v4:Value):
  ((W.setCell ⟨nb,4,none⟩ v).heap[w.heap.size]?=some (.cells #[Iv 0,Iv 0,Em,Iv 0,Nl] 119 (0,0)))/\(An.mk kk 0 [] o W.heap.size 2 [b,a]).At ((put5 (W.setCell ⟨nb,4,none⟩ v) w.heap.size v0 v1 v2 v3 v4).alloc (.cells cs 119))/\Qcs w.heap.size ((put5 (W.setCell ⟨nb,4,none⟩ v) w.heap.size v0 v1 v2 v3 v4).alloc (.cells cs 119)).heap.size (An.mk kk 0 [] o W.heap.size 2 [b,a])/\PAt ((put5 (W.setCell ⟨nb,4,none⟩ v) w.heap.size v0 v1 v2 v3 v4).alloc (.cells cs 119)) p A C T k/\Chg [p] w ((put5 (W.setCell ⟨nb,4,none⟩ v) w.heap.size v0 v1 v2 v3 v4).alloc (.cells cs 119)):=by
 have hs:=h.chg.size;have hr:=Jb h.res;have hsz:(put5 (W.setCell ⟨nb,4,none⟩ v) w.heap.size v0 v1 v2 v3 v4).heap.size=W.heap.size:=by rw[J8];simp[World.setCell]
 have h1:Chg [w.heap.size,nb] W (W.setCell ⟨nb,4,none⟩ v):=(Chg.refl _ W).setCell (.inl (by simp:nb∈[w.heap.size,nb])) (p:=⟨nb,4,none⟩) v;have h2:=(h1.trans (J5 (S:=[w.heap.size,nb]) (W:=W.setCell ⟨nb,4,none⟩ v) v0 v1 v2 v3 v4 (by simp:w.heap.size∈[w.heap.size,nb]))).alloc (.cells cs 119);have xA:=zzw (put5 (W.setCell ⟨nb,4,none⟩ v) w.heap.size v0 v1 v2 v3 v4) (.cells cs 119);rw[hsz]at xA;have hlo:=h.low
 obtain⟨g1,g2⟩:=Z6 zp hcs (λx hx=>by
  rcases List.mem_cons.1 hx with rfl|hx
  ·exact h.at2
  ·obtain rfl:x=a:=by simpa using hx
   exact h.at1) ⟨h.fts.1,λq hq=>⟨(h.fts.2 q hq).1,by have:=(h.fts.2 q hq).2;omega⟩⟩ h2 (λq hq=>by
  simp only[mem_cons,not_mem_nil,or_false]at hq
  rcases hq with rfl|rfl
  ·exact .inl hlo.1
  ·exact .inr λhm=>by have:=(h.fts.2 _ hm).2;omega) xA zzl hlo.2.1 kk 0 [] o 2
 have yA:∀b o,A=some ⟨b,o,none⟩->nb≠b:=λb o e=>by have:=hT b o e;omega
 refine⟨?_,g1,g2.mono (le_of_lt hlo.1) zzl,?_,?_⟩
 ·rw[Below.heap_setCell _ _ _ _ (by first|exact D9|exact Ne.symm D9)];exact h.res
 ·exact((h.pat.setFar zo yA 4 v).put5 (Ne.symm (ne_of_lt hp)) (λb o e=>by have:=hT b o e;omega) _ _ _ _ _).chg (zzb.alloc zzl _)
 ·exact zAa
def Cm.wrap{p:Nat}{A:Option Addr}{C:Nat}{T:List Tok}{w W:World}{k lo nb:Nat}{n a b:An}{cs:Array Value}(h:Cm p A C T w k W lo n a b)(hp:p<w.heap.size)(hT:∀b o,A=some ⟨b,o,none⟩->b<w.heap.size)(hnb:nb+1=W.heap.size)(D9:nb≠w.heap.size)(hcs:cs.toList=Qdx [n])(kk o:Int)(u0 u1 u2 u3 u4 v0 v1 v2 v3 v4:Value):
  ((put5 W nb u0 u1 u2 u3 u4).heap[w.heap.size]?=some (.cells #[Iv 0,Iv 0,Em,Iv 0,Nl] 119 (0,0)))/\(An.mk kk 0 [] o W.heap.size 1 [n]).At ((put5 (put5 W nb u0 u1 u2 u3 u4) w.heap.size v0 v1 v2 v3 v4).alloc (.cells cs 119))/\Qcs w.heap.size ((put5 (put5 W nb u0 u1 u2 u3 u4) w.heap.size v0 v1 v2 v3 v4).alloc (.cells cs 119)).heap.size (An.mk kk 0 [] o W.heap.size 1 [n])/\PAt ((put5 (put5 W nb u0 u1 u2 u3 u4) w.heap.size v0 v1 v2 v3 v4).alloc (.cells cs 119)) p A C T k/\Chg [p] w ((put5 (put5 W nb u0 u1 u2 u3 u4) w.heap.size v0 v1 v2 v3 v4).alloc (.cells cs 119)):=by
 have hs:=h.chg.size;have hr:=Jb h.res;have hsz:(put5 (put5 W nb u0 u1 u2 u3 u4) w.heap.size v0 v1 v2 v3 v4).heap.size=W.heap.size:=by rw[J8,J8]
 have h1:Chg [w.heap.size,nb] W (put5 W nb u0 u1 u2 u3 u4):=J5 (S:=[w.heap.size,nb]) (W:=W) u0 u1 u2 u3 u4 (by simp:nb∈[w.heap.size,nb]);have h2:=(h1.trans (J5 (S:=[w.heap.size,nb]) (W:=put5 W nb u0 u1 u2 u3 u4) v0 v1 v2 v3 v4 (by simp:w.heap.size∈[w.heap.size,nb]))).alloc (.cells cs 119);have xA:=zzw (put5 (put5 W nb u0 u1 u2 u3 u4) w.heap.size v0 v1 v2 v3 v4) (.cells cs 119);rw[hsz]at xA;have hlo:=h.low
 obtain⟨g1,g2⟩:=Z6 zp hcs (λx hx=>(by simpa using hx:x=n) ▸ h.nat) ⟨by simpa[Qaf] using h.nmd.1,λq hq=>by
  have zA:q∈foot n:=by simpa[Qaf] using hq
  exact h.nmd.2 q zA⟩ h2 (λq hq=>by
  simp only[mem_cons,not_mem_nil,or_false]at hq
  rcases hq with rfl|rfl
  ·exact .inl hlo.1
  ·exact .inr λhm=>by have:=h.nlt _ (by simpa[Qaf] using hm);omega) xA zzl hlo.2.1 kk 0 [] o 1
 have yA:∀b o,A=some ⟨b,o,none⟩->nb≠b:=λb o e=>by have:=hT b o e;omega
 refine⟨?_,g1,g2.mono (le_of_lt hlo.1) zzl,?_,?_⟩
 ·exact((J5 (S:=[nb]) (W:=W) u0 u1 u2 u3 u4 (by simp:nb∈[nb])).block _ hr (by simp;exact Ne.symm D9)).trans h.res
 ·exact((h.pat.put5 zo yA _ _ _ _ _).put5 (Ne.symm (ne_of_lt hp)) (λb o e=>by have:=hT b o e;omega) _ _ _ _ _).chg (zzb.alloc zzl _)
 ·exact zAa
def CmD(tx:By)(tn tf kk:Int):Prop:=
 ((tx==[62])=false/\(tx==[62,61])=false/\(tx==[33,61])=false/\∀x y:Nd,QeV ⟨3,tx,tn,tf⟩ kk x y=.mk kk 0 [] x.off [x,y])\/
 ((tx==[62])=true/\∀x y:Nd,QeV ⟨3,tx,tn,tf⟩ kk x y=.mk kk 0 [] x.off [y,x])\/
 ((tx==[62])=false/\(tx==[62,61])=true/\∀x y:Nd,QeV ⟨3,tx,tn,tf⟩ kk x y=.mk kk 0 [] x.off [y,x])\/
 ((tx==[62])=false/\(tx==[62,61])=false/\(tx==[33,61])=true/\∀x y:Nd,QeV ⟨3,tx,tn,tf⟩ kk x y=.mk 7 0 [] x.off [.mk kk 0 [] x.off [x,y]])
def YC(a:An):a.nd.off=a.off:=by cases a;rfl
def Cm.fin{p:Nat}{A:Option Addr}{C:Nat}{T:List Tok}{w W:World}{k lo:Nat}{n a b:An}(h:Cm p A C T w k W lo n a b)(hp:p<w.heap.size)(hT:∀b o,A=some ⟨b,o,none⟩->b<w.heap.size)(v0 v1 v2 v3 v4:Value):
  n.At (put5 W w.heap.size v0 v1 v2 v3 v4)/\Qcs w.heap.size (put5 W w.heap.size v0 v1 v2 v3 v4).heap.size n/\PAt (put5 W w.heap.size v0 v1 v2 v3 v4) p A C T k/\Chg [p] w (put5 W w.heap.size v0 v1 v2 v3 v4):=by
 have hc:=J5 (S:=[w.heap.size]) (W:=W) v0 v1 v2 v3 v4 (by simp:w.heap.size∈[w.heap.size]);refine⟨Zf h.nat h.nmd hc zzl λb hb=>by have:=h.low.1;simp at hb;omega,?_,h.pat.put5 (Ne.symm (ne_of_lt hp)) (λb o e=>by have:=hT b o e;omega) _ _ _ _ _,h.chg.step hc λb hb=>.inr (by simp at hb;omega)⟩;rw[J8];exact h.nmd.mono (le_of_lt h.low.1) zzl
def JjS(f:Nat)(r:List Tok):pM (f+1) .cmp r=(pM f (.level 5) r).bind λa r1=>match Qfq (hd r1) with|none=>.ok a r1|some k=>(pM f (.level 5) r1.tail).bind λb r2=>.ok (QeV (hd r1) k a b) r2:=by rw[pM];rfl
def QnN{P:Prop}(h:P:=by
  clear hcn;go_wp2;obtain⟨e0,e1,e2,e3,e4⟩:=IA.o.swap (cs:=#[Iv b.kind,Iv b.num,.string (bs b.name),Iv b.off,.slice yA yn yc,Iv a.kind,Iv a.num,.string (bs a.name),Iv a.off,.slice xA xn xc]) A3.o P5.o (by rw[CD.o]) D9.2 (by simp[Qdx,O4.o,R7.o]) kk a.off _ _ _ _ _ _;refine bodyPost_ret (v:=.agg (Qaa (.mk kk 0 [] a.off W7.heap.size 2 [b,a]))) (results_cell_row rfl _ _ w.heap.size 119 _ (0,0) _ rfl (Vn _ _ _ _ _ _ e0) underlying119 rfl Qaq) rfl ?_;rw[HR.o,D6.o,R9.o,YC]
  exact⟨_,rfl,rfl,e1,e2,⟨k4,rfl,e3⟩,e4⟩):P:=h
def wx1{P:Prop}(h:P:=by
  have I5:pM f (.level 5) (T.drop (k2+1))≠.out:=Kj (by rw[<-Q2.o];exact S1.o);have A7:Hi (Chg [p] W3 (W3.setCell ⟨p,1,none⟩ (Iv ((k2:Int)+1)))):=(Chg.of_below (Below.refl W3.heap.size W3) [p]).setCell (.inl (by simp:p∈[p])) (p:=⟨p,1,none⟩) _;have Q7:Hi (PAt (W3.setCell ⟨p,1,none⟩ (Iv ((k2:Int)+1))) p A C T (k2+1)):=HI.o.pat.next hk1;go_wp2_with fail;refine NdP.call (I1 (k2+1) _ Q7.o I5) I5 (λq _ hx j0=>by exact⟨rfl,by rw[HR.o,Q2.o,hx];exact⟨rfl,(HI.o.chg.trans A7.o).trans j0⟩⟩) λb w6 k4 yA yn yc hx I4 B=>?_
  obtain⟨X6,X7,j6,j0⟩:=B;have R7:=Zh I4;have D6:Hi (X=.ok (QeV ⟨3,tx,tn,tf⟩ kk a.nd b.nd) (T.drop k4)):=by rw[Hi,Q2.o,hx];rfl
  have BB:=A7.o.trans j0;go_upto_region 18 with fail;have DD:=Cm.make (cs:=#[Iv a.kind,Iv a.num,.string (bs a.name),Iv a.off,.slice xA xn xc,Iv b.kind,Iv b.num,.string (bs b.name),Iv b.off,.slice yA yn yc]) HI.o (by simp[World.setCell]) BB X6 X7 j6 A3.o (by simp[Qdx,O4.o,I4]) kk (.cells #[Iv b.kind,Iv b.num,.string (bs b.name),Iv b.off,.slice yA yn yc] 119) (.cells #[Iv kk,Iv 0,.string ⟨#[]⟩,Iv a.off,.slice (some ⟨w6.heap.size+1,0,none⟩) 2 2] 119);have B8:=BB.heap_some (by simp;omega) HI.o.box;rw[O4.o]at B8;have CB:=BB.heap_some (by simp;omega) HT.o;have E9:Below w6.heap.size w6 (U1 w6 b yA yn yc):=zzb.alloc zzl _;have j3:=(E9.block _ (Jb B8)).trans B8;have DB:=(E9.block _ (Jb CB)).trans CB;have F9:=zzw w6 (.cells #[Iv b.kind,Iv b.num,.string (bs b.name),Iv b.off,.slice yA yn yc] 119);have DC:bx<w6.heap.size/\tb<w6.heap.size:=⟨Jb B8,Jb CB⟩
  have b5:=Jj j3;have z5:=Jj F9;have IA:=Zh DD;have P2:=Zh j3;have U7:=Zh F9;have ED:=Zh DB;have H9:=Zh DC;have HS6:Hi ((U1 w6 b yA yn yc).heap.size=w6.heap.size+1):=by rw[Hi,World.size_alloc]
  clear hx X6 X7 j6 j0 I4 BB DD B8 CB E9 j3 DB F9 I5 Q2 HI HT Q7 A7 I1;go_upto_region 19 with fail;have EB:Below (w6.heap.size+1) (U1 w6 b yA yn yc) ((U2 w6 a b xA xn xc yA yn yc).alloc (.cells #[Iv kk,Iv 0,.string ⟨#[]⟩,Iv a.off,.slice (some ⟨w6.heap.size+1,0,none⟩) 2 2] 119)):=(zzb.alloc (by simp) _).alloc (by simp) _
  have FD:((U2 w6 a b xA xn xc yA yn yc).alloc (.cells #[Iv kk,Iv 0,.string ⟨#[]⟩,Iv a.off,.slice (some ⟨w6.heap.size+1,0,none⟩) 2 2] 119)).heap[w6.heap.size+1+1]?=some (.cells #[Iv kk,Iv 0,.string ⟨#[]⟩,Iv a.off,.slice (some ⟨w6.heap.size+1,0,none⟩) 2 2] 119 (0,0)):=by
   have h1:=zzw (U2 w6 a b xA xn xc yA yn yc) (.cells #[Iv kk,Iv 0,.string ⟨#[]⟩,Iv a.off,.slice (some ⟨w6.heap.size+1,0,none⟩) 2 2] 119);rw[World.size_alloc,World.size_alloc]at h1;exact h1
  have SA:((U2 w6 a b xA xn xc yA yn yc).alloc (.cells #[Iv kk,Iv 0,.string ⟨#[]⟩,Iv a.off,.slice (some ⟨w6.heap.size+1,0,none⟩) 2 2] 119)).heap.size=w6.heap.size+1+1+1:=by rw[World.size_alloc,World.size_alloc,World.size_alloc]
  have EC:Hi (((U2 w6 a b xA xn xc yA yn yc).alloc (.cells #[Iv kk,Iv 0,.string ⟨#[]⟩,Iv a.off,.slice (some ⟨w6.heap.size+1,0,none⟩) 2 2] 119)).heap[bx]?=_):=(EB.block bx (by have:=H9.o;omega)).trans P2.o;have FC:Hi (((U2 w6 a b xA xn xc yA yn yc).alloc (.cells #[Iv kk,Iv 0,.string ⟨#[]⟩,Iv a.off,.slice (some ⟨w6.heap.size+1,0,none⟩) 2 2] 119)).heap[w6.heap.size]?=_):=(EB.block w6.heap.size (Nat.lt_succ_self _)).trans U7.o;have HT8:Hi (((U2 w6 a b xA xn xc yA yn yc).alloc (.cells #[Iv kk,Iv 0,.string ⟨#[]⟩,Iv a.off,.slice (some ⟨w6.heap.size+1,0,none⟩) 2 2] 119)).heap[tb]?=_):=(EB.block tb (by have:=H9.o;omega)).trans ED.o;have OA:=Zh FD;have CD:=Zh SA;clear SA b5 z5 FD EB P2 U7 ED HS6;generalize ((U2 w6 a b xA xn xc yA yn yc).alloc (.cells #[Iv kk,Iv 0,.string ⟨#[]⟩,Iv a.off,.slice (some ⟨w6.heap.size+1,0,none⟩) 2 2] 119))=W7 at*;generalize w6.heap.size=s6 at*;have ct:=Ja HT8.o 1;simp only[ZD,ZE,ZF]at ct;have hn:=OA.o;have Q0:=IA.o.res;have bc:=Jj hn;have zc:=Jj Q0;have yf:=Jp Q0;have gf:=Jp hn;have pc5:=Jj EC.o;have qc5:=Jj FC.o;have X4:=Zh Q0;have hzl:=Jb Q0;have hnl:=Jb hn;have D9:w.heap.size≠s6+1+1/\s6+1+1≠w.heap.size:=by have:=IA.o.low;have:=H9.o;omega
  clear hn Q0
  rcases TA.o with⟨e3,e5,e1,hcn⟩|⟨e3,hcn⟩|⟨e3,e5,hcn⟩|⟨e3,e5,e1,hcn⟩
  ·have R9:=Zh hcn;clear hcn;go_wp2;refine bodyPost_ret (v:=.agg (Qaa (.mk kk 0 [] a.off (s6+1) 2 [a,b]))) (results_cell_row rfl _ _ w.heap.size 119 _ (0,0) _ rfl (QcM _ _ _ _ _ X4.o) underlying119 rfl Qaq) rfl ?_;rw[HR.o,D6.o,R9.o,YC];obtain⟨e1,e2,e3,e4⟩:=IA.o.fin A3.o P5.o _ _ _ _ _;exact⟨_,rfl,rfl,e1,e2,⟨k4,rfl,e3⟩,e4⟩
  ·have R9:=Zh hcn;exact QnN
  ·have R9:=Zh hcn;exact QnN
  ·have R9:=Zh hcn;clear hcn;go_wp2;obtain⟨e0,e1,e2,e3,e4⟩:=IA.o.wrap (cs:=#[Iv kk,Iv 0,.string ⟨#[]⟩,Iv a.off,.slice (some ⟨s6+1,0,none⟩) 2 2]) A3.o P5.o (by rw[CD.o]) D9.2 rfl 7 a.off _ _ _ _ _ _ _ _ _ _;refine bodyPost_ret (v:=.agg (Qaa (.mk 7 0 [] a.off W7.heap.size 1 [.mk kk 0 [] a.off (s6+1) 2 [a,b]]))) (results_cell_row rfl _ _ w.heap.size 119 _ (0,0) _ rfl (Vn _ _ _ _ _ _ e0) underlying119 rfl Qaq) rfl ?_;rw[HR.o,D6.o,R9.o,YC]
   exact⟨_,rfl,rfl,e1,e2,⟨k4,rfl,e3⟩,e4⟩):P:=h
def QnM{P:Prop}(h:P:=by
  have E0:=Zh (λv0 v1 v2 v3 v4=>HI.o.fin A3.o P5.o v0 v1 v2 v3 v4);have U0:=HI.o.box;have Q0:=HI.o.res;rw[O4.o]at U0;have b5:=Jj U0;have z5:=Jj Q0;have y5:=Jp Q0;have X4:=Zh Q0;clear U0 Q0 HI;go_wp2;refine bodyPost_ret (v:=.agg (Qaa a)) (by rw[O4.o];exact results_cell_row rfl _ _ w.heap.size 119 _ (0,0) _ rfl (QcM _ _ _ _ _ X4.o) underlying119 rfl Qaq) rfl ?_;rw[HR.o,Q2.o];obtain⟨e1,e2,e3,e4⟩:=E0.o _ _ _ _ _
  exact⟨_,rfl,rfl,e1,e2,⟨k2,rfl,e3⟩,e4⟩):P:=h
theorem zAb{P:Prop}(h:P:=by
  go_upto_region 16 with fail;clear e0 e1 e2 e3 e4 e5;generalize (13:Int)=kk at*;exact wx1):P:=h
theorem zAc{P:Prop}(h:P:=by
  go_upto_region 16 with fail;clear e0 e1 e2 e3 e4 e5;generalize (14:Int)=kk at*;exact wx1):P:=h
theorem zAd{P:Prop}(h:P:=by
  go_upto_region 16 with fail;clear e0 e1 e2 e3 e4 e5;generalize (15:Int)=kk at*;exact wx1):P:=h
def JiE(f p:Nat)(A:Option Addr)(C:Nat)(T:List Tok)
  (I1:∀k w,PAt w p A C T k->pM f (.level 5) (T.drop k)≠.out->Calls prog 105 #[Pt p,Iv 5] w (NdP p A C T w (pM f (.level 5) (T.drop k))))
  (k:Nat) (w:World) (h:PAt w p A C T k) (hne:pM (f+1) .cmp (T.drop k)≠.out):
  Calls prog 129 #[Pt p] w (NdP p A C T w (pM (f+1) .cmp (T.drop k))):=by
 obtain⟨X,hX⟩:∃X,pM (f+1) .cmp (T.drop k)=X:=⟨_,rfl⟩
 have aA:=JjS f (T.drop k);rw[hX]at hne aA |-;obtain⟨R,hR⟩:∃R,NdP p A C T w X=R:=⟨_,rfl⟩
 rw[hR];have HR:Hi (R=NdP p A C T w X):=hR.symm;have S1:=Zh hne;have hZ:=zzw w (.cells #[Iv 0,Iv 0,Em,Iv 0,Nl] 119);have hB:=(Below.refl w.heap.size w).alloc zzl (.cells #[Iv 0,Iv 0,Em,Iv 0,Nl] 119);have HP:=Zh (h.chg hB);have HZ:=Zh hZ;have HB:=Zh hB;have A3:=Zh h.chg1;have P5:=Zh h.tokLt;have vA:=Zh aA;have F4:pM f (.level 5) (T.drop k)≠.out:=Kj (by rw[<-vA.o];exact hne);have H5:w.heap.size≠p:=by have:=A3.o;omega
 have bA:Hi (w.heap.size<(w.alloc (.cells #[Iv 0,Iv 0,Em,Iv 0,Nl] 119)).heap.size):=by rw[Hi,World.size_alloc];exact Nat.lt_succ_self _
 clear h hne hR hZ hB aA hX;go_enter func129,ntmps129;go_wp2_with fail;refine(I1 k _ HP.o F4).mono ?_;intro e w2 h2
 cases hx:pM f (.level 5) (T.drop k) with
 |out=>exact absurd hx F4
 |bad q=>
  rw[hx]at h2;obtain⟨rfl,E1⟩:=h2;refine⟨rfl,?_⟩;rw[HR.o,vA.o,hx];exact⟨rfl,(Chg.of_below HB.o [p]).trans E1⟩
 |ok nd r=>
 rw[hx]at h2;obtain⟨a,hA,rfl,hat,S6,⟨k2,hr,C2⟩,E1⟩:=h2;subst hA hr;have hzz:=E1.heap_some (by simp;exact H5) HZ.o;have zA:Below w2.heap.size w2 (w2.alloc (.cells (Qaa a) 119)):=zzb.alloc zzl _;have yA:Hi (LvI 0 0 0 .out p A C T w (w.alloc (.cells #[Iv 0,Iv 0,Em,Iv 0,Nl] 119)).heap.size w2.heap.size (w2.alloc (.cells (Qaa a) 119)) k2 0 a):=⟨rfl,Nat.le_refl _,C2.chg zA,Kz hat S6 zA zzl,S6.mono zzl zp,zzw _ _,(zA.block _ (Jb hzz)).trans hzz,((Chg.of_below HB.o [p]).trans E1).alloc _,⟨bA.o,by have:=Jb hzz;omega,by have:=C2.chg1;have:=A3.o;have:=E1.size;have:=bA.o;omega,by have:=Jb hzz;omega⟩,by have:=E1.size;simp;simp at this;omega,λhm=>by have:=(S6.2 _ hm).2;omega⟩
 obtain⟨xA,xn,xc,T1⟩:=Jg a;have O4:=Zh T1;have C0:Hi (X=match Qfq (hd (T.drop k2)) with|none=>.ok a.nd (T.drop k2)|some kk=>(pM f (.level 5) (T.drop (k2+1))).bind λb r2=>.ok (QeV (hd (T.drop k2)) kk a.nd b) r2):=by rw[Hi,vA.o,hx];simp only[PR.bind,tail_drop]
 rw[T1]at yA |-;have cp:=Kc p A C T k2 _ yA.o.pat;have uA:=λ(e:(hd (T.drop k2)).kind=3)=>yA.o.pat.more (by rw[e];decide)
 clear hx hat S6 C2 E1 T1 hzz zA vA HP HB HZ F4 bA;generalize hd (T.drop k2)=t at*;obtain⟨tk,tx,tn,tf⟩:=t;unfold QhL Qdw at cp;simp only at cp uA;go_wp2_with fail;refine cp.mono ?_;rintro e w3 ⟨rfl,cA⟩;have eA:=zzw w3 (.cells #[Iv tk,Sv tx,Iv tn,Iv tf] 105);have HI:=Zh ((yA.o.below cA).below ((Below.refl w3.heap.size w3).alloc zzl (.cells #[Iv tk,Sv tx,Iv tn,Iv tf] 105)));have dA:w2.heap.size<w3.heap.size:=by have:=cA.size;simp at this;omega
 generalize hlo:(w.alloc (.cells #[Iv 0,Iv 0,Em,Iv 0,Nl] 119)).heap.size=lo at*;clear yA cA cp hlo;go_upto_region 3 with fail;generalize iA:w3.alloc (.cells #[Iv tk,Sv tx,Iv tn,Iv tf] 105)=W3 at*;have HT:=Zh eA;have kA:w3.heap.size<W3.heap.size:=Jb HT.o
 have gA:w2.heap.size<w3.heap.size/\w.heap.size<w2.heap.size/\p<w2.heap.size:=by
  have q1:=HI.o.low;have q2:=A3.o;exact⟨dA,by omega,by omega⟩
 clear iA eA dA;generalize w3.heap.size=tb at*;generalize w2.heap.size=bx at*;have c0:W3.cell? ⟨tb,0,none⟩=some (Iv tk):=by rw[Ja HT.o];rfl
 have c1:W3.cell? ⟨tb,1,none⟩=some (Sv tx):=by rw[Ja HT.o];rfl
 have u1:=Jk tx
 by_cases h3:tk=3
 ·subst h3;have d3:((3:Int)==3)=true:=zd
  have hk1:=uA rfl;have wk:IntKind.i64.wrap ((k2:Int)+1)=(k2:Int)+1:=IntWalk.i64_in _ (zt HI.o.pat.room);have pc:=Ja HI.o.pat.self 1;have pf:=Jc HI.o.pat.self 1;simp only[zW]at pc;clear uA
  by_cases h0:tx=[61,61]
  ·
   have e0:(tx==[61,61])=true:=by rw[h0];decide
   have e1:(tx==[33,61])=false:=by rw[h0];decide
   have e2:(tx==[60])=false:=by rw[h0];decide
   have e3:(tx==[62])=false:=by rw[h0];decide
   have e4:(tx==[60,61])=false:=by rw[h0];decide
   have e5:(tx==[62,61])=false:=by rw[h0];decide
   have Q2:Hi (X=(pM f (.level 5) (T.drop (k2+1))).bind λb r2=>.ok (QeV ⟨3,tx,tn,tf⟩ 15 a.nd b) r2):=by rw[Hi,C0.o,show Qfq ⟨3,tx,tn,tf⟩=some 15 from by rw[h0];rfl]
   have TA:Hi (CmD tx tn tf 15):=.inl ⟨e3,e5,e1,λx y=>by rw[h0];rfl⟩;clear C0 h0;exact zAd
  by_cases h1:tx=[33,61]
  ·
   have e0:(tx==[61,61])=false:=by rw[h1];decide
   have e1:(tx==[33,61])=true:=by rw[h1];decide
   have e2:(tx==[60])=false:=by rw[h1];decide
   have e3:(tx==[62])=false:=by rw[h1];decide
   have e4:(tx==[60,61])=false:=by rw[h1];decide
   have e5:(tx==[62,61])=false:=by rw[h1];decide
   have Q2:Hi (X=(pM f (.level 5) (T.drop (k2+1))).bind λb r2=>.ok (QeV ⟨3,tx,tn,tf⟩ 15 a.nd b) r2):=by rw[Hi,C0.o,show Qfq ⟨3,tx,tn,tf⟩=some 15 from by rw[h1];rfl]
   have TA:Hi (CmD tx tn tf 15):=.inr (.inr (.inr ⟨e3,e5,e1,λx y=>by rw[h1];rfl⟩));clear C0 h0 h1;exact zAd
  by_cases h2:tx=[60]
  ·
   have e0:(tx==[61,61])=false:=by rw[h2];decide
   have e1:(tx==[33,61])=false:=by rw[h2];decide
   have e2:(tx==[60])=true:=by rw[h2];decide
   have e3:(tx==[62])=false:=by rw[h2];decide
   have e4:(tx==[60,61])=false:=by rw[h2];decide
   have e5:(tx==[62,61])=false:=by rw[h2];decide
   have Q2:Hi (X=(pM f (.level 5) (T.drop (k2+1))).bind λb r2=>.ok (QeV ⟨3,tx,tn,tf⟩ 13 a.nd b) r2):=by rw[Hi,C0.o,show Qfq ⟨3,tx,tn,tf⟩=some 13 from by rw[h2];rfl]
   have TA:Hi (CmD tx tn tf 13):=.inl ⟨e3,e5,e1,λx y=>by rw[h2];rfl⟩;clear C0 h0 h1 h2;exact zAb
  by_cases h3:tx=[62]
  ·
   have e0:(tx==[61,61])=false:=by rw[h3];decide
   have e1:(tx==[33,61])=false:=by rw[h3];decide
   have e2:(tx==[60])=false:=by rw[h3];decide
   have e3:(tx==[62])=true:=by rw[h3];decide
   have e4:(tx==[60,61])=false:=by rw[h3];decide
   have e5:(tx==[62,61])=false:=by rw[h3];decide
   have Q2:Hi (X=(pM f (.level 5) (T.drop (k2+1))).bind λb r2=>.ok (QeV ⟨3,tx,tn,tf⟩ 13 a.nd b) r2):=by rw[Hi,C0.o,show Qfq ⟨3,tx,tn,tf⟩=some 13 from by rw[h3];rfl]
   have TA:Hi (CmD tx tn tf 13):=.inr (.inl ⟨e3,λx y=>by rw[h3];rfl⟩);clear C0 h0 h1 h2 h3;exact zAb
  by_cases h4:tx=[60,61]
  ·
   have e0:(tx==[61,61])=false:=by rw[h4];decide
   have e1:(tx==[33,61])=false:=by rw[h4];decide
   have e2:(tx==[60])=false:=by rw[h4];decide
   have e3:(tx==[62])=false:=by rw[h4];decide
   have e4:(tx==[60,61])=true:=by rw[h4];decide
   have e5:(tx==[62,61])=false:=by rw[h4];decide
   have Q2:Hi (X=(pM f (.level 5) (T.drop (k2+1))).bind λb r2=>.ok (QeV ⟨3,tx,tn,tf⟩ 14 a.nd b) r2):=by rw[Hi,C0.o,show Qfq ⟨3,tx,tn,tf⟩=some 14 from by rw[h4];rfl]
   have TA:Hi (CmD tx tn tf 14):=.inl ⟨e3,e5,e1,λx y=>by rw[h4];rfl⟩;clear C0 h0 h1 h2 h3 h4;exact zAc
  by_cases h5:tx=[62,61]
  ·
   have e0:(tx==[61,61])=false:=by rw[h5];decide
   have e1:(tx==[33,61])=false:=by rw[h5];decide
   have e2:(tx==[60])=false:=by rw[h5];decide
   have e3:(tx==[62])=false:=by rw[h5];decide
   have e4:(tx==[60,61])=false:=by rw[h5];decide
   have e5:(tx==[62,61])=true:=by rw[h5];decide
   have Q2:Hi (X=(pM f (.level 5) (T.drop (k2+1))).bind λb r2=>.ok (QeV ⟨3,tx,tn,tf⟩ 14 a.nd b) r2):=by rw[Hi,C0.o,show Qfq ⟨3,tx,tn,tf⟩=some 14 from by rw[h5];rfl]
   have TA:Hi (CmD tx tn tf 14):=.inr (.inr (.inl ⟨e3,e5,λx y=>by rw[h5];rfl⟩));clear C0 h0 h1 h2 h3 h4 h5;exact zAc
  have Q2:Hi (X=.ok a.nd (T.drop k2)):=by rw[Hi,C0.o,show Qfq ⟨3,tx,tn,tf⟩=none from by unfold Qfq;simp[h0,h1,h2,h3,h4,h5]]
  have e0:(tx==[61,61])=false:=zzq h0;have e1:(tx==[33,61])=false:=zzq h1;have e2:(tx==[60])=false:=zzq h2;have e3:(tx==[62])=false:=zzq h3;have e4:(tx==[60,61])=false:=zzq h4;have e5:(tx==[62,61])=false:=zzq h5;clear h0 h1 h2 h3 h4 h5 C0 HT I1;exact QnM
 ·have d3:(tk==3)=false:=zzq h3;have jA:(tk !=3)=true:=by rw[bne,d3];rfl
  have Q2:Hi (X=.ok a.nd (T.drop k2)):=by rw[Hi,C0.o,show Qfq ⟨tk,tx,tn,tf⟩=none from by unfold Qfq;rw[if_pos h3]]
  clear h3 uA I1 C0 HT;exact QnM
structure PrI(p:Nat)(A:Option Addr)(C:Nat)(T:List Tok)(w:World)(k tb:Nat)(tok:Array Value)(W:World):Prop where
 pat:PAt W p A C T k
 tok:W.heap[tb]?=some (.cells tok 105 (0,0))
 res:W.heap[w.heap.size]?=some (.cells #[Iv 0,Iv 0,Em,Iv 0,Nl] 119 (0,0))
 chg:Below w.heap.size w W
 low:w.heap.size<tb/\p<w.heap.size
def PrI.below{p:Nat}{A:Option Addr}{C:Nat}{T:List Tok}{w:World}{k tb:Nat}{tok:Array Value}{W W':World}(h:PrI p A C T w k tb tok W)(hb:Below W.heap.size W W'):PrI p A C T w k tb tok W':=
 ⟨h.pat.chg hb,(hb.block _ (Jb h.tok)).trans h.tok,(hb.block _ (Jb h.res)).trans h.res,h.chg.trans (hb.mono h.chg.size),h.low⟩
def Z7{w W:World}{p:Nat}{A:Option Addr}{C:Nat}{T:List Tok}{k:Nat}(hP:PAt W p A C T k)(hC:Chg [p] w W)(hp:p<w.heap.size)(hT:∀b o,A=some ⟨b,o,none⟩->b<w.heap.size)(v0 v1 v2 v3 v4:Value):
  PAt (put5 W w.heap.size v0 v1 v2 v3 v4) p A C T k/\Chg [p] w (put5 W w.heap.size v0 v1 v2 v3 v4):=
 ⟨hP.put5 (Ne.symm (ne_of_lt hp)) (λb o e=>by have:=hT b o e;omega) _ _ _ _ _,hC.step (J5 (S:=[w.heap.size]) v0 v1 v2 v3 v4 (by simp:w.heap.size∈[w.heap.size])) λb hb=>.inr (by simp at hb;omega)⟩
def J4(k n:Int)(s:By)(o:Int):Qaa (QcX k n s o)=#[Iv k,Iv n,Sv s,Iv o,Nl]:=by
 show #[_,_,_,_,Qaw 0 0 []]=_
 unfold Qaw;rw[if_pos rfl]
def JbS(k n:Int)(s:By)(o:Int):(QcX k n s o).nd=.mk k n s o []:=rfl
def JdF(a:An)(tf:Int){V:Value}(h:Qaa a=#[Iv a.kind,Iv a.num,.string (bs a.name),Iv a.off,V]):Qaa (.mk a.kind a.num a.name tf a.blk a.cap a.kids)=#[Iv a.kind,Iv a.num,.string (bs a.name),Iv tf,V]:=by
 obtain⟨k,n,s,o,b,c,l⟩:=a;have e:Qaw b c l=V:=Option.some.inj (congrArg (λx:Array Value=>x[4]?) h)
 show #[_,_,_,_,Qaw b c l]=_
 rw[e]
 first|done|rfl
def Jkt(a:An)(tf:Int):(An.mk a.kind a.num a.name tf a.blk a.cap a.kids).nd=.mk a.nd.kind a.nd.num a.nd.name tf a.nd.kids:=by cases a;rfl
def JiF(a:An)(tf:Int):foot (An.mk a.kind a.num a.name tf a.blk a.cap a.kids)=foot a:=by obtain⟨k,n,s,o,b,c,l⟩:=a;cases l<;>simp[foot,An.blk,An.kids]
def JiG{w W:World}{p:Nat}{A:Option Addr}{C:Nat}{T:List Tok}{k lo bx:Nat}{a:An}(hat:a.At W)(hm:Qcs lo bx a)(hl:w.heap.size<lo)(hb:bx<W.heap.size)(G1:w.heap.size<bx)(hbp:bx≠p)(hP:PAt W p A C T k)(hC:Chg [p] w W)(hp:p<w.heap.size)(hT:∀b o,A=some ⟨b,o,none⟩->b<w.heap.size)(o:Int)(v v0 v1 v2 v3 v4:Value):
  (An.mk a.kind a.num a.name o a.blk a.cap a.kids).At (put5 (W.setCell ⟨bx,3,none⟩ v) w.heap.size v0 v1 v2 v3 v4)/\Qcs w.heap.size (put5 (W.setCell ⟨bx,3,none⟩ v) w.heap.size v0 v1 v2 v3 v4).heap.size (An.mk a.kind a.num a.name o a.blk a.cap a.kids)/\PAt (put5 (W.setCell ⟨bx,3,none⟩ v) w.heap.size v0 v1 v2 v3 v4) p A C T k/\Chg [p] w (put5 (W.setCell ⟨bx,3,none⟩ v) w.heap.size v0 v1 v2 v3 v4):=by
 have hsz:(put5 (W.setCell ⟨bx,3,none⟩ v) w.heap.size v0 v1 v2 v3 v4).heap.size=W.heap.size:=by rw[J8];simp[World.setCell]
 have h1:Chg [w.heap.size,bx] W (W.setCell ⟨bx,3,none⟩ v):=(Chg.refl _ W).setCell (.inl (by simp:bx∈[w.heap.size,bx])) (p:=⟨bx,3,none⟩) v;have h2:=h1.trans (J5 (S:=[w.heap.size,bx]) (W:=W.setCell ⟨bx,3,none⟩ v) v0 v1 v2 v3 v4 (by simp:w.heap.size∈[w.heap.size,bx]));have Y4:=JiF a o
 have e0:a.At (put5 (W.setCell ⟨bx,3,none⟩ v) w.heap.size v0 v1 v2 v3 v4):=JE a hat λb hb'=>h2.block b (zt ((hm.2 b hb').2)) (λhq=>by
  have h3:=hm.2 b hb';simp only[mem_cons,not_mem_nil,or_false]at hq
  rcases hq with rfl|rfl<;>omega)
 refine⟨?_,?_,?_,?_⟩
 ·obtain⟨k,n,s,o',b,c,l⟩:=a;exact e0
 ·unfold Qcs;rw[Y4,hsz];exact⟨hm.1,λb hb'=>by have:=hm.2 b hb';omega⟩
 ·exact(hP.setFar hbp (λb o e=>by have:=hT b o e;omega) 3 v).put5 (Ne.symm (ne_of_lt hp)) (λb o e=>by have:=hT b o e;omega) _ _ _ _ _
 ·exact hC.step h2 λq hq=>.inr (by simp only[mem_cons,not_mem_nil,or_false]at hq;omega)
def JjT(f:Nat){r:List Tok}(h:(hd r).kind=1):pM (f+1) .prim r=.ok (.mk 0 (hd r).n [] (hd r).off []) r.tail:=by rw[pM,if_pos h]
def QnU{P:Prop}(h:P:=by
  have D6:Hi (X=pM f .named (T.drop k)):=by rw[Hi,<-Q2.o,if_neg hF]
  have F4:pM f .named (T.drop k)≠.out:=by rw[<-D6.o];exact S1.o
  clear hF Q2 I1;go_wp2_with fail;refine NdP.call (I2 k _ HI.o.pat F4) F4 (λq _ hx A5=>by exact⟨rfl,by rw[HR.o,D6.o,hx];exact⟨rfl,(Chg.of_below HI.o.chg [p]).trans A5⟩⟩) λa w3 k3 xA xn xc hx T1 B=>?_
  obtain⟨hat,S6,m8,A5⟩:=B;have hzz:w3.heap[w.heap.size]?=some (.cells #[Iv 0,Iv 0,.string ⟨#[]⟩,Iv 0,.slice none 0 0] 119):=A5.heap_some (by simp;exact H5) HI.o.res;have E0:=Zh (λv0 v1 v2 v3 v4=>JaA (w:=w) (W2:=wa4) (W3:=w3) hat S6 (Jb HI.o.res) m8 (Chg.of_below HI.o.chg [p]) A5 A3.o P5.o v0 v1 v2 v3 v4);have P7:Hi (X=.ok a.nd (T.drop k3)):=by rw[Hi,D6.o,hx]
  have O4:=Zh T1;have z5:=Jj hzz;have y5:=Jp hzz;have q8:=Zh hzz;clear hzz hx hat S6 m8 A5 T1 F4 I2 D6 HI;go_wp2;refine bodyPost_ret (v:=.agg (Qaa a)) (by rw[O4.o];exact results_cell_row rfl _ _ w.heap.size 119 _ (0,0) _ rfl (QcM _ _ _ _ _ q8.o) underlying119 rfl Qaq) rfl ?_;rw[HR.o,P7.o];obtain⟨e1,e2,e3,e4⟩:=E0.o _ _ _ _ _
  exact⟨_,rfl,rfl,e1,e2,⟨k3,rfl,e3⟩,e4⟩):P:=h
def Qmo{P:Prop}(h:P:=by
  obtain⟨e1,e2⟩:=Z7 E6.o T6.o A3.o P5.o _ _ _ _ _
  exact⟨_,JbS _ _ _ _,rfl,JbN _ _ _ _ _,Yz _ _ _ _ _ _,⟨k+1,rfl,e1⟩,e2⟩):P:=h
def Qnn{P:Prop}(h:P:=by
  rw[HR.o,D6.o];obtain⟨e1,e2⟩:=Z7 E6.o T6.o A3.o P5.o _ _ _ _ _
  exact⟨_,JbS _ _ _ _,rfl,JbN _ _ _ _ _,Yz _ _ _ _ _ _,⟨k4,rfl,e1⟩,e2⟩):P:=h
def JgK(f p:Nat)(A:Option Addr)(C:Nat)(T:List Tok)
  (I1:∀k w,PAt w p A C T k->pM f .expr (T.drop k)≠.out->Calls prog 65 #[Pt p] w (NdP p A C T w (pM f .expr (T.drop k))))
  (I2:∀k w,PAt w p A C T k->pM f .named (T.drop k)≠.out->Calls prog 148 #[Pt p] w (NdP p A C T w (pM f .named (T.drop k))))
  (k:Nat) (w:World) (h:PAt w p A C T k) (hne:pM (f+1) .prim (T.drop k)≠.out):
  Calls prog 130 #[Pt p] w (NdP p A C T w (pM (f+1) .prim (T.drop k))):=by
 obtain⟨X,hX⟩:∃X,pM (f+1) .prim (T.drop k)=X:=⟨_,rfl⟩
 rw[hX]at hne |-;obtain⟨R,hR⟩:∃R,NdP p A C T w X=R:=⟨_,rfl⟩
 rw[hR];have HR:Hi (R=NdP p A C T w X):=hR.symm;have S1:=Zh hne;have HX:=Zh hX;have hZ:=zzw w (.cells #[Iv 0,Iv 0,Em,Iv 0,Nl] 119);have hB:=(Below.refl w.heap.size w).alloc zzl (.cells #[Iv 0,Iv 0,Em,Iv 0,Nl] 119);have cp:=Kc p A C T k _ (h.chg hB);have HP:=Zh (h.chg hB);have HZ:=Zh hZ;have HB:=Zh hB;have A3:=Zh h.chg1;have P5:=Zh h.tokLt;have xB:=λ(e:(hd (T.drop k)).kind=1)=>h.more (by rw[e];decide)
 obtain⟨t,ht⟩:∃t,hd (T.drop k)=t:=⟨_,rfl⟩
 have uA:=Zh ht;rw[ht]at cp xB;obtain⟨tk,tx,tn,tf⟩:=t;unfold QhL Qdw at cp;simp only at cp xB;have H5:w.heap.size≠p:=by have:=A3.o;omega
 go_enter func130,ntmps130;go_wp2_with fail;refine cp.mono ?_;rintro e w3 ⟨rfl,zB⟩;have cB:=zzw w3 (.cells #[Iv tk,Sv tx,Iv tn,Iv tf] 105);have bB:Below w3.heap.size w3 (w3.alloc (.cells #[Iv tk,Sv tx,Iv tn,Iv tf] 105)):=zzb.alloc zzl _;have yB:=zB.trans (bB.mono zB.size);have HI:Hi (PrI p A C T w k w3.heap.size #[Iv tk,Sv tx,Iv tn,Iv tf] (w3.alloc (.cells #[Iv tk,Sv tx,Iv tn,Iv tf] 105))):=⟨HP.o.chg yB,cB,(yB.block _ (Jb HZ.o)).trans HZ.o,HB.o.trans (yB.mono HB.o.size),Nat.lt_of_lt_of_le (Jb HZ.o) zB.size,A3.o⟩
 go_upto_region 2 with fail;generalize w3.alloc (.cells #[Iv tk,Sv tx,Iv tn,Iv tf] 105)=W3 at*;generalize w3.heap.size=tb at*;have dB:tb≠p/\tb≠w.heap.size:=by have:=HI.o.low;omega
 obtain⟨zA,vB⟩:=dB;have ht:=HI.o.tok;have c0:W3.cell? ⟨tb,0,none⟩=some (Iv tk):=by rw[Ja ht];rfl
 by_cases h1:tk=1
 ·subst h1;have d1:((1:Int)==1)=true:=zd
  have hk1:=xB rfl;have Q2:Hi (X=.ok (.mk 0 tn [] tf []) (T.drop (k+1))):=by rw[Hi,<-HX.o,JjT f (by rw[uA.o]),uA.o,tail_drop]
  have wk:IntKind.i64.wrap ((k:Int)+1)=(k:Int)+1:=IntWalk.i64_in _ (zt HI.o.pat.room);have pc:=Ja HI.o.pat.self 1;have pf:=Jc HI.o.pat.self 1;simp only[zW]at pc;have E6:Hi (PAt (W3.setCell ⟨p,1,none⟩ (Iv ((k:Int)+1))) p A C T (k+1)):=HI.o.pat.next hk1;have T6:Hi (Chg [p] w (W3.setCell ⟨p,1,none⟩ (Iv ((k:Int)+1)))):=(Chg.of_below HI.o.chg [p]).setCell (.inl (by simp:p∈[p])) (p:=⟨p,1,none⟩) _;have t2:W3.cell? ⟨tb,2,none⟩=some (Iv tn):=by rw[Ja ht];rfl
  have t3:W3.cell? ⟨tb,3,none⟩=some (Iv tf):=by rw[Ja ht];rfl
  have Q0:(W3.setCell ⟨p,1,none⟩ (Iv ((k:Int)+1))).heap[w.heap.size]?=some (.cells #[Iv 0,Iv 0,Em,Iv 0,Nl] 119 (0,0)):=by rw[Below.heap_setCell _ _ _ _ (by first|exact H5|exact Ne.symm H5)];exact HI.o.res
  have z5:=Jj HI.o.res;have y5:=Jp HI.o.res;have X4:=Zh Q0;go_wp2;refine bodyPost_ret (v:=.agg (Qaa (QcX 0 tn [] tf))) (by rw[J4];exact results_cell_row rfl _ _ w.heap.size 119 _ (0,0) _ rfl (QcM _ _ _ _ _ X4.o) underlying119 rfl Qaq) rfl ?_;rw[HR.o,Q2.o];exact Qmo
 ·have d1:(tk==1)=false:=zzq h1;have hx:=HX.o;rw[pM,if_neg (by rw[uA.o];exact h1)]at hx;have C0:=Zh hx;go_wp2_with fail;refine(Jq p A C T k 3 [40] _ HI.o.pat zd).mono ?_;intro e iA h2
  rcases h2 with⟨g1,g2,rfl,C2,E1⟩|⟨g1,rfl,I0⟩
  ·
   have E6:=Zh C2;have T6:Hi (Chg [p] w iA):=(Chg.of_below HI.o.chg [p]).trans E1;have X4:Hi (iA.heap[w.heap.size]?=some (.cells #[Iv 0,Iv 0,Em,Iv 0,Nl] 119 (0,0))):=E1.heap_some (by simp;exact H5) HI.o.res;have yA:Hi (iA.heap[tb]?=some (.cells #[Iv tk,Sv tx,Iv tn,Iv tf] 105 (0,0))):=E1.heap_some (by simp;exact zA) HI.o.tok;have hx:=C0.o;rw[JI g1 g2]at hx;dsimp only at hx;have Q2:=Zh hx;have F4:pM f .expr (T.drop (k+1))≠.out:=Kj (by rw[hx];exact S1.o);go_wp2_with fail;refine NdP.call (I1 (k+1) _ E6.o F4) F4 (λq _ hx L4=>by exact⟨rfl,by rw[HR.o,<-Q2.o,hx];exact⟨rfl,T6.o.trans L4⟩⟩) λa w5 k5 xA xn xc hx T1 B=>?_
   obtain⟨hat,S6,bA,L4⟩:=B;have hA:Below w5.heap.size w5 (w5.alloc (.cells (Qaa a) 119)):=zzb.alloc zzl _;have tA:=Zh (zzw w5 (.cells (Qaa a) 119));have uB:=Zh (bA.chg hA);have gA:=Zh (And.intro (Kz hat S6 hA zzl) S6);have qA:=Zh ((T6.o.trans L4).alloc (.cells (Qaa a) 119));have vA:=L4.heap_some (by simp;exact H5) X4.o;have aA:=L4.heap_some (by simp;exact zA) yA.o;have jA:=Zh ((hA.block _ (Jb vA)).trans vA);have kA:=Zh ((hA.block _ (Jb aA)).trans aA);have D6:Hi (((Qam 3 [41] (T.drop k5)).bind λ_ r3=>PR.ok (.mk a.nd.kind a.nd.num a.nd.name tf a.nd.kids) r3)=X):=by rw[Hi,<-Q2.o,hx,uA.o];rfl
   have O4:=Zh (JdF a tf T1);have cA:Hi (w.heap.size<iA.heap.size/\w.heap.size<w5.heap.size/\w5.heap.size≠p):=⟨Jb X4.o,Jb vA,Ne.symm (ne_of_lt bA.chg1)⟩
   obtain⟨lo,hlo⟩:∃lo,iA.heap.size=lo:=⟨_,rfl⟩
   rw[T1]at uB tA gA qA jA kA;rw[hlo]at gA cA;have rA:w5.heap.size≠w.heap.size:=by have:=cA.o.2.1;omega
   have sA:w.heap.size≠w5.heap.size:=by have:=cA.o.2.1;omega
   have eA:=cA.o.2.2;clear hx hat S6 bA L4 T1 hA vA aA F4 Q2 E6 T6 X4 yA I1 hlo;go_wp2_with fail;generalize w5.alloc _=W5 at*;generalize w5.heap.size=bx at*;refine(Qed p A C T k5 [41] W5 uB.o).mono ?_;intro e w6 h6
   rcases Kl 3 [41] (T.drop k5) with⟨r',ha⟩|ha
   ·rw[ha]at h6;obtain⟨rfl,⟨k6,S9,aB⟩,j0⟩:=h6;subst S9;have E9:=j0.heap_some (by simp;exact eA) tA.o;have pA:=j0.heap_some (by simp;exact H5) jA.o;have gB:=j0.heap_some (by simp;exact zA) kA.o;have P7:Hi (X=.ok (An.mk a.kind a.num a.name tf a.blk a.cap a.kids).nd (T.drop k6)):=by rw[Hi,<-D6.o,ha,Jkt];rfl
    have E0:=Zh (λv v0 v1 v2 v3 v4=>JiG (W:=w6) (Zf gA.o.1 gA.o.2 j0 (le_of_lt (Jb tA.o)) λb hb=>by have:=cA.o.1;have:=A3.o;simp at hb;omega) gA.o.2 cA.o.1 (Jb E9) cA.o.2.1 eA aB (qA.o.trans j0) A3.o P5.o tf v v0 v1 v2 v3 v4);have t3:=Ja gB 3;simp only[zW]at t3;have b5:=Jj E9;have z5:=Jj pA;have hg:=λj=>Jc E9 j
    have f3:=hg 3;have y5:=Jp pA;have eB:Hi ((w6.setCell ⟨bx,3,none⟩ (Iv tf)).heap[w.heap.size]?=some (.cells #[Iv 0,Iv 0,Em,Iv 0,Nl] 119)):=by rw[Hi,Below.heap_setCell _ _ _ _ (by first|exact rA|exact sA)];exact pA
    go_wp2;refine bodyPost_ret (v:=.agg (Qaa (An.mk a.kind a.num a.name tf a.blk a.cap a.kids))) (by rw[O4.o];exact results_cell_row rfl _ _ w.heap.size 119 _ (0,0) _ rfl (QcM _ _ _ _ _ eB.o) underlying119 rfl Qaq) rfl ?_;rw[HR.o,P7.o];obtain⟨e1,e2,e3,e4⟩:=E0.o _ _ _ _ _ _;exact⟨_,rfl,rfl,e1,e2,⟨k6,rfl,e3⟩,e4⟩
   ·rw[ha]at h6;obtain⟨rfl,j0⟩:=h6;refine⟨rfl,?_⟩;rw[HR.o,<-D6.o,ha];exact⟨rfl,qA.o.trans j0⟩
  have hx:=C0.o;rw[J3 g1]at hx;replace C0:=Zh hx;replace HI:=Zh (HI.o.below I0);go_wp2_with fail;refine(Jq p A C T k 0 QgP _ HI.o.pat zd).mono ?_;intro e mA h2
  rcases h2 with⟨g1,g2,rfl,C2,E1⟩|⟨g1,rfl,I0⟩
  ·
   have E6:=Zh C2;have T6:Hi (Chg [p] w mA):=(Chg.of_below HI.o.chg [p]).trans E1;have X4:Hi (mA.heap[w.heap.size]?=some (.cells #[Iv 0,Iv 0,Em,Iv 0,Nl] 119 (0,0))):=E1.heap_some (by simp;exact H5) HI.o.res;have yA:Hi (mA.heap[tb]?=some (.cells #[Iv tk,Sv tx,Iv tn,Iv tf] 105 (0,0))):=E1.heap_some (by simp;exact zA) HI.o.tok;have hx:=C0.o;rw[JI g1 g2]at hx;have Q2:Hi (X=.ok (.mk 1 0 [] tf []) (T.drop (k+1))):=by rw[Hi,<-hx,uA.o]
   have Q0:=X4.o;have z5:=Jj Q0;have y5:=Jp Q0;have t3:mA.cell? ⟨tb,3,none⟩=some (Iv tf):=by rw[Ja yA.o];rfl
   go_wp2;refine bodyPost_ret (v:=.agg (Qaa (QcX 1 0 [] tf))) (by rw[J4];exact results_cell_row rfl _ _ w.heap.size 119 _ (0,0) _ rfl (QcM _ _ _ _ _ X4.o) underlying119 rfl Qaq) rfl ?_;rw[HR.o,Q2.o];exact Qmo
  have hx:=C0.o;rw[J3 g1]at hx;replace C0:=Zh hx;replace HI:=Zh (HI.o.below I0);go_wp2_with fail;refine(Jq p A C T k 0 Qjj _ HI.o.pat zd).mono ?_;intro e nA h2
  rcases h2 with⟨g1,g2,rfl,C2,E1⟩|⟨g1,rfl,I0⟩
  ·
   have E6:=Zh C2;have T6:Hi (Chg [p] w nA):=(Chg.of_below HI.o.chg [p]).trans E1;have X4:Hi (nA.heap[w.heap.size]?=some (.cells #[Iv 0,Iv 0,Em,Iv 0,Nl] 119 (0,0))):=E1.heap_some (by simp;exact H5) HI.o.res;have yA:Hi (nA.heap[tb]?=some (.cells #[Iv tk,Sv tx,Iv tn,Iv tf] 105 (0,0))):=E1.heap_some (by simp;exact zA) HI.o.tok;have hx:=C0.o;rw[JI g1 g2]at hx;have Q2:Hi (X=.ok (.mk 1 1 [] tf []) (T.drop (k+1))):=by rw[Hi,<-hx,uA.o]
   have Q0:=X4.o;have z5:=Jj Q0;have y5:=Jp Q0;have t3:nA.cell? ⟨tb,3,none⟩=some (Iv tf):=by rw[Ja yA.o];rfl
   go_wp2;refine bodyPost_ret (v:=.agg (Qaa (QcX 1 1 [] tf))) (by rw[J4];exact results_cell_row rfl _ _ w.heap.size 119 _ (0,0) _ rfl (QcM _ _ _ _ _ X4.o) underlying119 rfl Qaq) rfl ?_;rw[HR.o,Q2.o];exact Qmo
  have hx:=C0.o;rw[J3 g1]at hx;replace C0:=Zh hx;replace HI:=Zh (HI.o.below I0);go_wp2_with fail;refine(Jq p A C T k 0 QgO _ HI.o.pat zd).mono ?_;intro e dA h2
  rcases h2 with⟨g1,g2,rfl,C2,E1⟩|⟨g1,rfl,I0⟩
  ·
   have E6:=Zh C2;have T6:Hi (Chg [p] w dA):=(Chg.of_below HI.o.chg [p]).trans E1;have X4:Hi (dA.heap[w.heap.size]?=some (.cells #[Iv 0,Iv 0,Em,Iv 0,Nl] 119 (0,0))):=E1.heap_some (by simp;exact H5) HI.o.res;have yA:Hi (dA.heap[tb]?=some (.cells #[Iv tk,Sv tx,Iv tn,Iv tf] 105 (0,0))):=E1.heap_some (by simp;exact zA) HI.o.tok;have hx:=C0.o;rw[JI g1 g2]at hx;have Q2:=Zh hx;go_upto_region 15 with fail;have hD:Below dA.heap.size dA dA.drew:=zzb.drew;replace E6:=Zh (E6.o.chg hD);replace T6:=Zh (T6.o.trans (Chg.of_below hD [p]));replace X4:=Zh ((hD.block _ (Jb X4.o)).trans X4.o);replace yA:=Zh ((hD.block _ (Jb yA.o)).trans yA.o);have t3:=Ja yA.o 3;simp only[zW]at t3;refine LB (λW=>W.cell? ⟨tb,3,none⟩=some (Iv tf)) 5 (t3) λhH=>?_
   refine LK 0 rfl ?_;refine LK 2 rfl ?_;refine LK 3 rfl ?_;refine LO 1 rfl λK hK=>?_
   go_simp;go_at_call 147;refine PRp.call (YB p A C T (k+1) _ E6.o) (JJ Q2.o S1.o) (λq _ hq L4=>by exact⟨rfl,by rw[HR.o,<-Q2.o,hq];exact⟨rfl,T6.o.trans L4⟩⟩) λs w5 k4 hq bA L4=>?_
   have D6:Hi (X=.ok (.mk 4 0 s tf []) (T.drop k4)):=by rw[Hi,<-Q2.o,hq,uA.o];rfl
   replace E6:=Zh bA;replace T6:=Zh (T6.o.trans L4);replace X4:=Zh (L4.heap_some (by simp;exact H5) X4.o);replace yA:=Zh (L4.heap_some (by simp;exact zA) yA.o);replace t3:=Ja yA.o 3;simp only[zW]at t3;refine zU hK (t3) λhH=>?_
   refine LK 4 rfl ?_;refine LZ 5 rfl λK hK=>?_
   have Q0:=X4.o;have z5:=Jj Q0;have y5:=Jp Q0;go_simp;refine hK.out _ _ ?_;go_wp2;refine bodyPost_ret (v:=.agg (Qaa (QcX 4 0 s tf))) (by rw[J4];exact results_cell_row rfl _ _ w.heap.size 119 _ (0,0) _ rfl (QcM _ _ _ _ _ X4.o) underlying119 rfl Qaq) rfl ?_;exact Qnn
  have hx:=C0.o;rw[J3 g1]at hx;replace C0:=Zh hx;replace HI:=Zh (HI.o.below I0);go_wp2_with fail;refine(Jq p A C T k 0 Qji _ HI.o.pat zd).mono ?_;intro e wa4 h2
  rcases h2 with⟨g1,g2,rfl,C2,E1⟩|⟨g1,rfl,I0⟩
  ·
   have E6:=Zh C2;have T6:Hi (Chg [p] w wa4):=(Chg.of_below HI.o.chg [p]).trans E1;have X4:Hi (wa4.heap[w.heap.size]?=some (.cells #[Iv 0,Iv 0,Em,Iv 0,Nl] 119 (0,0))):=E1.heap_some (by simp;exact H5) HI.o.res;have yA:Hi (wa4.heap[tb]?=some (.cells #[Iv tk,Sv tx,Iv tn,Iv tf] 105 (0,0))):=E1.heap_some (by simp;exact zA) HI.o.tok;have hx:=C0.o;rw[JI g1 g2]at hx;have Q2:=Zh hx;go_upto_region 17 with fail;have hD:Below wa4.heap.size wa4 wa4.drew:=zzb.drew;replace E6:=Zh (E6.o.chg hD);replace T6:=Zh (T6.o.trans (Chg.of_below hD [p]));replace X4:=Zh ((hD.block _ (Jb X4.o)).trans X4.o);replace yA:=Zh ((hD.block _ (Jb yA.o)).trans yA.o);have t3:=Ja yA.o 3;simp only[zW]at t3;refine LB (λW=>W.cell? ⟨tb,3,none⟩=some (Iv tf)) 5 (t3) λhH=>?_
   refine LK 0 rfl ?_;refine LK 2 rfl ?_;refine LK 3 rfl ?_;refine LO 1 rfl λK hK=>?_
   go_simp;go_at_call 147;refine PRp.call (YB p A C T (k+1) _ E6.o) (JJ Q2.o S1.o) (λq _ hq L4=>by exact⟨rfl,by rw[HR.o,<-Q2.o,hq];exact⟨rfl,T6.o.trans L4⟩⟩) λs w5 k4 hq bA L4=>?_
   have D6:Hi (X=.ok (.mk 5 0 s tf []) (T.drop k4)):=by rw[Hi,<-Q2.o,hq,uA.o];rfl
   replace E6:=Zh bA;replace T6:=Zh (T6.o.trans L4);replace X4:=Zh (L4.heap_some (by simp;exact H5) X4.o);replace yA:=Zh (L4.heap_some (by simp;exact zA) yA.o);replace t3:=Ja yA.o 3;simp only[zW]at t3;refine zU hK (t3) λhH=>?_
   refine LK 4 rfl ?_;refine LZ 5 rfl λK hK=>?_
   have Q0:=X4.o;have z5:=Jj Q0;have y5:=Jp Q0;go_simp;refine hK.out _ _ ?_;go_wp2;refine bodyPost_ret (v:=.agg (Qaa (QcX 5 0 s tf))) (by rw[J4];exact results_cell_row rfl _ _ w.heap.size 119 _ (0,0) _ rfl (QcM _ _ _ _ _ X4.o) underlying119 rfl Qaq) rfl ?_;exact Qnn
  have hx:=C0.o;rw[J3 g1]at hx;replace C0:=Zh hx;replace HI:=Zh (HI.o.below I0);have cf:=Ye tx wa4;have ht:=HI.o.tok;have t0:=Ja ht 0;have t1:=Ja ht 1;simp only[zW]at t0 t1;have Q2:=Zh (uA.o ▸ C0.o);go_wp2_with fail;refine cf.mono ?_;intro e w7 h7;obtain⟨rfl,rfl⟩:=h7
  by_cases QA:(QaA tx).isSome=true
  ·rw[QA]
   by_cases IC:tk=0
   ·subst IC;have hk1:=HI.o.pat.more (by rw[uA.o];show (0:Int)≠4;decide);have D6:Hi (X=.ok (.mk 3 0 tx tf []) (T.drop (k+1))):=by rw[Hi,<-Q2.o,if_pos ⟨QA,rfl⟩,tail_drop]
    have d0:((0:Int)==0)=true:=zd
    have wk:IntKind.i64.wrap ((k:Int)+1)=(k:Int)+1:=IntWalk.i64_in _ (zt HI.o.pat.room);have pc:=Ja HI.o.pat.self 1;have pf:=Jc HI.o.pat.self 1;have t3:=Ja HI.o.tok 3;simp only[zW]at pc t3;have E6:Hi (PAt (wa4.setCell ⟨p,1,none⟩ (Iv ((k:Int)+1))) p A C T (k+1)):=HI.o.pat.next hk1;have T6:Hi (Chg [p] w (wa4.setCell ⟨p,1,none⟩ (Iv ((k:Int)+1)))):=(Chg.of_below HI.o.chg [p]).setCell (.inl (by simp:p∈[p])) (p:=⟨p,1,none⟩) _;have Q0:(wa4.setCell ⟨p,1,none⟩ (Iv ((k:Int)+1))).heap[w.heap.size]?=some (.cells #[Iv 0,Iv 0,Em,Iv 0,Nl] 119 (0,0)):=by rw[Below.heap_setCell _ _ _ _ (by first|exact H5|exact Ne.symm H5)];exact HI.o.res
    have z5:=Jj HI.o.res;have y5:=Jp HI.o.res;have X4:=Zh Q0;go_wp2;refine bodyPost_ret (v:=.agg (Qaa (QcX 3 0 tx tf))) (by rw[J4];exact results_cell_row rfl _ _ w.heap.size 119 _ (0,0) _ rfl (QcM _ _ _ _ _ X4.o) underlying119 rfl Qaq) rfl ?_;rw[HR.o,D6.o];exact Qmo
   ·have d0:(tk==0)=false:=zzq IC;have hF:¬((QaA tx).isSome=true/\tk=0):=λh=>IC h.2
    exact QnU
  ·have hF:¬((QaA tx).isSome=true/\tk=0):=λh=>QA h.1
   rw[Bool.not_eq_true]at QA;rw[QA];exact QnU
def Qix:(prog.info? 119).map (λi=>(i.zero,i.size,i.bytes))=some (some (.agg #[Iv 0,Iv 0,Em,Iv 0,Nl]),5,64):=zk
def Jx{S:List Nat}{w w':World}{base e size n:Nat}{v:Value}{xs:List Value}(h:w.ownsRow base e size v n xs)(hc:Chg S w w')(hs:∀b∈S,b<base):w'.ownsRow base e size v n xs:=by
 refine⟨h.1,h.2.imp id ?_⟩;rintro⟨g,cap,cur,h1,h2,h3,h4⟩;exact⟨g,cap,cur,h1,h2,hc.heap_some (λhm=>by have:=hs g hm;omega) h3,h4⟩
def Ji{w:World}{base e size n:Nat}{v:Value}{xs:List Value}(h:w.ownsRow base e size v n xs):∃a m c,v=.slice a m c:=by
 rcases h.2 with⟨rfl,_⟩|⟨g,cap,cur,rfl,_⟩<;>exact⟨_,_,_,rfl⟩
def KL(l:List An)(a:An):ndL (l++[a])=ndL l++[a.nd]:=by
 induction l with
 |nil=>simp[ndL]
 |cons x r ih=>simp[ndL,ih]
def K1(l:List An)(a:An):Qaf (l++[a])=Qaf l++foot a:=by
 induction l with
 |nil=>simp[Qaf]
 |cons x r ih=>simp[Qaf,ih]
def JgL(l:List An)(a:An):Qdx (l++[a])=Qdx l++(Qaa a).toList:=by simp[Qdx]
def JdG(a:An):∀u∈(Qaa a).toList,u.oneCell'=true:=by
 obtain⟨xA,xn,xc,h⟩:=Jg a;rw[h];intro u hu;simp at hu
 rcases hu with rfl|rfl|rfl|rfl|rfl<;>rfl
def KT{P:Program}(w:World)(base:Nat)(t ty e:TypeId)(i:TypeInfo)(z:Value)(size bytes:Nat)(ht:P.underlying t=some (.slice e))(hi:P.info? e=some i)(hz:i.zero=some z)
  (hsize:i.size=size) (hby:i.bytes=bytes) (hzs:z.cells.size=size) (hsz:0<size)
  (v:Value) (n:Nat) (xs:List Value) (hown:w.ownsRow base e size v n xs)
  (a:Addr) (m c:Nat) (news:List Value) (hl:news.length=m*size) (hnews:∀j u,news[j]?=some u->w.cell? (a.add j)=some u) (h1:∀u∈news,u.oneCell'=true) (h0:0<m)
  (h63:n+m<=maxLen) (hbytes:(n+m)*bytes<=140737488355328) (hbase:base<=w.heap.size):
  ∃v' w',(Builtin.append_ #[t,t] ty #[v,.slice (some a) m c]).run P w=.ok v' w'/\w'.ownsRow base e size v' (n+m) (xs++news)/\w.grownBy w' v.ownBlock/\
   (v'.ownBlock=v.ownBlock\/v'.ownBlock=some w.heap.size):=by
 obtain⟨v',w',hr,h2,h3,_⟩:=run_append_own (P:=P) w base t ty e i z size bytes ht hi hz hsize hby hzs hsz v n xs hown a m c news hl hnews h1 h63 hbytes hbase;refine⟨v',w',hr,h2,h3,?_⟩;subst hsize;subst hby;have yA:n+m<=9223372036854775807:=by simp only[maxLen]at h63;omega
 rcases hown.2 with⟨rfl,rfl⟩|⟨g,cap,cur,rfl,hbg,hg,hnc,hcm,hcs,htake⟩
 ·have hb:=hbytes;simp only[Nat.zero_add]at hb;have hq:=run_append_nil (P:=P) w t ty e i z ht hi hz a m c news hl hnews h0 zo zo;rw[hr]at hq;injection hq with h4 h5;rw[h4];exact .inr rfl
 ·by_cases hroom:n+m<=cap
  ·have zA:n*i.size+news.length<=cur.size:=by rw[hl,hcs,<-Nat.add_mul];exact Nat.mul_le_mul_right _ hroom
   have hq:=run_append_room (P:=P) w t ty e i ht hi g n cap cur hg a m c news hl hnews h1 hroom zA;rw[hr]at hq;injection hq with h4 h5;rw[h4];exact .inl rfl
  ·have xA:∀j u,xs[j]?=some u->w.cell? ((⟨g,0,none⟩:Addr).add j)=some u:=hown.cells (g:=g) rfl;have hq:=run_append_grow (P:=P) w t ty e i z ht hi hz ⟨g,0,none⟩ n cap xs hown.1 xA a m c news hl hnews zo zo (growslice_fits zo hbytes);rw[hr]at hq;injection hq with h4 h5;rw[h4];exact .inr rfl
def J9{ops:Array Oper}{o:Oper}{ac:Act}{K:Act->World->Prop}{Q:Exit->Act->World->Prop}{E:Prop}(w:World)(hgd:o.guard=none)(s x:Operand)
  (ho:o.op=.call {callee:=.builtin .append,args:=#[s,x],argTypes:=#[117,117]}) (base:Nat) (v:Value) (l:List An) (a:An) (hs:ac.eval s=v)
  (hown:w.ownsRow base 119 5 v l.length (Qdx l)) (rb:Nat) (hx:ac.eval x=.slice (some ⟨rb,0,none⟩) 1 1) (hrow:w.heap[rb]?=some (.cells (Qaa a) 119 (0,0)))
  (h63:l.length<=100000000) (hbase:base<=w.heap.size)
  (h:∀v' w',w'.ownsRow base 119 5 v' (l++[a]).length (Qdx (l++[a]))->w.grownBy w' v.ownBlock->(v'.ownBlock=v.ownBlock\/v'.ownBlock=some w.heap.size)->K (ac.put o.dst v') w'):
  if Region.wanted o (yielded ops ac.tmps)=true then Oper.wp prog o ac w K Q else E:=by
 have hw:Region.wanted o (yielded ops ac.tmps)=true:=by simp[Region.wanted,hgd]
 rw[if_pos hw];obtain⟨i0,hi,yA,zA,xA⟩:=info_parts Qix
 obtain⟨v',w',hr,h1,h2,h3⟩:=KT (P:=prog) w base 117 o.type 119 i0 _ 5 64 underlying117 hi yA zA xA rfl zd v l.length (Qdx l) hown ⟨rb,0,none⟩ 1 1 (Qaa a).toList (by rw[Array.length_toList,JV]) (λj u hj=>by
  rw[show (⟨rb,0,none⟩:Addr).add j=⟨rb,j,none⟩ by unfold Addr.add;split<;>simp_all]
  exact Ks hrow hj) (JdG a) zd (by unfold maxLen;omega) zo hbase
 unfold Oper.wp execOp;simp only[ho,resolve,invoke,builtin,Sem.run_bind,Sem.run_pure,Result.andThen_ok,List.map_toArray,List.map_cons,List.map_nil,hs,hx,hr];rw[<-JgL]at h1;exact h v' w' (by rw[List.length_append];exact h1) h2 h3
structure NmI(nm:By)(of:Int)(p:Nat)(A:Option Addr)(C:Nat)(T:List Tok)(w:World)(lo bx:Nat)(wr:World)(k2:Nat)(l:List An)(V:Value):Prop where
 pat:PAt wr p A C T k2
 own:wr.ownsRow lo 119 5 V l.length (Qdx l)
 ats:∀a∈l,a.At wr
 fts:(Qaf l).Nodup/\∀b∈Qaf l,lo<=b/\b<wr.heap.size
 dis:∀g,V.ownBlock=some g->g∉Qaf l
 box:wr.heap[bx]?=some (.cells #[Iv 20,Iv 0,Sv nm,Iv of,V] 119 (0,0))
 res:wr.heap[w.heap.size]?=some (.cells #[Iv 0,Iv 0,Em,Iv 0,Nl] 119 (0,0))
 chg:Chg [p] w wr
 low:w.heap.size<bx/\bx<lo/\p<w.heap.size
 lle:lo<=wr.heap.size
def Jz{a:An}{l:List An}(ha:a∈l):∀b∈foot a,b∈Qaf l:=by
 induction l with
 |nil=>cases ha
 |cons x r ih=>
  intro b hb;unfold Qaf
  rcases List.mem_cons.1 ha with rfl|ha
  ·exact List.mem_append_left _ hb
  ·exact List.mem_append_right _ (ih ha b hb)
def NmI.on{nm:By}{of:Int}{p:Nat}{A:Option Addr}{C:Nat}{T:List Tok}{w:World}{lo bx:Nat}{wr W:World}{k2 k3:Nat}{l:List An}{V:Value}(h:NmI nm of p A C T w lo bx wr k2 l V)(hP:PAt W p A C T k3)(hc:Chg [p] wr W):NmI nm of p A C T w lo bx W k3 l V:=by
 obtain⟨l1,l2,l3⟩:=h.low
 exact⟨hP,Jx h.own hc zq,λa ha=>JE a (h.ats a ha) λb hb=>by
  have:=h.fts.2 b (Jz ha b hb)
  exact hc.block b this.2 zq,⟨h.fts.1,λb hb=>⟨(h.fts.2 b hb).1,Nat.lt_of_lt_of_le (h.fts.2 b hb).2 hc.size⟩⟩,h.dis,hc.heap_some zq h.box,hc.heap_some zq h.res,h.chg.trans hc,h.low,Nat.le_trans h.lle hc.size⟩
def NmI.step{nm:By}{of:Int}{p:Nat}{A:Option Addr}{C:Nat}{T:List Tok}{w:World}{lo bx:Nat}{wr w6 w7:World}{k2 k4:Nat}{l:List An}{V V':Value}{b:An}{cs:Array Value}(h:NmI nm of p A C T w lo bx wr k2 l V)
  (X6:b.At w6) (X7:Qcs wr.heap.size w6.heap.size b) (j6:PAt w6 p A C T k4) (j0:Chg [p] wr w6) (hT:∀b o,A=some ⟨b,o,none⟩->b<w.heap.size)
  (hown:w7.ownsRow lo 119 5 V' (l++[b]).length (Qdx (l++[b]))) (hgr:(w6.alloc (.cells cs 119)).grownBy w7 V.ownBlock) (T2:V'.ownBlock=V.ownBlock\/V'.ownBlock=some (w6.alloc (.cells cs 119)).heap.size):
  NmI nm of p A C T w lo bx (w7.setCell ⟨bx,4,none⟩ V') k4 (l++[b]) V'/\w7.heap[bx]?=some (.cells #[Iv 20,Iv 0,Sv nm,Iv of,V] 119 (0,0)):=by
 have h6:=h.on j6 j0;obtain⟨l1,l2,l3⟩:=h.low;have A0:Below w6.heap.size w6 (w6.alloc (.cells cs 119)):=zzb.alloc zzl _;have hrow:∀g,V.ownBlock=some g->lo<=g/\g<w6.heap.size:=λg hg=>h6.own.lt g hg
 have zA:∀q,q<w6.heap.size->some q≠V.ownBlock->w7.heap[q]?=w6.heap[q]?:=λq hq hn=>(hgr.block q zq hn).trans (A0.block q hq)
 have hsz:w6.heap.size<w7.heap.size:=by have:=hgr.size;simp at this;omega
 have j3:w7.heap[bx]?=some (.cells #[Iv 20,Iv 0,Sv nm,Iv of,V] 119 (0,0)):=(zA bx (Jb h6.box) λe=>by have:=hrow bx e.symm;omega).trans h6.box;have SA:(w7.setCell ⟨bx,4,none⟩ V').heap.size=w7.heap.size:=by simp[World.setCell]
 have hst:Chg [bx] w7 (w7.setCell ⟨bx,4,none⟩ V'):=(Chg.refl _ _).setCell (.inl (by simp:bx∈[bx])) (p:=⟨bx,4,none⟩) V';have M4:∀q,q<w6.heap.size->some q≠V.ownBlock->q≠bx->(w7.setCell ⟨bx,4,none⟩ V').heap[q]?=w6.heap[q]?:=λq hq hn hne=>(hst.block q zo (by simpa using hne)).trans (zA q hq hn)
 have xA:∀(q:Addr) u,q.block<w6.heap.size->some q.block≠V.ownBlock->q.block≠bx->w6.cell? q=some u->(w7.setCell ⟨bx,4,none⟩ V').cell? q=some u:=λq u h1 h2 h3 h4=>(World.cell?_of_block (M4 q.block h1 h2 h3)).trans h4
 have Y4:∀q∈Qaf (l++[b]),lo<=q/\q<w6.heap.size:=by
  intro q hq;rw[K1]at hq
  rcases List.mem_append.1 hq with hq|hq
  ·have h1:=h.fts.2 q hq;have h2:=j0.size;exact⟨h1.1,by omega⟩
  ·have h1:=X7.2 q hq;have h2:=h.lle;exact⟨by omega,h1.2⟩
 have yA:∀q∈Qaf (l++[b]),some q≠V.ownBlock:=by
  intro q hq e;rw[K1]at hq
  rcases List.mem_append.1 hq with hq|hq
  ·exact h.dis q e.symm hq
  ·have h1:=(h.own.lt q e.symm).2;have h2:=(X7.2 q hq).1;omega
 obtain⟨tb,ot,hA,uA,vA⟩:=j6.toks;have aA:=hT _ _ hA;refine⟨⟨⟨?_,⟨tb,ot,hA,uA,λi t hi j u hu=>?_⟩,j6.lt,j6.fin,j6.room⟩,?_,?_,⟨?_,?_⟩,?_,?_,?_,?_,h.low,?_⟩,j3⟩
 ·exact(M4 p j6.chg1 (λe=>by have:=hrow p e.symm;omega) zo).trans j6.self
 ·exact xA _ u (by have:=h6.chg.size;show tb<_;omega) (λe=>by have:=hrow tb e.symm;omega) (by show tb≠bx;omega) (vA i t hi j u hu)
 ·exact Jx hown hst zq
 ·intro a ha
  rcases List.mem_append.1 ha with ha'|ha'
  ·exact JE a (h6.ats a ha') λq hq=>M4 q (Y4 q (Jz ha q hq)).2 (yA q (Jz ha q hq)) (zt ((Y4 q (Jz ha q hq)).1))
  ·obtain rfl:a=b:=by simpa using ha'
   exact JE a X6 λq hq=>M4 q (Y4 q (Jz ha q hq)).2 (yA q (Jz ha q hq)) (zt ((Y4 q (Jz ha q hq)).1))
 ·rw[K1]
  exact List.nodup_append.2 ⟨h.fts.1,X7.1,λx hx y hy e=>by
   subst e;have:=(h.fts.2 x hx).2;have:=(X7.2 x hy).1
   omega⟩
 ·intro q hq;have:=Y4 q hq;rw[SA];omega
 ·intro g hg hm;have h1:=Y4 g hm
  rcases T2 with e|e
  ·exact yA g hm (hg.symm.trans e)
  ·rw[e]at hg;simp at hg;omega
 ·have:=JC j3 4 V';exact this
 ·exact(M4 _ (Jb h6.res) (λe=>by have:=hrow _ e.symm;omega) zo).trans h6.res
 ·refine⟨?_,?_,?_,?_,λq hq hn=>?_⟩
  ·exact hgr.os.trans h6.chg.os
  ·exact hgr.tape.trans h6.chg.tape
  ·exact hgr.output.trans h6.chg.output
  ·have:=h6.chg.size;rw[SA];omega
  ·exact(M4 q (Nat.lt_of_lt_of_le hq h6.chg.size) (λe=>by have:=hrow q e.symm;omega) zo).trans (h6.chg.block q hq hn)
 ·have:=h6.lle;rw[SA];omega
def JaD(r:List Tok):(∃nm r',Qbl r=.ok nm r')\/Qbl r=.bad (hd r).off:=by
 unfold Qbl;split
 ·exact .inl ⟨_,_,rfl⟩
 ·exact .inr rfl
def JgM(f:Nat)(r:List Tok):pM (f+1) .named r=(Qbl r).bind λnm r1=>
   match acc 3 [40] r1 with
   |none=>.ok (.mk 2 0 nm.1 nm.2 []) r1
   |some r2=>
    match acc 3 [41] r2 with
    |some r3=>.ok (.mk 20 0 nm.1 nm.2 []) r3
    |none=>pM f (.args nm.1 nm.2 []) r2:=by rw[pM];rfl
def JiH(f:Nat)(nm:By)(o:Int)(l:List Nd)(r:List Tok):pM (f+1) (.args nm o l) r=(pM f .expr r).bind λa r1=>
   match acc 3 [44] r1 with
   |some r2=>pM f (.args nm o (l++[a])) r2
   |none=>(Qam 3 [41] r1).bind λ_ r2=>.ok (.mk 20 0 nm o (l++[a])) r2:=by rw[pM];rfl
def Jf{W:World}{b:Nat}{o X:Obj}(h:W.heap[b]?=some o):(W.alloc X).heap[b]?=some o:=(heap_alloc_old _ _ (Jb h)).trans h
structure NmB(nm:By)(of kd:Int)(p:Nat)(A:Option Addr)(C:Nat)(T:List Tok)(w:World)(bx:Nat)(W:World)(k2:Nat):Prop where
 pat:PAt W p A C T k2
 box:W.heap[bx]?=some (.cells #[Iv kd,Iv 0,Sv nm,Iv of,Nl] 119 (0,0))
 res:W.heap[w.heap.size]?=some (.cells #[Iv 0,Iv 0,Em,Iv 0,Nl] 119 (0,0))
 chg:Chg [p] w W
 low:w.heap.size<bx/\p<w.heap.size
def NmB.on{nm:By}{of kd:Int}{p:Nat}{A:Option Addr}{C:Nat}{T:List Tok}{w:World}{bx:Nat}{wr W:World}{k2 k3:Nat}(h:NmB nm of kd p A C T w bx wr k2)(hP:PAt W p A C T k3)(hc:Chg [p] wr W):NmB nm of kd p A C T w bx W k3:=by
 obtain⟨l1,l2⟩:=h.low;exact⟨hP,hc.heap_some zq h.box,hc.heap_some zq h.res,h.chg.trans hc,h.low⟩
def NmB.set{nm:By}{of kd:Int}{p:Nat}{A:Option Addr}{C:Nat}{T:List Tok}{w:World}{bx:Nat}{W:World}{k2:Nat}(h:NmB nm of kd p A C T w bx W k2)(hT:∀b o,A=some ⟨b,o,none⟩->b<w.heap.size)(kd':Int):NmB nm of kd' p A C T w bx (W.setCell ⟨bx,0,none⟩ (Iv kd')) k2:=by
 obtain⟨l1,l2⟩:=h.low;have hc:Chg [bx] W (W.setCell ⟨bx,0,none⟩ (Iv kd')):=(Chg.refl _ _).setCell (.inl (by simp:bx∈[bx])) (p:=⟨bx,0,none⟩) _;refine⟨h.pat.setFar zo (λb o e=>by have:=hT b o e;omega) 0 _,?_,hc.heap_some zq h.res,h.chg.step hc λq hq=>.inr (by simp at hq;omega),h.low⟩;have:=JC h.box 0 (Iv kd');exact this
def NmB.start{nm:By}{of:Int}{p:Nat}{A:Option Addr}{C:Nat}{T:List Tok}{w:World}{bx:Nat}{W:World}{k2:Nat}(h:NmB nm of 20 p A C T w bx W k2):NmI nm of p A C T w W.heap.size bx W k2 [] Nl:=by
 obtain⟨l1,l2⟩:=h.low;exact⟨h.pat,World.ownsRow_nil _ _ _ _,by simp,by simp[Qaf],by simp[Qaf],h.box,h.res,h.chg,⟨l1,Jb h.box,l2⟩,le_refl _⟩
def NmI.fin{nm:By}{of:Int}{p:Nat}{A:Option Addr}{C:Nat}{T:List Tok}{w:World}{lo bx:Nat}{wr:World}{k2:Nat}{l:List An}{V:Value}(h:NmI nm of p A C T w lo bx wr k2 l V)(hl:l≠[])(hT:∀b o,A=some ⟨b,o,none⟩->b<w.heap.size):
  ∃g c,V=.slice (some ⟨g,0,none⟩) l.length c/\∀v0 v1 v2 v3 v4,(An.mk 20 0 nm of g c l).At (put5 wr w.heap.size v0 v1 v2 v3 v4)/\Qcs w.heap.size (put5 wr w.heap.size v0 v1 v2 v3 v4).heap.size (An.mk 20 0 nm of g c l)/\PAt (put5 wr w.heap.size v0 v1 v2 v3 v4) p A C T k2/\Chg [p] w (put5 wr w.heap.size v0 v1 v2 v3 v4):=by
 obtain⟨l1,l2,l3⟩:=h.low
 rcases h.own.2 with⟨_,e⟩|⟨g,c,cur,rfl,hg,I9,hn,hm,hs,ht⟩
 ·exact absurd (List.eq_nil_of_length_eq_zero e) hl
 have hlt:=Jb I9;refine⟨g,c,rfl,λv0 v1 v2 v3 v4=>?_⟩;have hc:=J5 (S:=[w.heap.size]) (W:=wr) v0 v1 v2 v3 v4 (by simp:w.heap.size∈[w.heap.size]);have hrow:(put5 wr w.heap.size v0 v1 v2 v3 v4).heap[g]?=some (.cells cur 119 (0,0)):=hc.heap_some zq I9;refine⟨?_,?_,h.pat.put5 zo (λb o e=>by have:=hT b o e;omega) _ _ _ _ _,h.chg.step hc λb hb=>.inr (by simp at hb;omega)⟩
 ·unfold An.At;refine⟨λ_ j=>Jc hrow j,Kp l 0 (λj u hu=>?_) λa ha=>?_⟩
  ·rw[Nat.zero_mul,Nat.zero_add,Ja hrow];rw[<-ht,List.getElem?_take]at hu;split at hu
   ·simpa using hu
   ·cases hu
  ·exact JE a (h.ats a ha) λb hb=>by
    have:=h.fts.2 b (Jz ha b hb);exact hc.block b this.2 zq
 ·rw[J8]
  cases l with
  |nil=>exact absurd rfl hl
  |cons x r=>
   unfold Qcs foot;refine⟨List.nodup_cons.2 ⟨h.dis g rfl,h.fts.1⟩,λq hq=>?_⟩
   rcases List.mem_cons.1 hq with rfl|hq
   ·exact⟨by omega,hlt⟩
   ·have:=h.fts.2 q hq;exact⟨by omega,this.2⟩
def Qno{P:Prop}(h:P:=by
  rw[HR.o,Q2.o];obtain⟨e1,e2⟩:=Z7 A2.o.pat A2.o.chg A3.o P5.o _ _ _ _ _
  exact⟨_,JbS _ _ _ _,rfl,JbN _ _ _ _ _,Yz _ _ _ _ _ _,⟨_,rfl,e1⟩,e2⟩):P:=h
def JeF(f p:Nat)(A:Option Addr)(C:Nat)(T:List Tok)(hf:f<=100000000)(hx:∀t∈T,t.text.length<=1000000)
  (I1:∀g,g<=f->∀k w,PAt w p A C T k->pM g .expr (T.drop k)≠.out->Calls prog 65 #[Pt p] w (NdP p A C T w (pM g .expr (T.drop k))))
  (k:Nat) (w:World) (h:PAt w p A C T k) (hne:pM (f+1) .named (T.drop k)≠.out):
  Calls prog 148 #[Pt p] w (NdP p A C T w (pM (f+1) .named (T.drop k))):=by
 obtain⟨X,hX⟩:∃X,pM (f+1) .named (T.drop k)=X:=⟨_,rfl⟩
 have hA:=JgM f (T.drop k);rw[hX]at hne hA |-;obtain⟨R,hR⟩:∃R,NdP p A C T w X=R:=⟨_,rfl⟩
 rw[hR];have HR:Hi (R=NdP p A C T w X):=hR.symm;have S1:=Zh hne;have hZ:=zzw w (.cells #[Iv 0,Iv 0,Em,Iv 0,Nl] 119);have hB:=(Below.refl w.heap.size w).alloc zzl (.cells #[Iv 0,Iv 0,Em,Iv 0,Nl] 119);have HP:=Zh (h.chg hB);have HZ:=Zh hZ;have HB:=Zh hB;have A3:=Zh h.chg1;have P5:=Zh h.tokLt;have kA:=Zh hA;have H5:w.heap.size≠p:=by have:=A3.o;omega
 go_enter func148,ntmps148;go_wp2_with fail;refine(Vd p A C T k _ HP.o hx).mono ?_;intro e w1 h1
 rcases JaD (T.drop k) with⟨nm,r,hi⟩|hi
 ·rw[hi]at h1;obtain⟨rfl,⟨k1,rfl,E5⟩,hc1⟩:=h1;have yB:=hc1.heap_some (by simp;exact H5) HZ.o
  have C0:Hi (X=(match acc 3 [40] (T.drop k1) with
   |none=>.ok (.mk 2 0 nm.1 nm.2 []) (T.drop k1)
   |some r2=>
    match acc 3 [41] r2 with
    |some r3=>.ok (.mk 20 0 nm.1 nm.2 []) r3
    |none=>pM f (.args nm.1 nm.2 []) r2)):=by rw[Hi,kA.o,hi];rfl
  have F7:=Zh E5;have M1:=Zh ((Chg.of_below HB.o [p]).trans hc1);have gA:=Zh yB;obtain⟨nm,of⟩:=nm;unfold QjG;dsimp only at C0 |-
  have A2:Hi (NmB nm of 2 p A C T w (w1.heap.size+1) ((w1.alloc (.cells #[Sv nm,Iv of] 115)).alloc (.cells #[Iv 2,Iv 0,Sv nm,Iv of,Nl] 119)) k1):=by
   have hb:Below w1.heap.size w1 ((w1.alloc (.cells #[Sv nm,Iv of] 115)).alloc (.cells #[Iv 2,Iv 0,Sv nm,Iv of,Nl] 119)):=(zzb.alloc zzl _).alloc zp _;have hn:=zzw (w1.alloc (.cells #[Sv nm,Iv of] 115)) (.cells #[Iv 2,Iv 0,Sv nm,Iv of,Nl] 119);rw[World.size_alloc]at hn;exact⟨F7.o.chg hb,hn,(hb.block _ (Jb gA.o)).trans gA.o,M1.o.trans (Chg.of_below hb [p]),by have:=Jb gA.o;omega,A3.o⟩
  go_wp2_with fail;generalize World.alloc (World.alloc w1 _) _=W2 at*;generalize w1.heap.size+1=bx at*;generalize w1.heap.size=lb at*;have nA:bx≠w.heap.size:=by have:=A2.o.low;omega
  have tA:w.heap.size≠bx:=by have:=A2.o.low;omega
  have qA:bx≠p:=by have:=A2.o.low;omega
  have pA:p≠bx:=by have:=A2.o.low;omega
  refine(Jq p A C T k1 3 [40] W2 A2.o.pat zd).mono ?_;intro e w3 h2
  rcases h2 with⟨g1,g2,rfl,C2,E1⟩|⟨g1,rfl,I0⟩
  ·have xA:=C0.o;rw[JI g1 g2]at xA;dsimp only at xA;have Q2:=Zh xA;replace A2:=Zh (A2.o.on C2 E1);have sA:=Zh (A2.o.set P5.o 20);have f0:=Jc A2.o.box 0;have b0:=Ja A2.o.box 0;have vB:=Jb A2.o.box;simp only[zW]at b0;go_wp2_with fail;have A2:=sA;generalize World.setCell w3 _ _=W3 at*;refine(Jq p A C T (k1+1) 3 [41] W3 A2.o.pat zd).mono ?_;intro e w4 h4
   rcases h4 with⟨g1,g2,rfl,C2,E1⟩|⟨g1,rfl,I0⟩
   ·have xA:=Q2.o;rw[JI g1 g2]at xA;dsimp only at xA;replace Q2:=Zh xA;replace A2:=Zh (A2.o.on C2 E1);have Q0:=A2.o.res;have U0:=A2.o.box;have b5:=Jj U0;have z5:=Jj Q0;have y5:=Jp Q0;go_wp2;refine bodyPost_ret (v:=.agg (Qaa (QcX 20 0 nm of))) (by rw[J4];exact results_cell_row rfl _ _ w.heap.size 119 _ (0,0) _ rfl (QcM _ _ _ _ _ A2.o.res) underlying119 rfl Qaq) rfl ?_;exact Qno
   ·have xA:=Q2.o;rw[J3 g1]at xA;dsimp only at xA;replace Q2:=Zh xA;replace A2:=Zh (A2.o.on (A2.o.pat.chg I0) (Chg.of_below I0 [p]));have mA:Hi (∃k2 l V,NmI nm of p A C T w w4.heap.size bx w4 k2 l V/\pM f (.args nm of (ndL l)) (T.drop k2)=X/\f+l.length<=f):=⟨_,[],_,A2.o.start,Q2.o.symm,le_refl _⟩
    generalize w4.heap.size=lo at*;go_wp2_with fail;go_loopg [] f λg wr=>Hi (∃k2 l V,NmI nm of p A C T w lo bx wr k2 l V/\pM g (.args nm of (ndL l)) (T.drop k2)=X/\g+l.length<=f)
    case atStart=>exact mA
    case round=>
    obtain⟨wl,rfl⟩:=zG wr
    obtain⟨k2,l,V,hI,bA,hle⟩:=hrel.o
    cases gk with
    |zero=>exact absurd bA.symm S1.o
    |succ f2=>
    obtain⟨va,vn,vc,rfl⟩:=Ji hI.own;rw[JiH]at bA;have I5:pM f2 .expr (T.drop k2)≠.out:=Kj (by rw[bA];exact S1.o);have hD:Below wl.heap.size wl wl.drew:=(Below.refl wl.heap.size wl).drew;have HI:=Zh (hI.on (hI.pat.chg hD) (Chg.of_below hD [p]));have iA:=Zh bA;have rA:l.length<=100000000:=zo
    have i7:f2<=f:=zo
    have xB:Hi (f2+1+l.length<=f):=hle;go_upto_region 8 with fail;have b4:=Ja HI.o.box 4;simp only[zW]at b4;refine LB (λW=>W.cell? ⟨bx,4,none⟩=some (.slice va vn vc)) 7 (by simp[*,World.cell?_alloc_some]) λhH=>?_
    refine LK 0 rfl ?_;refine LK 1 rfl ?_;refine LK 2 rfl ?_;refine LO 3 rfl λK hK=>?_
    go_simp;go_at_call 65;refine NdP.call (I1 f2 i7 k2 _ HI.o.pat I5) I5 (λq _ L9 j0=>by exact⟨rfl,by rw[HR.o,<-iA.o,L9];exact⟨rfl,HI.o.chg.trans j0⟩⟩) λb w6 k4 yA yn yc L9 I4 B=>?_
    have eA:=Zh (HI.o.on B.2.2.1 B.2.2.2);have cA:=Zh B;have P7:=Zh L9;have HOW:=Zh (eA.o.own.alloc (.cells #[Iv b.kind,Iv b.num,.string (bs b.name),Iv b.off,.slice yA yn yc] 119));have P3:Hi ((w6.alloc (.cells #[Iv b.kind,Iv b.num,.string (bs b.name),Iv b.off,.slice yA yn yc] 119)).heap[w6.heap.size]?=some (.cells (Qaa b) 119 (0,0))):=by rw[Hi,I4];exact zzw _ _
    have A1:lo<=(w6.alloc (.cells #[Iv b.kind,Iv b.num,.string (bs b.name),Iv b.off,.slice yA yn yc] 119)).heap.size:=by have:=eA.o.lle;rw[World.size_alloc];omega
    replace b4:=Ja eA.o.box 4;simp only[zW]at b4;refine zU hK (b4) λhH=>?_
    refine LO 4 rfl λK hK=>?_
    go_simp;refine zU hK (by simp[*,World.cell?_alloc_some]) λhH=>?_
    refine LO 5 rfl λK hK=>?_
    (refine J9 (w6.alloc (.cells #[Iv b.kind,Iv b.num,.string (bs b.name),Iv b.off,.slice yA yn yc] 119)) zr (.tmp 21) (.tmp 24) zr lo (.slice va vn vc) l b zr HOW.o w6.heap.size zr P3.o rA A1 ?_;intro v7 w7 H0 N1 Q1)
    obtain⟨a7,m7,c7,rfl⟩:=Ji H0;obtain⟨hst,j3⟩:=NmI.step HI.o cA.o.1 cA.o.2.1 cA.o.2.2.1 cA.o.2.2.2 P5.o H0 N1 Q1;have D2:=Zh hst;replace b4:=Ja j3 4;simp only[zW]at b4;have f4:=Jc j3 4;have R8:=Jb j3;refine zU hK (b4) λhH=>?_
    refine LK 6 rfl ?_;refine LZ 7 rfl λK hK=>?_
    go_simp;refine hK.out _ _ ?_;go_wp2_with fail;generalize World.setCell w7 _ _=W7 at*;refine(Jq p A C T k4 3 [44] W7 D2.o.pat zd).mono ?_;intro e w8 h8;have zA:=iA.o;rw[P7.o]at zA;simp only[PR.bind]at zA
    rcases h8 with⟨g1,g2,rfl,OC,QC⟩|⟨g1,rfl,Q3⟩
    ·rw[JI g1 g2]at zA;dsimp only at zA;have uA:=Zh (D2.o.on OC QC);rw[<-KL]at zA;have aA:=Zh zA;go_wp2;go_roundg f2
     case measure=>exact Nat.lt_succ_self _
     case rel=>exact⟨_,_,_,uA.o,aA.o,by have:=xB.o;rw[List.length_append,List.length_singleton];omega⟩
    ·rw[J3 g1]at zA;dsimp only at zA;have uA:=Zh (D2.o.on (D2.o.pat.chg Q3) (Chg.of_below Q3 [p]));rw[<-KL]at zA;have aA:=Zh zA;go_wp2_with fail;refine(Qed p A C T k4 [41] w8 uA.o.pat).mono ?_;intro e w9 h9
     rcases Kl 3 [41] (T.drop k4) with⟨r9,ha⟩|ha
     ·rw[ha]at h9;obtain⟨rfl,⟨k9,zB,jA⟩,D3⟩:=h9;subst zB;have dA:=Zh (uA.o.on jA D3);obtain⟨g9,c9,hV,vA⟩:=dA.o.fin zp P5.o;have uB:Hi (X=.ok (An.mk 20 0 nm of g9 c9 (l++[b])).nd (T.drop k9)):=by rw[Hi,<-aA.o,ha];rfl
      have E0:=Zh vA
      have O4:Hi (Qaa (An.mk 20 0 nm of g9 c9 (l++[b]))=#[Iv 20,Iv 0,Sv nm,Iv of,.slice a7 m7 c7]):=by
       rw[Hi,hV]
       show #[_,_,_,_,Qaw g9 c9 (l++[b])]=_
       unfold Qaw;rw[if_neg zp]
      have U0:=dA.o.box;have Q0:=dA.o.res;have b5:=Jj U0;have z5:=Jj Q0;have y5:=Jp Q0;have X4:=Zh Q0;clear Q0 U0 ha jA D3 hV vA dA uA aA;go_wp2;refine bodyPost_ret (v:=.agg (Qaa (An.mk 20 0 nm of g9 c9 (l++[b])))) (by rw[O4.o];exact results_cell_row rfl _ _ w.heap.size 119 _ (0,0) _ rfl (QcM _ _ _ _ _ X4.o) underlying119 rfl Qaq) rfl ?_;rw[HR.o,uB.o];exact QkT
     ·rw[ha]at h9;obtain⟨rfl,D3⟩:=h9;refine⟨rfl,?_⟩;rw[HR.o,<-aA.o,ha];exact⟨rfl,uA.o.chg.trans D3⟩
  ·have xA:=C0.o;rw[J3 g1]at xA;dsimp only at xA;have Q2:=Zh xA;replace A2:=Zh (A2.o.on (A2.o.pat.chg I0) (Chg.of_below I0 [p]));have Q0:=A2.o.res;have U0:=A2.o.box;have b5:=Jj U0;have z5:=Jj Q0;have y5:=Jp Q0;go_wp2;refine bodyPost_ret (v:=.agg (Qaa (QcX 2 0 nm of))) (by rw[J4];exact results_cell_row rfl _ _ w.heap.size 119 _ (0,0) _ rfl (QcM _ _ _ _ _ A2.o.res) underlying119 rfl Qaq) rfl ?_;exact Qno
 ·rw[hi]at h1;obtain⟨rfl,hc1⟩:=h1;refine⟨rfl,?_⟩;rw[HR.o,kA.o,hi];exact⟨rfl,(Chg.of_below HB.o [p]).trans hc1⟩
def JjU(f:Nat){r r1:List Tok}(h:acc 0 Qkf r=some r1):pM (f+1) .expr r=(Qbl r1).bind λnm r2=>(Qam 3 [61] r2).bind λ_ r3=>(pM f .expr r3).bind λv r4=>(Qam 0 kIn r4).bind λ_ r5=>(pM f .expr r5).bind λb r6=>.ok (.mk 19 0 nm.1 (hd r).off [v,b]) r6:=by rw[pM,h]
def Jku(f:Nat){r r1:List Tok}(h0:acc 0 Qkf r=none)(h:acc 0 kIf r=some r1):pM (f+1) .expr r=(pM f .expr r1).bind λc r2=>(Qam 0 QfB r2).bind λ_ r3=>(pM f .expr r3).bind λy r4=>(Qam 0 Qiv r4).bind λ_ r5=>(pM f .expr r5).bind λz r6=>.ok (.mk 18 0 [] (hd r).off [c,y,z]) r6:=by rw[pM,h0,h]
def Jkv(f:Nat){r:List Tok}(h0:acc 0 Qkf r=none)(h:acc 0 kIf r=none):pM (f+1) .expr r=pM f (.level 1) r:=by rw[pM,h0,h]
def JeG{α β:Type}(a:α)(r:List Tok)(f:α->List Tok->PR β):(PR.ok a r).bind f=f a r:=rfl
structure Bx(p lo hi:Nat)(W:World)(bx:Nat)(a:An):Prop where
 at':a.At W
 made:Qcs lo hi a
 hle:lo<=hi/\hi<=W.heap.size
 box:W.heap[bx]?=some (.cells (Qaa a) 119 (0,0))
 ne:bx≠p
 lt:p<lo
def Bx.on{p lo hi:Nat}{W W':World}{bx:Nat}{a:An}(h:Bx p lo hi W bx a)(hc:Chg [p] W W'):Bx p lo hi W' bx a:=
 ⟨Zf h.at' h.made hc h.hle.2 λb hb=>by have:=h.lt;simp at hb;omega,h.made,⟨h.hle.1,Nat.le_trans h.hle.2 hc.size⟩,hc.heap_some (by simp;exact h.ne) h.box,h.ne,h.lt⟩
def Bx.make{p:Nat}{w2 w3:World}{a:An}{A:Option Addr}{C:Nat}{T:List Tok}{k:Nat}(hat:a.At w3)(hm:Qcs w2.heap.size w3.heap.size a)(hp:p<w2.heap.size)(hP:PAt w3 p A C T k)(hs:w2.heap.size<=w3.heap.size):Bx p w2.heap.size w3.heap.size (w3.alloc (.cells (Qaa a) 119)) w3.heap.size a:=
 ⟨Kz hat hm (zzb.alloc zzl _) zzl,hm,⟨hs,by simp⟩,zzw _ _,Ne.symm (Nat.ne_of_lt hP.chg1),hp⟩
def Bx.cells{p lo hi:Nat}{W:World}{bx:Nat}{a:An}{xA:Option Addr}{xn xc:Nat}(h:Bx p lo hi W bx a)(hf:Qaa a=#[Iv a.kind,Iv a.num,.string (bs a.name),Iv a.off,.slice xA xn xc]):
  C5 W bx (Iv a.kind) (Iv a.num) (.string (bs a.name)) (Iv a.off) (.slice xA xn xc):=by
 have:=h.box;rw[hf]at this;exact Jj this
def JgN(f p:Nat)(A:Option Addr)(C:Nat)(T:List Tok)(hx:∀t∈T,t.text.length<=1000000)
  (I1:∀k w,PAt w p A C T k->pM f .expr (T.drop k)≠.out->Calls prog 65 #[Pt p] w (NdP p A C T w (pM f .expr (T.drop k))))
  (I2:∀k w,PAt w p A C T k->pM f (.level 1) (T.drop k)≠.out->Calls prog 105 #[Pt p,Iv 1] w (NdP p A C T w (pM f (.level 1) (T.drop k))))
  (k:Nat) (w:World) (h:PAt w p A C T k) (hne:pM (f+1) .expr (T.drop k)≠.out):
  Calls prog 65 #[Pt p] w (NdP p A C T w (pM (f+1) .expr (T.drop k))):=by
 obtain⟨X,hX⟩:∃X,pM (f+1) .expr (T.drop k)=X:=⟨_,rfl⟩
 have O7:=Zh hX;rw[hX]at hne |-;obtain⟨R,hR⟩:∃R,R=NdP p A C T w X:=⟨_,rfl⟩
 rw[<-hR];have HR:=Zh hR;have S1:=Zh hne;have HS:=Zh (NS.start h);have cp:=Kc p A C T k _ HS.o.pat;obtain⟨of,nA⟩:∃of,(hd (T.drop k)).off=of:=⟨_,rfl⟩
 unfold QhL at cp;have hfl:=JbQ (hd (T.drop k));rw[nA]at hfl;have P8:=Zh nA;generalize Qdw (hd (T.drop k))=tv at*;clear h hne hR nA hX;go_enter func65,ntmps65;go_wp2_with fail;refine cp.mono ?_;rintro e w1 ⟨rfl,A0⟩;replace HS:=Zh (HS.o.up A0);go_wp2_with fail;refine(Jq p A C T k 0 Qkf w1 HS.o.pat zd).mono ?_;intro e w2 h2
 rcases h2 with⟨g1,g2,rfl,C2,E1⟩|⟨g1,rfl,I0⟩
 ·have eA:=O7.o;rw[JjU f (JI g1 g2),P8.o]at eA;have C0:=Zh eA;replace HS:=Zh (HS.o.on C2 E1);go_wp2_with fail;refine PRp.call (Vd p A C T (k+1) _ HS.o.pat hx) (JJ C0.o S1.o) (λq _ hx hc=>by exact⟨rfl,HS.o.bad HR.o C0.o hx hc⟩) λnm w3 k3 hxx hp hc=>?_
  obtain⟨nm,qA⟩:=nm;replace C0:=Zh (Jv C0.o hxx);have aA:=Zh (zzw w3 (.cells #[Sv nm,Iv qA] 115));have hA:w3.heap.size≠p:=Ne.symm (Nat.ne_of_lt hp.chg1);replace HS:=Zh ((HS.o.on hp hc).new (.cells #[Sv nm,Iv qA] 115));unfold QjG;dsimp only;go_wp2_with fail;generalize World.alloc w3 _=w3' at*;generalize w3.heap.size=lb at*;go_wp2_with fail;refine PRp.call (Qed p A C T k3 [61] _ HS.o.pat) (JX _ _ _) (λq _ hx hc=>by exact⟨rfl,HS.o.bad HR.o C0.o hx hc⟩) λ_ w4 k4 hx hp hc=>?_
  replace C0:=Zh (Jv C0.o hx);replace HS:=Zh (HS.o.on hp hc);replace aA:=Zh (hc.heap_some (by simp;exact hA) aA.o);go_wp2_with fail;refine NdP.call (I1 k4 _ HS.o.pat (JJ C0.o S1.o)) (JJ C0.o S1.o) (λq _ hx hc=>by exact⟨rfl,HS.o.bad HR.o C0.o hx hc⟩) λva w5 k5 vaA van vac hx T1 B=>?_
  have hc:=B.2.2.2.alloc (.cells (Qaa va) 119);have zA:=Zh (Bx.make B.1 B.2.1 HS.o.plt B.2.2.1 B.2.2.2.size);have bA:=Zh HS.o.lt;replace C0:=Zh (Jv C0.o hx);replace HS:=Zh ((HS.o.on B.2.2.1 B.2.2.2).new (.cells (Qaa va) 119));replace aA:=Zh (hc.heap_some (by simp;exact hA) aA.o);have vA:=Zh T1;rw[T1]at zA HS aA;go_wp2_with fail;generalize World.alloc w5 _=w5' at*;generalize w5.heap.size=bxa at*;generalize w4.heap.size=lova at*;go_wp2_with fail;refine PRp.call (QhU p A C T k5 kIn _ HS.o.pat) (JX _ _ _) (λq _ hx hc=>by exact⟨rfl,HS.o.bad HR.o C0.o hx hc⟩) λ_ w6 k6 hx hp hc=>?_
  replace C0:=Zh (Jv C0.o hx);replace HS:=Zh (HS.o.on hp hc);replace aA:=Zh (hc.heap_some (by simp;exact hA) aA.o);replace zA:=Zh (zA.o.on hc);have dA:=JJ C0.o S1.o;go_upto_region 7 with fail;have hc:=Chg.of_below (Below.refl w6.heap.size w6).drew [p];replace HS:=Zh HS.o.dr;replace aA:=Zh (hc.heap_some (by simp;exact hA) aA.o);replace zA:=Zh (zA.o.on hc);have q1:=Jaz aA.o;have q2:=zA.o.cells vA.o;have gA:Hi (bxa<=w6.drew.heap.size):=zA.o.hle.2;refine LB (λW=>W.cell? ⟨lb,0,none⟩=some (Sv nm)/\C5 W bxa (Iv va.kind) (Iv va.num) (.string (bs va.name)) (Iv va.off) (.slice vaA van vac)) 8 (⟨q1,q2⟩) λhH=>?_
  refine LK 0 rfl ?_;refine LK 1 rfl ?_;refine LK 2 rfl ?_;refine LK 3 rfl ?_;refine LK 4 rfl ?_;refine LO 5 rfl λK hK=>?_
  go_simp;go_at_call 65;refine NdP.call (I1 k6 _ HS.o.pat dA) dA (λq _ hx hc=>by exact⟨rfl,HS.o.bad HR.o C0.o hx hc⟩) λb w9 k9 yA yn yc hx I4 B=>?_
  have hc:=B.2.2.2;have iA:=Zh B;have R7:=Zh I4;have kA:=Zh (Jv C0.o hx);replace HS:=Zh (HS.o.on B.2.2.1 B.2.2.2);replace aA:=Zh (hc.heap_some (by simp;exact hA) aA.o);replace zA:=Zh (zA.o.on hc);replace q1:=Jaz aA.o;replace q2:=zA.o.cells vA.o;have r5:=Jj HS.o.res;have f5:=Jp HS.o.res;have M6:=HS.o.lt;refine zU hK (⟨q1,q2⟩) λhH=>?_
  refine LO 6 rfl λK hK=>?_
  go_simp;refine zU hK (by simp[*,C5,World.cell?_alloc_some,World.cell?_setCell_far]) λhH=>?_
  refine LK 7 rfl ?_;refine LZ 8 rfl λK hK=>?_
  go_simp;refine hK.out _ _ ?_;have mA:Hi (QdK lova w9.heap.size [va,b]):=⟨bxa,zA.o.hle.1,zA.o.made,w9.heap.size,zA.o.hle.2,iA.o.2.1.mono gA.o zzl,le_refl _⟩
  have E0:=Zh (λv0 v1 v2 v3 v4=>Yf (w:=w) (W3:=w9) (kids:=[va,b]) (cs:=#[Iv va.kind,Iv va.num,.string (bs va.name),Iv va.off,.slice vaA van vac,Iv b.kind,Iv b.num,.string (bs b.name),Iv b.off,.slice yA yn yc]) zp (by simp[Qdx,vA.o,R7.o]) (by simp;exact⟨zA.o.at',iA.o.1⟩) mA.o bA.o HS.o.pat HS.o.chg HS.o.pl HS.o.tl 19 0 nm of 2 v0 v1 v2 v3 v4);go_wp2;refine bodyPost_ret (v:=.agg (Qaa (An.mk 19 0 nm of w9.heap.size 2 [va,b]))) (results_cell_row rfl _ _ w.heap.size 119 _ (0,0) _ rfl (Vn _ _ _ _ _ _ HS.o.res) underlying119 rfl Qaq) rfl ?_;rw[HR.o,<-kA.o];exact QkT
 ·have G8:=J3 g1;replace HS:=Zh (HS.o.up I0);go_wp2_with fail;refine(Jq p A C T k 0 kIf w2 HS.o.pat zd).mono ?_;intro e w3 h3
  rcases h3 with⟨g1,g2,rfl,C2,E1⟩|⟨g1,rfl,I0⟩
  ·have eA:=O7.o;rw[Jku f G8 (JI g1 g2),P8.o]at eA;have C0:=Zh eA;replace HS:=Zh (HS.o.on C2 E1);go_wp2_with fail;refine NdP.call (I1 (k+1) _ HS.o.pat (JJ C0.o S1.o)) (JJ C0.o S1.o) (λq _ hx hc=>by exact⟨rfl,HS.o.bad HR.o C0.o hx hc⟩) λva w4 k4 vaA van vac hx T1 B=>?_
   have hc:=B.2.2.2.alloc (.cells (Qaa va) 119);have zA:=Zh (Bx.make B.1 B.2.1 HS.o.plt B.2.2.1 B.2.2.2.size);have bA:=Zh HS.o.lt;replace C0:=Zh (Jv C0.o hx);replace HS:=Zh ((HS.o.on B.2.2.1 B.2.2.2).new (.cells (Qaa va) 119));have vA:=Zh T1;rw[T1]at zA HS;go_wp2_with fail;generalize World.alloc w4 _=w4' at*;generalize w4.heap.size=bxa at*;generalize w3.heap.size=lova at*;go_wp2_with fail;refine PRp.call (QhU p A C T k4 QfB _ HS.o.pat) (JX _ _ _) (λq _ hx hc=>by exact⟨rfl,HS.o.bad HR.o C0.o hx hc⟩) λ_ w5 k5 hx hp hc=>?_
   replace C0:=Zh (Jv C0.o hx);replace HS:=Zh (HS.o.on hp hc);replace zA:=Zh (zA.o.on hc);go_wp2_with fail;refine NdP.call (I1 k5 _ HS.o.pat (JJ C0.o S1.o)) (JJ C0.o S1.o) (λq _ hx hc=>by exact⟨rfl,HS.o.bad HR.o C0.o hx hc⟩) λvb w6 k6 vbA vbn vbc hx T1 B=>?_
   have hc:=B.2.2.2.alloc (.cells (Qaa vb) 119);have jA:Hi (bxa<=w5.heap.size):=zA.o.hle.2;have uA:=Zh (Bx.make B.1 B.2.1 HS.o.plt B.2.2.1 B.2.2.2.size);have pA:=Zh HS.o.lt;replace C0:=Zh (Jv C0.o hx);replace HS:=Zh ((HS.o.on B.2.2.1 B.2.2.2).new (.cells (Qaa vb) 119));replace zA:=Zh (zA.o.on hc);have cA:=Zh T1;rw[T1]at uA HS zA;go_wp2_with fail;generalize World.alloc w6 _=w6' at*;generalize w6.heap.size=bxb at*;generalize w5.heap.size=lovb at*;go_wp2_with fail;refine PRp.call (QhU p A C T k6 Qiv _ HS.o.pat) (JX _ _ _) (λq _ hx hc=>by exact⟨rfl,HS.o.bad HR.o C0.o hx hc⟩) λ_ w7 k7 hx hp hc=>?_
   replace C0:=Zh (Jv C0.o hx);replace HS:=Zh (HS.o.on hp hc);replace zA:=Zh (zA.o.on hc);replace uA:=Zh (uA.o.on hc);have dA:=JJ C0.o S1.o;go_upto_region 13 with fail;have hc:=Chg.of_below (Below.refl w7.heap.size w7).drew [p];replace HS:=Zh HS.o.dr;replace zA:=Zh (zA.o.on hc);replace uA:=Zh (uA.o.on hc);have q1:=zA.o.cells vA.o;have q2:=uA.o.cells cA.o;have gA:Hi (bxb<=w7.drew.heap.size):=uA.o.hle.2;refine LB (λW=>C5 W bxa (Iv va.kind) (Iv va.num) (.string (bs va.name)) (Iv va.off) (.slice vaA van vac)/\C5 W bxb (Iv vb.kind) (Iv vb.num) (.string (bs vb.name)) (Iv vb.off) (.slice vbA vbn vbc)) 7 (⟨q1,q2⟩) λhH=>?_
   refine LK 0 rfl ?_;refine LK 1 rfl ?_;refine LK 2 rfl ?_;refine LK 3 rfl ?_;refine LO 4 rfl λK hK=>?_
   go_simp;go_at_call 65;refine NdP.call (I1 k7 _ HS.o.pat dA) dA (λq _ hx hc=>by exact⟨rfl,HS.o.bad HR.o C0.o hx hc⟩) λb w9 k9 yA yn yc hx I4 B=>?_
   have hc:=B.2.2.2;have iA:=Zh B;have R7:=Zh I4;have kA:=Zh (Jv C0.o hx);replace HS:=Zh (HS.o.on B.2.2.1 B.2.2.2);replace zA:=Zh (zA.o.on hc);replace uA:=Zh (uA.o.on hc);replace q1:=zA.o.cells vA.o;replace q2:=uA.o.cells cA.o;have r5:=Jj HS.o.res;have f5:=Jp HS.o.res;have M6:=HS.o.lt;refine zU hK (⟨q1,q2⟩) λhH=>?_
   refine LO 5 rfl λK hK=>?_
   go_simp;refine zU hK (by simp[*,C5,World.cell?_alloc_some,World.cell?_setCell_far]) λhH=>?_
   refine LK 6 rfl ?_;refine LZ 7 rfl λK hK=>?_
   go_simp;refine hK.out _ _ ?_;have mA:Hi (QdK lova w9.heap.size [va,vb,b]):=⟨bxa,zA.o.hle.1,zA.o.made,bxb,Nat.le_trans jA.o uA.o.hle.1,uA.o.made.mono jA.o zzl,w9.heap.size,uA.o.hle.2,iA.o.2.1.mono gA.o zzl,le_refl _⟩
   have E0:=Zh (λv0 v1 v2 v3 v4=>Yf (w:=w) (W3:=w9) (kids:=[va,vb,b]) (cs:=#[Iv va.kind,Iv va.num,.string (bs va.name),Iv va.off,.slice vaA van vac,Iv vb.kind,Iv vb.num,.string (bs vb.name),Iv vb.off,.slice vbA vbn vbc,Iv b.kind,Iv b.num,.string (bs b.name),Iv b.off,.slice yA yn yc]) zp (by simp[Qdx,vA.o,cA.o,R7.o]) (by simp;exact⟨zA.o.at',uA.o.at',iA.o.1⟩) mA.o bA.o HS.o.pat HS.o.chg HS.o.pl HS.o.tl 18 0 [] of 3 v0 v1 v2 v3 v4);go_wp2;refine bodyPost_ret (v:=.agg (Qaa (An.mk 18 0 [] of w9.heap.size 3 [va,vb,b]))) (results_cell_row rfl _ _ w.heap.size 119 _ (0,0) _ rfl (Vn _ _ _ _ _ _ HS.o.res) underlying119 rfl Qaq) rfl ?_;rw[HR.o,<-kA.o];exact QkT
  ·have eA:=O7.o;rw[Jkv f G8 (J3 g1)]at eA;subst eA;replace HS:=Zh (HS.o.up I0);go_wp2_with fail;refine NdP.call (I2 k _ HS.o.pat S1.o) S1.o (λq _ hx hc=>by exact⟨rfl,by rw[HR.o,hx];exact⟨rfl,HS.o.chg.trans hc⟩⟩) λa w4 k4 xA xn xc hx T1 B=>?_
   have G9:=Zh (HS.o.pass B);have P7:=Zh hx;have O4:=Zh T1;have h5:=Jj (HS.o.on B.2.2.1 B.2.2.2).res;have y5:=Jp (HS.o.on B.2.2.1 B.2.2.2).res;have q8:=Zh (HS.o.on B.2.2.1 B.2.2.2).res;go_wp2;refine bodyPost_ret (v:=.agg (Qaa a)) (by rw[O4.o];exact results_cell_row rfl _ _ w.heap.size 119 _ (0,0) _ rfl (QcM _ _ _ _ _ q8.o) underlying119 rfl Qaq) rfl ?_;rw[HR.o,P7.o];obtain⟨e1,e2,e3,e4⟩:=G9.o _ _ _ _ _;exact⟨_,rfl,rfl,e1,e2,⟨k4,rfl,e3⟩,e4⟩
def putAt(b:Nat):World->Nat->List Value->World
 |W,_,[]=>W
 |W,j,v::l=>putAt b (W.setCell ⟨b,j,none⟩ v) (j+1) l
def Vu{S:List Nat}{b:Nat}(hb:b∈S):∀(l:List Value)(W:World)(j:Nat),Chg S W (putAt b W j l)
 |[],W,_=>Chg.refl S W
 |v::l,W,j=>((Chg.refl S W).setCell (.inl hb) (p:=⟨b,j,none⟩) v).trans (Vu hb l _ _)
def PAt.putAt{p q:Nat}{A:Option Addr}{C:Nat}{T:List Tok}{k:Nat}(h1:q≠p)(h2:∀b o,A=some ⟨b,o,none⟩->q≠b):∀(l:List Value){W:World}(j:Nat),PAt W p A C T k->PAt (putAt q W j l) p A C T k
 |[],_,_,h=>h
 |v::l,_,j,h=>PAt.putAt h1 h2 l (j+1) (h.setFar h1 h2 j v)
def Vv{b t:Nat}:∀(l:List Value)(pre old:List Value)(W:World),W.heap[b]?=some (.cells (pre++old).toArray t (0,0))->old.length=l.length->(putAt b W pre.length l).heap[b]?=some (.cells (pre++l).toArray t (0,0))
 |[],pre,old,W,h,hl=>by
  obtain rfl:old=[]:=List.eq_nil_of_length_eq_zero hl;exact h
 |v::l,pre,[],W,h,hl=>by cases hl
 |v::l,pre,x::old,W,h,hl=>by
  have h1:=heap_setCell_same _ _ pre.length _ _ v h
  have h2:=Vv (t:=t) l (pre++[v]) old (W.setCell ⟨b,pre.length,none⟩ v) (by
   rw[h1]
   simp) (by simpa using hl)
  simpa[putAt] using h2
def Js{ops:Array Oper}{o:Oper}{ac:Act}{K:Act->World->Prop}{Q:Exit->Act->World->Prop}{E:Prop}(w:World)(hgd:o.guard=none)(s x:Operand)(t e:TypeId)(z:Value)(size bytes:Nat)
  (ho:o.op=.call {callee:=.builtin .append,args:=#[s,x],argTypes:=#[t,t]}) (ht:prog.underlying t=some (.slice e)) (hi:(prog.info? e).map (λi=>(i.zero,i.size,i.bytes))=some (some z,size,bytes)) (hzs:z.cells.size=size) (hsz:0<size)
  (base:Nat) (v:Value) (n:Nat) (xs news:List Value) (hs:ac.eval s=v)
  (hown:w.ownsRow base e size v n xs) (rb:Nat) (hx:ac.eval x=.slice (some ⟨rb,0,none⟩) 1 1) (hrow:w.heap[rb]?=some (.cells news.toArray e (0,0))) (hl:news.length=size) (h1:∀u∈news,u.oneCell'=true)
  (h63:n<=100000000) (hby:bytes<=1000) (hbase:base<=w.heap.size)
  (h:∀v' w',w'.ownsRow base e size v' (n+1) (xs++news)->w.grownBy w' v.ownBlock->(v'.ownBlock=v.ownBlock\/v'.ownBlock=some w.heap.size)->K (ac.put o.dst v') w'):
  if Region.wanted o (yielded ops ac.tmps)=true then Oper.wp prog o ac w K Q else E:=by
 have hw:Region.wanted o (yielded ops ac.tmps)=true:=by simp[Region.wanted,hgd]
 rw[if_pos hw];obtain⟨i0,hi,yA,zA,xA⟩:=info_parts hi
 obtain⟨v',w',hr,h1,h2,h3⟩:=KT (P:=prog) w base t o.type e i0 _ size bytes ht hi yA zA xA hzs hsz v n xs hown ⟨rb,0,none⟩ 1 1 news zo (λj u hj=>by
  rw[show (⟨rb,0,none⟩:Addr).add j=⟨rb,j,none⟩ by unfold Addr.add;split<;>simp_all]
  exact Ks hrow hj) h1 zd (by unfold maxLen;omega) (by
   have:=Nat.mul_le_mul (show n+1<=100000001 by omega) hby
   omega) hbase
 unfold Oper.wp execOp;simp only[ho,resolve,invoke,builtin,Sem.run_bind,Sem.run_pure,Result.andThen_ok,List.map_toArray,List.map_cons,List.map_nil,hs,hx,hr];exact h v' w' h1 h2 h3
def Qht:(prog.info? 115).map (λi=>(i.zero,i.size,i.bytes))=some (some (.agg #[Em,Iv 0]),2,24):=zk
def QjH:(prog.info? 121).map (·.size)=some 10:=zk
def Qjl:(prog.info? 3).map (λi=>(i.zero,i.size,i.bytes))=some (some (Iv 0),1,8):=zk
def Ve{w:World}{b1 b2 e1 e2 n1 n2 s1 s2:Nat}{v1 v2:Value}{x1 x2:List Value}(h1:w.ownsRow b1 e1 s1 v1 n1 x1)(h2:w.ownsRow b2 e2 s2 v2 n2 x2)(hne:e1≠e2):v1.ownBlock=none\/v1.ownBlock≠v2.ownBlock:=by
 rcases h1.2 with⟨rfl,_⟩|⟨g,cap,cur,rfl,_,hg,_⟩
 ·exact .inl rfl
 ·refine .inr λe=>?_
  rcases h2.2 with⟨rfl,_⟩|⟨g2,cap2,cur2,rfl,_,lC,_⟩
  ·simp[Value.ownBlock]at e
  ·simp[Value.ownBlock]at e;subst e;rw[hg]at lC;simp at lC;exact hne lC.2
def QbZ(l:List (By×Int)):List Value:=l.flatMap λx=>[.string (bs x.1),Iv x.2]
def QbN(l:List Int):List Value:=l.map λn=>Iv n
def JaE(l:List (By×Int))(x:By×Int):QbZ (l++[x])=QbZ l++[.string (bs x.1),Iv x.2]:=by simp[QbZ]
def JaF(l:List Int)(x:Int):QbN (l++[x])=QbN l++[Iv x]:=by simp[QbN]
structure FnA where
 name:By
 off:Int
 params:List (By×Int)
 types:List Int
 result:Int
 body:An
 pv:Value
 tv:Value
 lo:Nat
 hi:Nat
def FnA.src(f:FnA):FnS:=⟨(f.name,f.off),f.params,f.types,f.result,f.body.nd⟩
def FnA.cells(f:FnA):List Value:=[.string (bs f.name),Iv f.off,f.pv,f.tv,Iv f.result]++(Qaa f.body).toList
structure FnA.Ok(W:World)(f:FnA):Prop where
 pown:W.ownsRow f.lo 115 2 f.pv f.params.length (QbZ f.params)
 town:W.ownsRow f.lo 3 1 f.tv f.types.length (QbN f.types)
 bat:f.body.At W
 bmd:∃m,f.lo<=m/\m<=f.hi/\(∀g,f.pv.ownBlock=some g->g<m)/\(∀g,f.tv.ownBlock=some g->g<m)/\Qcs m f.hi f.body
 hle:f.hi<=W.heap.size
def FnA.Ok.chg{S:List Nat}{W W':World}{f:FnA}(h:f.Ok W)(hc:Chg S W W')(hs:∀b∈S,b<f.lo\/f.hi<=b):f.Ok W':=by
 obtain⟨m,m1,m2,m3,m4,m5⟩:=h.bmd
 have hk:∀{e size n:Nat}{v:Value}{xs:List Value},W.ownsRow f.lo e size v n xs->(∀g,v.ownBlock=some g->g<m)->W'.ownsRow f.lo e size v n xs:=by
  intro e size n v xs ho hm;refine⟨ho.1,ho.2.imp id ?_⟩;rintro⟨g,cap,cur,rfl,h2,h3,h4⟩;have:=hm g rfl;exact⟨g,cap,cur,rfl,h2,hc.heap_some (λhm=>by rcases hs g hm with h|h<;>omega) h3,h4⟩
 exact⟨hk h.pown m3,hk h.town m4,JE _ h.bat λb hb=>hc.block b (zu ((m5.2 b hb).2) h.hle) λhm=>by have:=m5.2 b hb;rcases hs b hm with h|h<;>omega,⟨m,m1,m2,m3,m4,m5⟩,Nat.le_trans h.hle hc.size⟩
def FnP(p:Nat)(A:Option Addr)(C:Nat)(T:List Tok)(w:World)(x:PR FnS)(e:Ending)(w':World):Prop:=
 match x with
 |.out=>True
 |.bad o=>QkL p w o e w'
 |.ok fs r=>∃f:FnA,f.src=fs/\e=.returned (.agg f.cells.toArray)/\f.Ok w'/\w.heap.size<=f.lo/\f.lo<=f.hi/\(∃k',r=T.drop k'/\PAt w' p A C T k')/\Chg [p] w w'
structure FnB(nm:By)(of:Int)(p:Nat)(A:Option Addr)(C:Nat)(T:List Tok)(w:World)(bx:Nat)(W:World)(k2:Nat)(pv tv:Value)(res:Int)(ps:List (By×Int))(ts:List Int):Prop where
 pat:PAt W p A C T k2
 box:W.heap[bx]?=some (.cells #[Sv nm,Iv of,pv,tv,Iv res,Iv 0,Iv 0,Em,Iv 0,Nl] 121 (0,0))
 rs:W.heap[w.heap.size]?=some (.cells #[Em,Iv 0,Nl,Nl,Iv 0,Iv 0,Iv 0,Em,Iv 0,Nl] 121 (0,0))
 chg:Chg [p] w W
 low:w.heap.size<bx/\p<w.heap.size
 pown:W.ownsRow (bx+1) 115 2 pv ps.length (QbZ ps)
 town:W.ownsRow (bx+1) 3 1 tv ts.length (QbN ts)
section
variable {nm:By}{of:Int}{p:Nat}{A:Option Addr}{C:Nat}{T:List Tok}{w:World}{bx:Nat}{W:World}{k2:Nat}{pv tv:Value}{res:Int}{ps:List (By×Int)}{ts:List Int}
def FnB.on{W':World}{k3:Nat}(h:FnB nm of p A C T w bx W k2 pv tv res ps ts)(hP:PAt W' p A C T k3)(hc:Chg [p] W W'):FnB nm of p A C T w bx W' k3 pv tv res ps ts:=by
 obtain⟨l1,l2⟩:=h.low;exact⟨hP,hc.heap_some zq h.box,hc.heap_some zq h.rs,h.chg.trans hc,h.low,Jx h.pown hc zq,Jx h.town hc zq⟩
def FnB.bad{W':World}{α:Type}{x:PR α}{g:α->List Tok->PR FnS}{X:PR FnS}{R:Ending->World->Prop}{q:Int}(h:FnB nm of p A C T w bx W k2 pv tv res ps ts)(hR:R=FnP p A C T w X)(hX:x.bind g=X)(hx:x=.bad q)(hc:Chg [p] W W'):R (.panicked [{v:=QfN q,recovered:=false}]) W':=by
 subst hx hX hR;exact⟨rfl,h.chg.trans hc⟩
def FnB.cell{j:Nat}{u:Value}(h:FnB nm of p A C T w bx W k2 pv tv res ps ts)(hu:[Sv nm,Iv of,pv,tv,Iv res][j]?=some u):W.cell? ⟨bx,j,none⟩=some u:=by
 rw[Ja h.box];have hj:j<5:=(List.getElem?_eq_some_iff.1 hu).1;rw[List.getElem?_toArray,<-hu]
 match j,hj with
 |0,_=>rfl
 |1,_=>rfl
 |2,_=>rfl
 |3,_=>rfl
 |4,_=>rfl
def FnB.set{j:Nat}{u:Value}(h:FnB nm of p A C T w bx W k2 pv tv res ps ts)(hT:∀b o,A=some ⟨b,o,none⟩->b<w.heap.size):
  PAt (W.setCell ⟨bx,j,none⟩ u) p A C T k2/\(W.setCell ⟨bx,j,none⟩ u).heap[w.heap.size]?=some (.cells #[Em,Iv 0,Nl,Nl,Iv 0,Iv 0,Iv 0,Em,Iv 0,Nl] 121 (0,0))/\Chg [p] w (W.setCell ⟨bx,j,none⟩ u)/\Chg [bx] W (W.setCell ⟨bx,j,none⟩ u):=by
 obtain⟨l1,l2⟩:=h.low;have hc:Chg [bx] W (W.setCell ⟨bx,j,none⟩ u):=(Chg.refl _ _).setCell (.inl (by simp:bx∈[bx])) (p:=⟨bx,j,none⟩) u;exact⟨h.pat.setFar zo (λb o e=>by have:=hT b o e;omega) j _,hc.heap_some zq h.rs,h.chg.step hc λq hq=>.inr (by simp at hq;omega),hc⟩
def FnB.setR(h:FnB nm of p A C T w bx W k2 pv tv res ps ts)(hT:∀b o,A=some ⟨b,o,none⟩->b<w.heap.size)(r:Int):FnB nm of p A C T w bx (W.setCell ⟨bx,4,none⟩ (Iv r)) k2 pv tv r ps ts:=by
 obtain⟨e1,e2,e3,e4⟩:=h.set (j:=4) (u:=Iv r) hT;have hb:=JC h.box 4 (Iv r);exact⟨e1,hb,e2,e3,h.low,Jx h.pown e4 zp,Jx h.town e4 zp⟩
def FnB.grow{w6 w7:World}{v:Value}{X:Obj}(h:FnB nm of p A C T w bx w6 k2 pv tv res ps ts)(hT:∀b o,A=some ⟨b,o,none⟩->b<w.heap.size)(hv:∀g,v.ownBlock=some g->bx+1<=g)(hgr:(w6.alloc X).grownBy w7 v.ownBlock):
  PAt w7 p A C T k2/\w7.heap[bx]?=some (.cells #[Sv nm,Iv of,pv,tv,Iv res,Iv 0,Iv 0,Em,Iv 0,Nl] 121 (0,0))/\w7.heap[w.heap.size]?=some (.cells #[Em,Iv 0,Nl,Nl,Iv 0,Iv 0,Iv 0,Em,Iv 0,Nl] 121 (0,0))/\Chg [p] w w7:=by
 obtain⟨l1,l2⟩:=h.low;have hlt:=Jb h.box;have hk:∀q,q<=bx->w7.heap[q]?=w6.heap[q]?:=λq hq=>(hgr.block q zq λe=>by have:=hv q e.symm;omega).trans (heap_alloc_old _ _ zo)
 have hs:w6.heap.size<=w7.heap.size:=by have:=hgr.size;simp at this;omega
 obtain⟨tb,ot,hA,xA,yA⟩:=h.pat.toks;have zA:=hT _ _ hA;refine⟨⟨(hk p zo).trans h.pat.self,⟨tb,ot,hA,xA,λi t hi j u hu=>(World.cell?_of_block (hk tb zo)).trans (yA i t hi j u hu)⟩,h.pat.lt,h.pat.fin,h.pat.room⟩,(hk bx zzl).trans h.box,(hk _ zo).trans h.rs,hgr.os.trans h.chg.os,hgr.tape.trans h.chg.tape,hgr.output.trans h.chg.output,Nat.le_trans h.chg.size hs,λq hq hn=>(hk q zo).trans (h.chg.block q hq hn)⟩
def Yg{w6 w7:World}{b e size n:Nat}{v v2:Value}{xs:List Value}{X:Obj}(h:w6.ownsRow b e size v n xs)(hgr:(w6.alloc X).grownBy w7 v2.ownBlock)(hd:v.ownBlock=none\/v.ownBlock≠v2.ownBlock):w7.ownsRow b e size v n xs:=(h.alloc X).kept hgr hd
def FnB.addP{w6 w7:World}{pv':Value}{x:By×Int}{X:Obj}(h:FnB nm of p A C T w bx w6 k2 pv tv res ps ts)(hT:∀b o,A=some ⟨b,o,none⟩->b<w.heap.size)(hown:w7.ownsRow (bx+1) 115 2 pv' (ps.length+1) (QbZ ps++[.string (bs x.1),Iv x.2]))(hgr:(w6.alloc X).grownBy w7 pv.ownBlock):
  FnB nm of p A C T w bx (w7.setCell ⟨bx,2,none⟩ pv') k2 pv' tv res (ps++[x]) ts/\w7.heap[bx]?=some (.cells #[Sv nm,Iv of,pv,tv,Iv res,Iv 0,Iv 0,Em,Iv 0,Nl] 121 (0,0)):=by
 obtain⟨g1,g2,g3,g4⟩:=h.grow hT (λg hg=>(h.pown.lt g hg).1) hgr;have h7:FnB nm of p A C T w bx w7 k2 pv' tv res (ps++[x]) ts->True:=λ_=>trivial
 have DB:w7.ownsRow (bx+1) 3 1 tv ts.length (QbN ts):=Yg h.town hgr (Ve h.town h.pown zd);have hc:Chg [bx] w7 (w7.setCell ⟨bx,2,none⟩ pv'):=(Chg.refl _ _).setCell (.inl (by simp:bx∈[bx])) (p:=⟨bx,2,none⟩) pv';obtain⟨l1,l2⟩:=h.low;refine⟨⟨g1.setFar zo (λb o e=>by have:=hT b o e;omega) 2 _,JC g2 2 pv',hc.heap_some zq g3,g4.step hc λq hq=>.inr (by simp at hq;omega),h.low,?_,Jx DB hc zp⟩,g2⟩;have:=Jx hown hc zp;rw[JaE,length_append];exact this
def FnB.addT{w6 w7:World}{tv':Value}{x:Int}{X:Obj}(h:FnB nm of p A C T w bx w6 k2 pv tv res ps ts)(hT:∀b o,A=some ⟨b,o,none⟩->b<w.heap.size)(hown:w7.ownsRow (bx+1) 3 1 tv' (ts.length+1) (QbN ts++[Iv x]))(hgr:(w6.alloc X).grownBy w7 tv.ownBlock):
  FnB nm of p A C T w bx (w7.setCell ⟨bx,3,none⟩ tv') k2 pv tv' res ps (ts++[x])/\w7.heap[bx]?=some (.cells #[Sv nm,Iv of,pv,tv,Iv res,Iv 0,Iv 0,Em,Iv 0,Nl] 121 (0,0)):=by
 obtain⟨g1,g2,g3,g4⟩:=h.grow hT (λg hg=>(h.town.lt g hg).1) hgr;have xA:w7.ownsRow (bx+1) 115 2 pv ps.length (QbZ ps):=Yg h.pown hgr (Ve h.pown h.town zd);have hc:Chg [bx] w7 (w7.setCell ⟨bx,3,none⟩ tv'):=(Chg.refl _ _).setCell (.inl (by simp:bx∈[bx])) (p:=⟨bx,3,none⟩) tv';obtain⟨l1,l2⟩:=h.low;refine⟨⟨g1.setFar zo (λb o e=>by have:=hT b o e;omega) 3 _,JC g2 3 tv',hc.heap_some zq g3,g4.step hc λq hq=>.inr (by simp at hq;omega),h.low,Jx xA hc zp,?_⟩,g2⟩;have:=Jx hown hc zp;rw[JaF,length_append];exact this
def FnB.fin{w5 w9:World}{k9:Nat}{a:An}(h:FnB nm of p A C T w bx w5 k2 pv tv res ps ts)(hat:a.At w9)(hm:Qcs w5.heap.size w9.heap.size a)(hP:PAt w9 p A C T k9)(hc:Chg [p] w5 w9)(hT:∀b o,A=some ⟨b,o,none⟩->b<w.heap.size):
  (putAt bx w9 5 (Qaa a).toList).heap[bx]?=some (.cells (FnA.mk nm of ps ts res a pv tv (bx+1) w9.heap.size).cells.toArray 121 (0,0))/\(putAt bx w9 5 (Qaa a).toList).heap[w.heap.size]?=some (.cells #[Em,Iv 0,Nl,Nl,Iv 0,Iv 0,Iv 0,Em,Iv 0,Nl] 121 (0,0))/\
  ∀vs,(FnA.mk nm of ps ts res a pv tv (bx+1) w9.heap.size).Ok (putAt w.heap.size (putAt bx w9 5 (Qaa a).toList) 0 vs)/\PAt (putAt w.heap.size (putAt bx w9 5 (Qaa a).toList) 0 vs) p A C T k9/\Chg [p] w (putAt w.heap.size (putAt bx w9 5 (Qaa a).toList) 0 vs)/\w.heap.size<=bx+1/\bx+1<=w9.heap.size:=by
 obtain⟨l1,l2⟩:=h.low;have h9:=h.on hP hc;have hlt:=Jb h9.box;have zA:=Jb h.box;have c1:Chg [w.heap.size,bx] w9 (putAt bx w9 5 (Qaa a).toList):=Vu zp _ _ _;have xA:(Qaa a).toList.length=5:=by rw[Array.length_toList,JV]
 refine⟨?_,?_,λvs=>?_⟩
 ·exact Vv (Qaa a).toList [Sv nm,Iv of,pv,tv,Iv res] [Iv 0,Iv 0,Em,Iv 0,Nl] w9 h9.box (by rw[xA];rfl)
 ·exact(Vu (S:=[bx]) zp _ _ _).heap_some zq h9.rs
 ·have c2:Chg [w.heap.size,bx] w9 (putAt w.heap.size (putAt bx w9 5 (Qaa a).toList) 0 vs):=c1.trans (Vu zp _ _ _);have yA:(FnA.mk nm of ps ts res a pv tv (bx+1) w9.heap.size).Ok w9:=⟨h9.pown,h9.town,hat,⟨w5.heap.size,by show bx+1<=_;omega,hc.size,λg hg=>(h.pown.lt g hg).2,λg hg=>(h.town.lt g hg).2,hm⟩,Nat.le_refl _⟩
  refine⟨yA.chg c2 λb hb=>?_,?_,h9.chg.step c2 λq hq=>.inr ?_,by omega,by omega⟩
  ·simp only[List.mem_cons,List.not_mem_nil,or_false]at hb
   rcases hb with rfl|rfl
   ·exact .inl (by show _<bx+1;omega)
   ·exact .inl (by show _<_+1;omega)
  ·exact PAt.putAt zo (λb o e=>by have:=hT b o e;omega) _ _ (PAt.putAt zo (λb o e=>by have:=hT b o e;omega) _ _ hP)
  ·simp only[List.mem_cons,List.not_mem_nil,or_false]at hq;omega
end
def QmR(f:Nat)(ps:List (By×Int))(ts:List Int)(nm:By×Int)(t:Int)(r3:List Tok):PR (List (By×Int)×List Int):=
 match acc 3 [44] r3 with
 |some r4=>QaT f (ps++[nm]) (ts++[t]) r4
 |none=>(Qam 3 [41] r3).bind λ_ r4=>.ok (ps++[nm],ts++[t]) r4
def QmS(f:Nat)(ps:List (By×Int))(ts:List Int)(nm:By×Int)(r1:List Tok):PR (List (By×Int)×List Int):=
 (Qam 3 [58] r1).bind λ_ r2=>(Qec r2).bind (QmR f ps ts nm)
def JdH(f:Nat)(ps:List (By×Int))(ts:List Int)(r:List Tok):QaT (f+1) ps ts r=(Qbl r).bind (QmS f ps ts):=by rw[QaT];rfl
def Qkz(f:Nat)(nm:By×Int)(pt:List (By×Int)×List Int)(r3:List Tok):PR FnS:=
 (Qam 3 [58] r3).bind λ_ r4=>(Qec r4).bind λt r5=>(Qam 3 [61] r5).bind λ_ r6=>(pM f .expr r6).bind λb r7=>.ok ⟨nm,pt.1,pt.2,t,b⟩ r7
def JiI(f:Nat)(r:List Tok):Qfo f r=(Qbl r).bind λnm r1=>(Qam 3 [40] r1).bind λ_ r2=>
  (match acc 3 [41] r2 with
   |some r3=>PR.ok ([],[]) r3
   |none=>QaT f [] [] r2).bind (Qkz f nm):=rfl
def KM{α β γ:Type}{x:PR α}{f:α->List Tok->PR β}{g:β->List Tok->PR γ}{X:PR γ}(h:(x.bind f).bind g=X):(x.bind λa r=>(f a r).bind g)=X:=by cases x<;>exact h
def JdI(r:List Tok):(∃t r',Qec r=.ok t r')\/Qec r=.bad (hd r).off:=by
 unfold Qec;split
 ·exact .inl ⟨_,_,rfl⟩
 ·split
  ·exact .inl ⟨_,_,rfl⟩
  ·exact .inr rfl
def JbT(r:List Tok):Qec r≠.out:=by
 rcases JdI r with⟨_,_,h⟩|h<;>rw[h]<;>exact λh=>by cases h
def QnB{P:Prop}(h:P:=by
  have R8:=Jb U0;clear H0 N1 Q1 hst U0 HOW P3 A1;refine hK.out _ _ (hcl) λhH=>?_
  clear hK K;refine LK 6 rfl ?_;refine LZ 7 rfl λK hK=>?_
  go_simp;clear hcl f4 R8;refine hK.out _ _ ?_;clear hK K;go_wp2_with fail;go_meet
  exact⟨_,_,_,_,_,D2.o,C0.o⟩):P:=h
def Qli{P:Prop}(h:P:=by
  rw[HR.o,<-Q2.o];obtain⟨e1,e2,e3,e4,e5⟩:=FB.o
  exact⟨_,rfl,by rw[R7.o _ _],e1,e4,e5,⟨k9,rfl,e2⟩,e3⟩):P:=h
def JaG(f p:Nat)(A:Option Addr)(C:Nat)(T:List Tok)(hf:f<=100000000)(hx:∀t∈T,t.text.length<=1000000)
  (I1:∀k w,PAt w p A C T k->pM f .expr (T.drop k)≠.out->Calls prog 65 #[Pt p] w (NdP p A C T w (pM f .expr (T.drop k))))
  (k:Nat) (w:World) (h:PAt w p A C T k) (hne:Qfo f (T.drop k)≠.out):
  Calls prog 64 #[Pt p] w (FnP p A C T w (Qfo f (T.drop k))):=by
 obtain⟨X,hX⟩:∃X,Qfo f (T.drop k)=X:=⟨_,rfl⟩
 have gA:=hX;rw[JiI]at gA;rw[hX]at hne |-;obtain⟨R,hR⟩:∃R,FnP p A C T w X=R:=⟨_,rfl⟩
 rw[hR];have HR:Hi (R=FnP p A C T w X):=hR.symm;have S1:=Zh hne;have hZ:=zzw w (.cells #[Em,Iv 0,Nl,Nl,Iv 0,Iv 0,Iv 0,Em,Iv 0,Nl] 121);have hB:=(Below.refl w.heap.size w).alloc zzl (.cells #[Em,Iv 0,Nl,Nl,Iv 0,Iv 0,Iv 0,Em,Iv 0,Nl] 121);have HP:=Zh (h.chg hB);have HZ:=Zh hZ;have HC:=Zh (Chg.of_below hB [p]);have A3:=Zh h.chg1;have P5:=Zh h.tokLt;have C0:=Zh gA;have H5:w.heap.size≠p:=by have:=A3.o;omega
 go_enter func64,ntmps64;go_wp2_with fail;refine PRp.call (Vd p A C T k _ HP.o hx) (JJ C0.o S1.o) (λq _ hi hc=>by exact⟨rfl,by rw[HR.o,<-C0.o,hi];exact⟨rfl,HC.o.trans hc⟩⟩) λnm w1 k1 hi E5 hc1=>?_
 obtain⟨nm,of⟩:=nm;replace C0:=Zh (Jv C0.o hi);unfold QjG;dsimp only
 have L1:Hi (FnB nm of p A C T w w1.heap.size (w1.alloc (.cells #[Sv nm,Iv of,Nl,Nl,Iv 0,Iv 0,Iv 0,Em,Iv 0,Nl] 121)) k1 Nl Nl 0 [] []):=by
  have hb:Below w1.heap.size w1 (w1.alloc (.cells #[Sv nm,Iv of,Nl,Nl,Iv 0,Iv 0,Iv 0,Em,Iv 0,Nl] 121)):=zzb.alloc zzl _;have hz:=hc1.heap_some (by simp;exact H5) HZ.o;exact⟨E5.chg hb,zzw _ _,(hb.block _ (Jb hz)).trans hz,(HC.o.trans hc1).alloc _,⟨Jb hz,A3.o⟩,World.ownsRow_nil _ _ _ _,World.ownsRow_nil _ _ _ _⟩
 go_wp2_with fail;generalize World.alloc w1 _=W1 at*;generalize w1.heap.size=bx at*;have iA:bx≠w.heap.size:=by have:=L1.o.low;omega
 have kA:w.heap.size≠bx:=by have:=L1.o.low;omega
 have qA:bx≠p:=by have:=L1.o.low;omega
 go_wp2_with fail;refine PRp.call (Qed p A C T k1 [40] _ L1.o.pat) (JX _ _ _) (λq _ hx hc=>by exact⟨rfl,L1.o.bad HR.o C0.o hx hc⟩) λ_ w2 k2 hx hp hc=>?_
 replace C0:=Zh (Jv C0.o hx);replace L1:=Zh (L1.o.on hp hc);clear hx hp hc;go_wp2_with fail;refine(Jq p A C T k2 3 [41] w2 L1.o.pat zd).mono ?_;intro e w3 h3
 rcases h3 with⟨g1,g2,rfl,m8,A5⟩|⟨g1,rfl,T9⟩
 ·have yA:=C0.o;rw[JI g1 g2]at yA;dsimp only at yA;rw[JeG]at yA;replace C0:=Zh yA;replace L1:=Zh (L1.o.on m8 A5);have yA:=C0.o
  try dsimp only at yA
  try rw[JeG]at yA
  rw[Qkz]at yA;replace C0:=Zh yA;go_wp2_with fail;refine PRp.call (Qed p A C T (k2+1) [58] _ L1.o.pat) (JX _ _ _) (λq _ hx hc=>by exact⟨rfl,L1.o.bad HR.o C0.o hx hc⟩) λ_ wt1 kt1 hx hp hc=>?_
  replace C0:=Zh (Jv C0.o hx);replace L1:=Zh (L1.o.on hp hc);go_wp2_with fail;refine PRp.call (Z5 p A C T kt1 _ L1.o.pat) (JbT _) (λq _ hx hc=>by exact⟨rfl,L1.o.bad HR.o C0.o hx hc⟩) λty wt2 kt2 hx hp hc=>?_
  replace C0:=Zh (Jv C0.o hx);replace L1:=Zh (L1.o.on hp hc);have U0:=L1.o.box;have b4:=Ja U0 4;have f4:=Jc U0 4;have pA:=Jb U0;simp only[zW]at b4;replace L1:=Zh (L1.o.setR P5.o ty);go_wp2_with fail;generalize World.setCell wt2 _ _=wt3 at*;refine PRp.call (Qed p A C T kt2 [61] _ L1.o.pat) (JX _ _ _) (λq _ hx hc=>by exact⟨rfl,L1.o.bad HR.o C0.o hx hc⟩) λ_ wt4 kt4 hx hp hc=>?_
  replace C0:=Zh (Jv C0.o hx);replace L1:=Zh (L1.o.on hp hc);go_wp2_with fail;refine NdP.call (I1 kt4 _ L1.o.pat (JJ C0.o S1.o)) (JJ C0.o S1.o) (λq _ hx hc=>by exact⟨rfl,L1.o.bad HR.o C0.o hx hc⟩) λa w9 k9 xA xn xc hx T1 B=>?_
  obtain⟨hat,S6,aA,D3⟩:=B;replace C0:=Zh (Jv C0.o hx);obtain⟨g1,g2,g3⟩:=L1.o.fin hat S6 aA D3 P5.o;have Q2:=C0;have uA:=Zh g1;have O9:=Zh g2;have cA:=Zh g3;have U0:=(L1.o.on aA D3).box;have b5:=Ja U0 5;have b6:=Ja U0 6;have b7:=Ja U0 7;have b8:=Ja U0 8;have b9:=Ja U0 9;simp only[zW]at b5 b6 b7 b8 b9;have f5:=Jc U0 5;have f6:=Jc U0 6;have f7:=Jc U0 7;have f8:=Jc U0 8;have f9:=Jc U0 9;have tA:=Jb U0;have O4:=Zh T1;rw[T1]at uA O9 cA;simp only[FnA.cells,T1,cons_append,nil_append]at uA;go_upto_region 13 with fail;have zA:Hi (_/\_/\_):=⟨uA.o,O9.o,cA.o⟩
  simp only[putAt]at zA;generalize World.setCell (World.setCell _ _ _) _ _=W9 at*;have U0:=zA.o.1;have Q0:=zA.o.2.1;have b0:=Ja U0 0;have b1:=Ja U0 1;have b2:=Ja U0 2;have b3:=Ja U0 3;have b4:=Ja U0 4;have b5:=Ja U0 5;have b6:=Ja U0 6;have b7:=Ja U0 7;have b8:=Ja U0 8;have b9:=Ja U0 9;have z0:=Ja Q0 0;have y0:=Jc Q0 0;have z1:=Ja Q0 1;have y1:=Jc Q0 1;have z2:=Ja Q0 2;have y2:=Jc Q0 2;have z3:=Ja Q0 3;have y3:=Jc Q0 3;have z4:=Ja Q0 4;have y4:=Jc Q0 4;have z5:=Ja Q0 5;have y5:=Jc Q0 5;have z6:=Ja Q0 6;have y6:=Jc Q0 6;have z7:=Ja Q0 7;have y7:=Jc Q0 7;have z8:=Ja Q0 8;have y8:=Jc Q0 8;have z9:=Ja Q0 9;have y9:=Jc Q0 9;simp only[zW]at b0 z0 b1 z1 b2 z2 b3 z3 b4 z4 b5 z5 b6 z6 b7 z7 b8 z8 b9 z9;have jA:=Jb Q0;have bA:=Zh (Vv (t:=121) [Sv nm,Iv of,Nl,Nl,Iv ty,Iv a.kind,Iv a.num,.string (bs a.name),Iv a.off,.slice xA xn xc] [] [Em,Iv 0,Nl,Nl,Iv 0,Iv 0,Iv 0,Em,Iv 0,Nl] W9 Q0 rfl);have FB:=Zh (zA.o.2.2 [Sv nm,Iv of,Nl,Nl,Iv ty,Iv a.kind,Iv a.num,.string (bs a.name),Iv a.off,.slice xA xn xc]);simp only[putAt,List.length_nil,nil_append,Nat.zero_add,Nat.reduceAdd]at bA FB;have R7:Hi (∀(ps:List (By×Int))(ts:List Int),(FnA.cells (FnA.mk nm of ps ts ty a Nl Nl (bx+1) w9.heap.size)).toArray=([Sv nm,Iv of,Nl,Nl,Iv ty,Iv a.kind,Iv a.num,.string (bs a.name),Iv a.off,.slice xA xn xc]).toArray):=λps ts=>by simp only[FnA.cells,O4.o,cons_append,nil_append]
  go_wp2;refine bodyPost_ret (v:=.agg ([Sv nm,Iv of,Nl,Nl,Iv ty,Iv a.kind,Iv a.num,.string (bs a.name),Iv a.off,.slice xA xn xc]).toArray) (results_cell_row rfl _ _ w.heap.size 121 _ (0,0) _ rfl bA.o underlying121 rfl QjH) rfl ?_;exact Qli
 ·have yA:=C0.o;rw[J3 g1]at yA;dsimp only at yA;have hA:Hi (∃k2 pv tv ps ts,FnB nm of p A C T w bx w3 k2 pv tv 0 ps ts/\((QaT f ps ts (T.drop k2)).bind (Qkz f (nm,of)))=X/\f+ps.length<=f/\ts.length=ps.length):=⟨_,_,_,[],[],L1.o.on (L1.o.pat.chg T9) (Chg.of_below T9 [p]),yA,Nat.le_refl _,rfl⟩
  go_wp2_with fail;go_loopg [] f λg wr=>Hi (∃k2 pv tv ps ts,FnB nm of p A C T w bx wr k2 pv tv 0 ps ts/\((QaT g ps ts (T.drop k2)).bind (Qkz f (nm,of)))=X/\g+ps.length<=f/\ts.length=ps.length)
  case atStart=>exact hA
  case round=>
  obtain⟨wl,rfl⟩:=zG wr
  obtain⟨k2,pv,tv,ps,ts,hI,eA,hle,hlt⟩:=hrel.o
  cases gk with
  |zero=>exact absurd eA.symm S1.o
  |succ g2=>
  obtain⟨va,vn,vc,rfl⟩:=Ji hI.pown;rw[JdH]at eA;have hD:Below wl.heap.size wl wl.drew:=(Below.refl wl.heap.size wl).drew;have L1:=Zh (hI.on (hI.pat.chg hD) (Chg.of_below hD [p]));have C0:=Zh (KM eA);have rA:ps.length<=100000000:=zo
  have C8:Hi (g2+1+ps.length<=f/\ts.length=ps.length):=⟨hle,hlt⟩
  go_upto_region 4 with fail;go_cut [] λwx=>Hi (∃x k3 va vn vc,FnB nm of p A C T w bx wx k3 (.slice va vn vc) tv 0 (ps++[x]) ts/\((QmS g2 ps ts x (T.drop k3)).bind (Qkz f (nm,of)))=X)
  case first=>
   have hcl:=L1.o.cell (j:=2) rfl;refine LB (λW=>W.cell? ⟨bx,2,none⟩=some (.slice va vn vc)) 7 (by simp[*,World.cell?_alloc_some]) λhH=>?_
   refine LK 0 rfl ?_;refine LK 1 rfl ?_;refine LK 2 rfl ?_;refine LO 3 rfl λK hK=>?_
   go_simp;go_at_call 102;refine PRp.call (Vd p A C T k2 _ L1.o.pat hx) (JJ C0.o S1.o) (λq _ hi hc=>by exact⟨rfl,L1.o.bad HR.o C0.o hi hc⟩) λx w6 k4 hi hp hc=>?_
   unfold QjG;replace C0:=Zh (Jv C0.o hi);replace L1:=Zh (L1.o.on hp hc);have HOW:=Zh (L1.o.pown.alloc (.cells #[.string (bs x.1),Iv x.2] 115));have P3:=Zh (zzw w6 (.cells #[.string (bs x.1),Iv x.2] 115));have A1:bx+1<=(w6.alloc (.cells #[.string (bs x.1),Iv x.2] 115)).heap.size:=by have:=Jb L1.o.box;rw[World.size_alloc];omega
   replace hcl:=L1.o.cell (j:=2) rfl;refine zU hK (hcl) λhH=>?_
   refine LO 4 rfl λK hK=>?_
   go_simp;refine zU hK (by simp[*,World.cell?_alloc_some]) λhH=>?_
   refine LO 5 rfl λK hK=>?_
   (refine Js (w6.alloc (.cells #[.string (bs x.1),Iv x.2] 115)) zr (.tmp 13) (.tmp 16) 116 115 _ 2 24 zr underlying116 Qht rfl zd (bx+1) (.slice va vn vc) ps.length (QbZ ps) [.string (bs x.1),Iv x.2] zr HOW.o w6.heap.size zr P3.o rfl (by intro u hu;simp at hu;rcases hu with rfl|rfl<;>rfl) rA zd A1 ?_;intro v7 w7 H0 N1 Q1)
   obtain⟨a7,m7,c7,rfl⟩:=Ji H0;obtain⟨hst,U0⟩:=L1.o.addP P5.o H0 N1;have D2:=Zh hst;replace hcl:=Ja U0 2;simp only[zW]at hcl;have f4:=Jc U0 2;exact QnB
  case rest=>
  obtain⟨x,k3,va,vn,vc,dA,vA⟩:=hcut.o;replace L1:=Zh dA;rw[QmS]at vA;replace C0:=Zh (KM vA);go_wp2_with fail;refine PRp.call (Qed p A C T k3 [58] _ L1.o.pat) (JX _ _ _) (λq _ hx hc=>by exact⟨rfl,L1.o.bad HR.o C0.o hx hc⟩) λ_ w4 k4 hx hp hc=>?_
  replace C0:=Zh (Jv C0.o hx);replace L1:=Zh (L1.o.on hp hc);replace C0:=Zh (KM C0.o);obtain⟨ua,un,uc,sA⟩:=Ji L1.o.town;subst sA;have hD:Below w4.heap.size w4 w4.drew:=(Below.refl w4.heap.size w4).drew;replace L1:=Zh (L1.o.on (L1.o.pat.chg hD) (Chg.of_below hD [p]));have nA:ts.length<=100000000:=by have:=C8.o;omega
  go_upto_region 6 with fail;go_cut [] λwx=>Hi (∃t k5 ua un uc,FnB nm of p A C T w bx wx k5 (.slice va vn vc) (.slice ua un uc) 0 (ps++[x]) (ts++[t])/\((QmR g2 ps ts x t (T.drop k5)).bind (Qkz f (nm,of)))=X)
  case first=>
   have hcl:=L1.o.cell (j:=3) rfl;refine LB (λW=>W.cell? ⟨bx,3,none⟩=some (.slice ua un uc)) 7 (by simp[*,World.cell?_alloc_some]) λhH=>?_
   refine LK 0 rfl ?_;refine LK 1 rfl ?_;refine LK 2 rfl ?_;refine LO 3 rfl λK hK=>?_
   go_simp;go_at_call 104;refine PRp.call (Z5 p A C T k4 _ L1.o.pat) (JbT _) (λq _ hi hc=>by exact⟨rfl,L1.o.bad HR.o C0.o hi hc⟩) λt w6 k6 hi hp hc=>?_
   replace C0:=Zh (Jv C0.o hi);replace L1:=Zh (L1.o.on hp hc);have HOW:=Zh (L1.o.town.alloc (.cells #[Iv t] 3));have P3:=Zh (zzw w6 (.cells #[Iv t] 3));have A1:bx+1<=(w6.alloc (.cells #[Iv t] 3)).heap.size:=by have:=Jb L1.o.box;rw[World.size_alloc];omega
   replace hcl:=L1.o.cell (j:=3) rfl;refine zU hK (hcl) λhH=>?_
   refine LO 4 rfl λK hK=>?_
   go_simp;refine zU hK (by simp[*,World.cell?_alloc_some]) λhH=>?_
   refine LO 5 rfl λK hK=>?_
   (refine Js (w6.alloc (.cells #[Iv t] 3)) zr (.tmp 22) (.tmp 25) 55 3 _ 1 8 zr underlying55 Qjl rfl zd (bx+1) (.slice ua un uc) ts.length (QbN ts) [Iv t] zr HOW.o w6.heap.size zr P3.o rfl (by intro u hu;simp at hu;subst hu;rfl) nA zd A1 ?_;intro v7 w7 H0 N1 Q1)
   obtain⟨a7,m7,c7,rfl⟩:=Ji H0;obtain⟨hst,U0⟩:=L1.o.addT P5.o H0 N1;have D2:=Zh hst;replace hcl:=Ja U0 3;simp only[zW]at hcl;have f4:=Jc U0 3;exact QnB
  case rest=>
  obtain⟨t,k5,ua,un,uc,dA,vA⟩:=hcut.o;replace L1:=Zh dA;rw[QmR]at vA;replace C0:=Zh vA;go_wp2_with fail;refine(Jq p A C T k5 3 [44] _ L1.o.pat zd).mono ?_;intro e w8 h8
  rcases h8 with⟨g1,g2',rfl,OC,QC⟩|⟨g1,rfl,Q3⟩
  ·have yA:=C0.o;rw[JI g1 g2']at yA;dsimp only at yA;have mA:=Zh yA;replace L1:=Zh (L1.o.on OC QC);go_wp2;go_roundg g2
   case measure=>exact Nat.lt_succ_self _
   case rel=>exact⟨_,_,_,_,_,L1.o,mA.o,by have:=C8.o;rw[length_append,List.length_singleton];omega,by have:=C8.o;rw[length_append,length_append,List.length_singleton,List.length_singleton];omega⟩
  ·have yA:=C0.o;rw[J3 g1]at yA;dsimp only at yA;replace C0:=Zh (KM yA);replace L1:=Zh (L1.o.on (L1.o.pat.chg Q3) (Chg.of_below Q3 [p]));go_wp2_with fail;refine PRp.call (Qed p A C T k5 [41] _ L1.o.pat) (JX _ _ _) (λq _ hx hc=>by exact⟨rfl,L1.o.bad HR.o C0.o hx hc⟩) λ_ w6 k6 hx hp hc=>?_
   replace C0:=Zh (Jv C0.o hx);replace L1:=Zh (L1.o.on hp hc);have yA:=C0.o
   try dsimp only at yA
   try rw[JeG]at yA
   rw[Qkz]at yA;replace C0:=Zh yA;go_wp2_with fail;refine PRp.call (Qed p A C T k6 [58] _ L1.o.pat) (JX _ _ _) (λq _ hx hc=>by exact⟨rfl,L1.o.bad HR.o C0.o hx hc⟩) λ_ wt1 kt1 hx hp hc=>?_
   replace C0:=Zh (Jv C0.o hx);replace L1:=Zh (L1.o.on hp hc);go_wp2_with fail;refine PRp.call (Z5 p A C T kt1 _ L1.o.pat) (JbT _) (λq _ hx hc=>by exact⟨rfl,L1.o.bad HR.o C0.o hx hc⟩) λty wt2 kt2 hx hp hc=>?_
   replace C0:=Zh (Jv C0.o hx);replace L1:=Zh (L1.o.on hp hc);have U0:=L1.o.box;have b4:=Ja U0 4;have f4:=Jc U0 4;have pA:=Jb U0;simp only[zW]at b4;replace L1:=Zh (L1.o.setR P5.o ty);go_wp2_with fail;generalize World.setCell wt2 _ _=wt3 at*;refine PRp.call (Qed p A C T kt2 [61] _ L1.o.pat) (JX _ _ _) (λq _ hx hc=>by exact⟨rfl,L1.o.bad HR.o C0.o hx hc⟩) λ_ wt4 kt4 hx hp hc=>?_
   replace C0:=Zh (Jv C0.o hx);replace L1:=Zh (L1.o.on hp hc);go_wp2_with fail;refine NdP.call (I1 kt4 _ L1.o.pat (JJ C0.o S1.o)) (JJ C0.o S1.o) (λq _ hx hc=>by exact⟨rfl,L1.o.bad HR.o C0.o hx hc⟩) λa w9 k9 xA xn xc hx T1 B=>?_
   obtain⟨hat,S6,aA,D3⟩:=B;replace C0:=Zh (Jv C0.o hx);obtain⟨g1,g2,g3⟩:=L1.o.fin hat S6 aA D3 P5.o;have Q2:=C0;have uA:=Zh g1;have O9:=Zh g2;have cA:=Zh g3;have U0:=(L1.o.on aA D3).box;have b5:=Ja U0 5;have b6:=Ja U0 6;have b7:=Ja U0 7;have b8:=Ja U0 8;have b9:=Ja U0 9;simp only[zW]at b5 b6 b7 b8 b9;have f5:=Jc U0 5;have f6:=Jc U0 6;have f7:=Jc U0 7;have f8:=Jc U0 8;have f9:=Jc U0 9;have tA:=Jb U0;have O4:=Zh T1;rw[T1]at uA O9 cA;simp only[FnA.cells,T1,cons_append,nil_append]at uA;go_upto_region 13 with fail;have zA:Hi (_/\_/\_):=⟨uA.o,O9.o,cA.o⟩
   simp only[putAt]at zA;generalize World.setCell (World.setCell _ _ _) _ _=W9 at*;have U0:=zA.o.1;have Q0:=zA.o.2.1;have b0:=Ja U0 0;have b1:=Ja U0 1;have b2:=Ja U0 2;have b3:=Ja U0 3;have b4:=Ja U0 4;have b5:=Ja U0 5;have b6:=Ja U0 6;have b7:=Ja U0 7;have b8:=Ja U0 8;have b9:=Ja U0 9;have z0:=Ja Q0 0;have y0:=Jc Q0 0;have z1:=Ja Q0 1;have y1:=Jc Q0 1;have z2:=Ja Q0 2;have y2:=Jc Q0 2;have z3:=Ja Q0 3;have y3:=Jc Q0 3;have z4:=Ja Q0 4;have y4:=Jc Q0 4;have z5:=Ja Q0 5;have y5:=Jc Q0 5;have z6:=Ja Q0 6;have y6:=Jc Q0 6;have z7:=Ja Q0 7;have y7:=Jc Q0 7;have z8:=Ja Q0 8;have y8:=Jc Q0 8;have z9:=Ja Q0 9;have y9:=Jc Q0 9;simp only[zW]at b0 z0 b1 z1 b2 z2 b3 z3 b4 z4 b5 z5 b6 z6 b7 z7 b8 z8 b9 z9;have jA:=Jb Q0;have bA:=Zh (Vv (t:=121) [Sv nm,Iv of,(.slice va vn vc),(.slice ua un uc),Iv ty,Iv a.kind,Iv a.num,.string (bs a.name),Iv a.off,.slice xA xn xc] [] [Em,Iv 0,Nl,Nl,Iv 0,Iv 0,Iv 0,Em,Iv 0,Nl] W9 Q0 rfl);have FB:=Zh (zA.o.2.2 [Sv nm,Iv of,(.slice va vn vc),(.slice ua un uc),Iv ty,Iv a.kind,Iv a.num,.string (bs a.name),Iv a.off,.slice xA xn xc]);simp only[putAt,List.length_nil,nil_append,Nat.zero_add,Nat.reduceAdd]at bA FB;have R7:Hi (∀(ps:List (By×Int))(ts:List Int),(FnA.cells (FnA.mk nm of ps ts ty a (.slice va vn vc) (.slice ua un uc) (bx+1) w9.heap.size)).toArray=([Sv nm,Iv of,(.slice va vn vc),(.slice ua un uc),Iv ty,Iv a.kind,Iv a.num,.string (bs a.name),Iv a.off,.slice xA xn xc]).toArray):=λps ts=>by simp only[FnA.cells,O4.o,cons_append,nil_append]
   go_wp2;refine bodyPost_ret (v:=.agg ([Sv nm,Iv of,(.slice va vn vc),(.slice ua un uc),Iv ty,Iv a.kind,Iv a.num,.string (bs a.name),Iv a.off,.slice xA xn xc]).toArray) (results_cell_row rfl _ _ w.heap.size 121 _ (0,0) _ rfl bA.o underlying121 rfl QjH) rfl ?_;exact Qli
structure Ih(p:Nat)(A:Option Addr)(C:Nat)(T:List Tok)(f:Nat):Prop where
 expr:∀k w,PAt w p A C T k->pM f .expr (T.drop k)≠.out->Calls prog 65 #[Pt p] w (NdP p A C T w (pM f .expr (T.drop k)))
 l1:∀k w,PAt w p A C T k->pM f (.level 1) (T.drop k)≠.out->Calls prog 105 #[Pt p,Iv 1] w (NdP p A C T w (pM f (.level 1) (T.drop k)))
 l2:∀k w,PAt w p A C T k->pM f (.level 2) (T.drop k)≠.out->Calls prog 105 #[Pt p,Iv 2] w (NdP p A C T w (pM f (.level 2) (T.drop k)))
 l3:∀k w,PAt w p A C T k->pM f (.level 3) (T.drop k)≠.out->Calls prog 105 #[Pt p,Iv 3] w (NdP p A C T w (pM f (.level 3) (T.drop k)))
 cm:∀k w,PAt w p A C T k->pM f .cmp (T.drop k)≠.out->Calls prog 129 #[Pt p] w (NdP p A C T w (pM f .cmp (T.drop k)))
 l5:∀k w,PAt w p A C T k->pM f (.level 5) (T.drop k)≠.out->Calls prog 105 #[Pt p,Iv 5] w (NdP p A C T w (pM f (.level 5) (T.drop k)))
 l6:∀k w,PAt w p A C T k->pM f (.level 6) (T.drop k)≠.out->Calls prog 105 #[Pt p,Iv 6] w (NdP p A C T w (pM f (.level 6) (T.drop k)))
 l7:∀k w,PAt w p A C T k->pM f (.level 7) (T.drop k)≠.out->Calls prog 105 #[Pt p,Iv 7] w (NdP p A C T w (pM f (.level 7) (T.drop k)))
 pr:∀k w,PAt w p A C T k->pM f .prim (T.drop k)≠.out->Calls prog 130 #[Pt p] w (NdP p A C T w (pM f .prim (T.drop k)))
 nm:∀k w,PAt w p A C T k->pM f .named (T.drop k)≠.out->Calls prog 148 #[Pt p] w (NdP p A C T w (pM f .named (T.drop k)))
def QiU(md:Md)(r:List Tok):pM 0 md r=.out:=by unfold pM;rfl
def JbU(p:Nat)(A:Option Addr)(C:Nat)(T:List Tok)(hx:∀t∈T,t.text.length<=1000000):∀n f,f<=n->f<=100000000->Ih p A C T f
 |0,f,hn,_=>by
  obtain rfl:f=0:=zo
  exact⟨λk w _ h=>absurd (QiU _ _) h,λk w _ h=>absurd (QiU _ _) h,λk w _ h=>absurd (QiU _ _) h,λk w _ h=>absurd (QiU _ _) h,λk w _ h=>absurd (QiU _ _) h,λk w _ h=>absurd (QiU _ _) h,λk w _ h=>absurd (QiU _ _) h,λk w _ h=>absurd (QiU _ _) h,λk w _ h=>absurd (QiU _ _) h,λk w _ h=>absurd (QiU _ _) h⟩
 |n+1,f,hn,hf=>by
  cases f with
  |zero=>exact JbU p A C T hx n 0 (Nat.zero_le _) (Nat.zero_le _)
  |succ f=>
   have H:∀g,g<=f->Ih p A C T g:=λg hg=>JbU p A C T hx n g zo zo
   have h0:=H f zzl;exact⟨JgN f p A C T hx h0.expr h0.l1,JiA f p A C T λg hg=>(H g hg).l2,JiB f p A C T λg hg=>(H g hg).l3,Jiy f p A C T h0.l3 h0.cm,JiE f p A C T h0.l5,JiC f p A C T λg hg=>(H g hg).l6,JiD f p A C T λg hg=>(H g hg).l7,Jiz f p A C T h0.l7 h0.pr,JgK f p A C T h0.expr h0.nm,JeF f p A C T zo hx λg hg=>(H g hg).expr⟩
def JgO(p:Nat)(A:Option Addr)(C:Nat)(T:List Tok)(hx:∀t∈T,t.text.length<=1000000)(f:Nat)(hf:f<=100000000):∀k w,PAt w p A C T k->pM f .expr (T.drop k)≠.out->Calls prog 65 #[Pt p] w (NdP p A C T w (pM f .expr (T.drop k))):=(JbU p A C T hx f f zzl hf).expr
end Go.Proofs.YtncanmdgdflnpaaGreatDoor


