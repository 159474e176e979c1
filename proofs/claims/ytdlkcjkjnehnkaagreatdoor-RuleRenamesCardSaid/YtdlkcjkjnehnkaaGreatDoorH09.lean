import Derived.Test.YtdlkcjkjnehnkaaGreatDoorH08
open List(mem_cons not_mem_nil)
namespace Go.Proofs.YtdlkcjkjnehnkaaGreatDoor
open Go.ChangeShapes Go.WideShapes Go.ChangeAt Go.RowKit Go.Lib
open _root_.Go.Proofs.Tryz
set_option linter.all false
set_option maxRecDepth 100000
set_option maxHeartbeats 32000000
theorem Jay{S:List Nat}{W3 Wf:World}{lo rb:Nat}{kids:List An}{cs:Array Value}(hkids:kids≠[])(hcs:cs.toList=QcV kids)
  (hat:∀ a∈kids,a.At W3) (hm:(Qah kids).Nodup/\∀ b∈Qah kids,lo<=b/\b<W3.heap.size) (hC:Chg S W3 Wf) (hS:∀ b∈S,b<lo\/b∉Qah kids)
  (hrow:Wf.heap[rb]?=some (.cells cs 103)) (hrb:W3.heap.size<=rb) (hlo:lo<=W3.heap.size) (kk n:Int) (s:List UInt8) (o:Int) (c:Nat) :
  (An.mk kk n s o rb c kids).At Wf/\QbY lo Wf.heap.size (An.mk kk n s o rb c kids):=by
 have hlt:=Jb hrow
 constructor
 ·unfold An.At;refine⟨fun _ j=>Jc hrow j,KI kids 0 (fun j u hu=>?_) fun a ha=>?_⟩
  ·rw[Nat.zero_mul,Nat.zero_add];exact KO hrow (by rw[hcs];exact hu)
  ·refine JJ a (hat a ha) fun b hb=>?_
   have hbf:b∈Qah kids:=by
    clear hat hm hcs hrow hS hkids
    induction kids with
    |nil=>cases ha
    |cons x l ih=>
     exact Qkq
   have hbb:=hm.2 b hbf
   exact hC.block b hbb.2 fun hs=>by
    rcases hS b hs with h|h
    ·omega
    ·exact h hbf
 ·cases kids with
  |nil=>exact absurd rfl hkids
  |cons x r=>
   unfold QbY foot;have e:Qah (x::r)=foot x++Qah r:=by rw[Qah]
   rw[e]at hm;refine⟨List.nodup_cons.2 ⟨fun hx=>?_,hm.1⟩,fun q hq=>?_⟩
   ·have:=(hm.2 _ hx).2;omega
   ·rcases List.mem_cons.1 hq with rfl|hq
    ·exact⟨by omega,hlt⟩
    ·have:=hm.2 q hq;exact⟨this.1,by omega⟩
theorem JhK{lo hi:Nat}{a b:An}(h:Qdg lo hi [a,b]):((Qah [a,b]).Nodup/\∀ q∈Qah [a,b],lo<=q/\q<hi)/\((Qah [b,a]).Nodup/\∀ q∈Qah [b,a],lo<=q/\q<hi):=by
 have h1:=h.foot;refine⟨h1,?_⟩;simp only[Qah,List.append_nil]at *;exact⟨(List.perm_append_comm.nodup_iff).1 h1.1,fun q hq=>h1.2 q (List.mem_append.2 (List.mem_append.1 hq).symm)⟩
structure Cm(p:Nat)(A:Option Addr)(C:Nat)(T:List Tok)(w:World)(k:Nat)(W:World)(lo:Nat)(n a b:An):Prop where
 pat:PAt W p A C T k
 nat:n.At W
 nmd:QbY lo W.heap.size n
 nlt:∀ q∈foot n,q+1<W.heap.size
 at1:a.At W
 at2:b.At W
 fts:(Qah [b,a]).Nodup/\∀ q∈Qah [b,a],lo<=q/\q+3<W.heap.size
 res:W.heap[w.heap.size]?=some (.cells #[.int .i64 0,.int .i64 0,.string ⟨#[]⟩,.int .i64 0,.slice none 0 0] 103 (0,0))
 chg:Chg [p] w W
 low:w.heap.size<lo/\lo<=W.heap.size/\p<lo
theorem Cm.make{X:PR Nd}{f lv:Nat}{of:Int}{g:Nat}{p:Nat}{A:Option Addr}{C:Nat}{T:List Tok}{w:World}{lo bx:Nat}{W3 W4 w6:World}{k2 k4:Nat}{a b:An}{cs:Array Value}(h:LvI f lv of X p A C T w lo bx W3 k2 g a)
  (h4:W4.heap.size=W3.heap.size) (hc6:Chg [p] W3 w6) (hbt:b.At w6) (hbm:QbY W4.heap.size w6.heap.size b) (hp4:PAt w6 p A C T k4) (hp:p<w.heap.size) (hcs:cs.toList=QcV [a,b]) (kk:Int) (B6 B7:Obj) :
  Cm p A C T w k4 (((w6.alloc B6).alloc (.cells cs 103)).alloc B7) lo (.mk kk 0 [] a.off (w6.heap.size+1) 2 [a,b]) a b:=by
 have hb:Below w6.heap.size w6 (((w6.alloc B6).alloc (.cells cs 103)).alloc B7):=((zzb.alloc zzl _).alloc (by simp) _).alloc (by simp;omega) _;rw[h4]at hbm;have hmL:Qdg lo w6.heap.size [a,b]:=⟨W3.heap.size,h.lle,h.made,w6.heap.size,hc6.size,hbm,Nat.le_refl _⟩
 obtain⟨f1,f2⟩:=JhK hmL;obtain⟨l1,l2,l3,l4⟩:=h.low;have hlw:lo<=w6.heap.size:=Nat.le_trans h.lle hc6.size;have hsz:(((w6.alloc B6).alloc (.cells cs 103)).alloc B7).heap.size=w6.heap.size+3:=by simp
 have ha6:a.At w6:=Z2 h.at' h.made hc6 zzl (fun q hq=>by simp at hq;omega)
 have hrow:(((w6.alloc B6).alloc (.cells cs 103)).alloc B7).heap[w6.heap.size+1]?=some (.cells cs 103):=by
  have h1:=zzw (w6.alloc B6) (.cells cs 103);rw[World.size_alloc]at h1;exact(Below.heap_alloc _ _ _ (by simp)).trans h1
 have hm1:QbY lo w6.heap.size a:=h.made.mono zzl hc6.size
 obtain⟨g1,g2⟩:=Jay (S:=[]) (by simp) hcs (fun x hx=>by
  rcases List.mem_cons.1 hx with rfl|hx
  ·exact ha6
  ·obtain rfl:x=b:=by simpa using hx
   exact hbt) f1 (Chg.of_below hb []) (by simp) hrow (by omega) hlw kk 0 [] a.off 2
 exact⟨hp4.chg hb,g1,g2,fun q hq=>by
  unfold foot at hq
  rcases List.mem_cons.1 hq with rfl|hq
  ·omega
  ·have:=(f1.2 q (by rw[Qah];exact hq)).2;omega,KU ha6 hm1 hb zzl,KU hbt hbm hb zzl,⟨f2.1,fun q hq=>⟨(f2.2 q hq).1,by have:=(f2.2 q hq).2;omega⟩⟩,(hb.block _ (Jb (hc6.heap_some (by simp;omega) h.res))).trans (hc6.heap_some (by simp;omega) h.res),(h.chg.trans hc6).trans (Chg.of_below hb [p]),l1,by omega,by omega⟩
theorem Cm.swap{p:Nat}{A:Option Addr}{C:Nat}{T:List Tok}{w W:World}{k lo nb:Nat}{n a b:An}{cs:Array Value}(h:Cm p A C T w k W lo n a b)(hp:p<w.heap.size)(hT:∀ b o,A=some ⟨b,o,none⟩->b<w.heap.size)(hnb:nb+1=W.heap.size)(hnz:nb≠w.heap.size)(hcs:cs.toList=QcV [b,a])(kk o:Int)(v v0 v1 v2 v3 v4:Value) :
  ((W.setCell ⟨nb,4,none⟩ v).heap[w.heap.size]?=some (.cells #[.int .i64 0,.int .i64 0,.string ⟨#[]⟩,.int .i64 0,.slice none 0 0] 103 (0,0)))/\(An.mk kk 0 [] o W.heap.size 2 [b,a]).At ((put5 (W.setCell ⟨nb,4,none⟩ v) w.heap.size v0 v1 v2 v3 v4).alloc (.cells cs 103))/\QbY w.heap.size ((put5 (W.setCell ⟨nb,4,none⟩ v) w.heap.size v0 v1 v2 v3 v4).alloc (.cells cs 103)).heap.size (An.mk kk 0 [] o W.heap.size 2 [b,a])/\PAt ((put5 (W.setCell ⟨nb,4,none⟩ v) w.heap.size v0 v1 v2 v3 v4).alloc (.cells cs 103)) p A C T k/\Chg [p] w ((put5 (W.setCell ⟨nb,4,none⟩ v) w.heap.size v0 v1 v2 v3 v4).alloc (.cells cs 103)):=by
 have hs:=h.chg.size;have hr:=Jb h.res;have hsz:(put5 (W.setCell ⟨nb,4,none⟩ v) w.heap.size v0 v1 v2 v3 v4).heap.size=W.heap.size:=by rw[Kk];simp[World.setCell]
 have h1:Chg [w.heap.size,nb] W (W.setCell ⟨nb,4,none⟩ v):=(Chg.refl _ W).setCell (.inl (by simp:nb∈[w.heap.size,nb])) (p:=⟨nb,4,none⟩) v;have h2:=(h1.trans (Ki (S:=[w.heap.size,nb]) (W:=W.setCell ⟨nb,4,none⟩ v) v0 v1 v2 v3 v4 (by simp:w.heap.size∈[w.heap.size,nb]))).alloc (.cells cs 103);have hnew:=zzw (put5 (W.setCell ⟨nb,4,none⟩ v) w.heap.size v0 v1 v2 v3 v4) (.cells cs 103);rw[hsz]at hnew;have hlo:=h.low
 obtain⟨g1,g2⟩:=Jay (by simp) hcs (fun x hx=>by
  rcases List.mem_cons.1 hx with rfl|hx
  ·exact h.at2
  ·obtain rfl:x=a:=by simpa using hx
   exact h.at1) ⟨h.fts.1,fun q hq=>⟨(h.fts.2 q hq).1,by have:=(h.fts.2 q hq).2;omega⟩⟩ h2 (fun q hq=>by
  simp only[mem_cons,not_mem_nil,or_false]at hq
  rcases hq with rfl|rfl
  ·exact .inl hlo.1
  ·exact .inr fun hm=>by have:=(h.fts.2 _ hm).2;omega) hnew zzl hlo.2.1 kk 0 [] o 2
 have hfar:∀ b o,A=some ⟨b,o,none⟩->nb≠b:=fun b o e=>by have:=hT b o e;omega
 refine⟨?_,g1,g2.mono (Nat.le_of_lt hlo.1) zzl,?_,?_⟩
 ·rw[Below.heap_setCell _ _ _ _ (by first|exact hnz|exact Ne.symm hnz)];exact h.res
 ·exact((h.pat.setFar (by omega) hfar 4 v).put5 (Ne.symm (Nat.ne_of_lt hp)) (fun b o e=>by have:=hT b o e;omega) _ _ _ _ _).chg (zzb.alloc zzl _)
 ·exact h.chg.step h2 fun q hq=>.inr (by simp only[mem_cons,not_mem_nil,or_false]at hq;omega)
theorem Cm.wrap{p:Nat}{A:Option Addr}{C:Nat}{T:List Tok}{w W:World}{k lo nb:Nat}{n a b:An}{cs:Array Value}(h:Cm p A C T w k W lo n a b)(hp:p<w.heap.size)(hT:∀ b o,A=some ⟨b,o,none⟩->b<w.heap.size)(hnb:nb+1=W.heap.size)(hnz:nb≠w.heap.size)(hcs:cs.toList=QcV [n])(kk o:Int)(u0 u1 u2 u3 u4 v0 v1 v2 v3 v4:Value) :
  ((put5 W nb u0 u1 u2 u3 u4).heap[w.heap.size]?=some (.cells #[.int .i64 0,.int .i64 0,.string ⟨#[]⟩,.int .i64 0,.slice none 0 0] 103 (0,0)))/\(An.mk kk 0 [] o W.heap.size 1 [n]).At ((put5 (put5 W nb u0 u1 u2 u3 u4) w.heap.size v0 v1 v2 v3 v4).alloc (.cells cs 103))/\QbY w.heap.size ((put5 (put5 W nb u0 u1 u2 u3 u4) w.heap.size v0 v1 v2 v3 v4).alloc (.cells cs 103)).heap.size (An.mk kk 0 [] o W.heap.size 1 [n])/\PAt ((put5 (put5 W nb u0 u1 u2 u3 u4) w.heap.size v0 v1 v2 v3 v4).alloc (.cells cs 103)) p A C T k/\Chg [p] w ((put5 (put5 W nb u0 u1 u2 u3 u4) w.heap.size v0 v1 v2 v3 v4).alloc (.cells cs 103)):=by
 have hs:=h.chg.size;have hr:=Jb h.res;have hsz:(put5 (put5 W nb u0 u1 u2 u3 u4) w.heap.size v0 v1 v2 v3 v4).heap.size=W.heap.size:=by rw[Kk,Kk]
 have h1:Chg [w.heap.size,nb] W (put5 W nb u0 u1 u2 u3 u4):=Ki (S:=[w.heap.size,nb]) (W:=W) u0 u1 u2 u3 u4 (by simp:nb∈[w.heap.size,nb]);have h2:=(h1.trans (Ki (S:=[w.heap.size,nb]) (W:=put5 W nb u0 u1 u2 u3 u4) v0 v1 v2 v3 v4 (by simp:w.heap.size∈[w.heap.size,nb]))).alloc (.cells cs 103);have hnew:=zzw (put5 (put5 W nb u0 u1 u2 u3 u4) w.heap.size v0 v1 v2 v3 v4) (.cells cs 103);rw[hsz]at hnew;have hlo:=h.low
 obtain⟨g1,g2⟩:=Jay (by simp) hcs (fun x hx=>(by simpa using hx:x=n) ▸ h.nat) ⟨by simpa[Qah] using h.nmd.1,fun q hq=>by
  have hq':q∈foot n:=by simpa[Qah] using hq
  exact h.nmd.2 q hq'⟩ h2 (fun q hq=>by
  simp only[mem_cons,not_mem_nil,or_false]at hq
  rcases hq with rfl|rfl
  ·exact .inl hlo.1
  ·exact .inr fun hm=>by have:=h.nlt _ (by simpa[Qah] using hm);omega) hnew zzl hlo.2.1 kk 0 [] o 1
 have hfar:∀ b o,A=some ⟨b,o,none⟩->nb≠b:=fun b o e=>by have:=hT b o e;omega
 refine⟨?_,g1,g2.mono (Nat.le_of_lt hlo.1) zzl,?_,?_⟩
 ·exact((Ki (S:=[nb]) (W:=W) u0 u1 u2 u3 u4 (by simp:nb∈[nb])).block _ hr (by simp;exact Ne.symm hnz)).trans h.res
 ·exact((h.pat.put5 (by omega) hfar _ _ _ _ _).put5 (Ne.symm (Nat.ne_of_lt hp)) (fun b o e=>by have:=hT b o e;omega) _ _ _ _ _).chg (zzb.alloc zzl _)
 ·exact h.chg.step h2 fun q hq=>.inr (by simp only[mem_cons,not_mem_nil,or_false]at hq;omega)
def CmD(tx:List UInt8)(tn tf kk:Int):Prop:=
 ((tx==[62])=false/\(tx==[62,61])=false/\(tx==[33,61])=false/\∀ x y:Nd,Qdn ⟨3,tx,tn,tf⟩ kk x y=.mk kk 0 [] x.off [x,y])\/
 ((tx==[62])=true/\∀ x y:Nd,Qdn ⟨3,tx,tn,tf⟩ kk x y=.mk kk 0 [] x.off [y,x])\/
 ((tx==[62])=false/\(tx==[62,61])=true/\∀ x y:Nd,Qdn ⟨3,tx,tn,tf⟩ kk x y=.mk kk 0 [] x.off [y,x])\/
 ((tx==[62])=false/\(tx==[62,61])=false/\(tx==[33,61])=true/\∀ x y:Nd,Qdn ⟨3,tx,tn,tf⟩ kk x y=.mk 7 0 [] x.off [.mk kk 0 [] x.off [x,y]])
theorem Y4(a:An):a.nd.off=a.off:=by cases a;rfl
theorem Cm.fin{p:Nat}{A:Option Addr}{C:Nat}{T:List Tok}{w W:World}{k lo:Nat}{n a b:An}(h:Cm p A C T w k W lo n a b)(hp:p<w.heap.size)(hT:∀ b o,A=some ⟨b,o,none⟩->b<w.heap.size)(v0 v1 v2 v3 v4:Value) :
  n.At (put5 W w.heap.size v0 v1 v2 v3 v4)/\QbY w.heap.size (put5 W w.heap.size v0 v1 v2 v3 v4).heap.size n/\PAt (put5 W w.heap.size v0 v1 v2 v3 v4) p A C T k/\Chg [p] w (put5 W w.heap.size v0 v1 v2 v3 v4):=by
 have hc:=Ki (S:=[w.heap.size]) (W:=W) v0 v1 v2 v3 v4 (by simp:w.heap.size∈[w.heap.size]);refine⟨Z2 h.nat h.nmd hc zzl (fun b hb=>by have:=h.low.1;simp at hb;omega),?_,h.pat.put5 (Ne.symm (Nat.ne_of_lt hp)) (fun b o e=>by have:=hT b o e;omega) _ _ _ _ _,h.chg.step hc fun b hb=>.inr (by simp at hb;omega)⟩;rw[Kk];exact h.nmd.mono (Nat.le_of_lt h.low.1) zzl
theorem Jlu(f:Nat)(r:List Tok):pM (f+1) .cmp r=(pM f (.level 5) r).bind fun a r1=>match QcS (hd r1) with|none=>.ok a r1|some k=>(pM f (.level 5) r1.tail).bind fun b r2=>.ok (Qdn (hd r1) k a b) r2:=by rw[pM];rfl
theorem QmD{P:Prop}(h:P:=by
  clear hcn;go_wp2;obtain⟨e0,e1,e2,e3,e4⟩:=HCM.out.swap (cs:=#[.int .i64 b.kind,.int .i64 b.num,.string (bs b.name),.int .i64 b.off,.slice yA yn yc,.int .i64 a.kind,.int .i64 a.num,.string (bs a.name),.int .i64 a.off,.slice xA xn xc]) HPL.out HTL.out (by rw[HS7.out]) hnz.2 (by simp[QcV,HCF.out,HCG.out]) kk a.off _ _ _ _ _ _;refine bodyPost_ret (v:=.agg (Qaa (.mk kk 0 [] a.off W7.heap.size 2 [b,a]))) (results_cell_row rfl _ _ w.heap.size 103 _ (0,0) _ rfl (VB _ _ _ _ _ _ e0) underlying103 rfl Qaw) rfl ?_;rw[HR.out,HX3.out,HCN.out,Y4]
  exact⟨_,rfl,rfl,e1,e2,⟨k4,rfl,e3⟩,e4⟩):P:=h
theorem bx1{P:Prop}(h:P:=by
  have hne3:pM f (.level 5) (T.drop (k2+1))≠.out:=Ky (by rw[<- HX2.out];exact HNE.out);have HC3:Hid (Chg [p] W3 (W3.setCell ⟨p,1,none⟩ (.int .i64 ((k2:Int)+1)))):=(Chg.of_below (Below.refl W3.heap.size W3) [p]).setCell (.inl (by simp:p∈[p])) (p:=⟨p,1,none⟩) _;have HP3:Hid (PAt (W3.setCell ⟨p,1,none⟩ (.int .i64 ((k2:Int)+1))) p A C T (k2+1)):=HI.out.pat.next hk1;go_wp2_with fail;refine NdP.call (I1 (k2+1) _ HP3.out hne3) hne3 (fun q _ hx hc6=>by exact⟨rfl,by rw[HR.out,HX2.out,hx];exact⟨rfl,(HI.out.chg.trans HC3.out).trans hc6⟩⟩) fun b w6 k4 yA yn yc hx hcg B=>?_
  obtain⟨hbt,hbm,hp4,hc6⟩:=B;have HCG:=Zh hcg;have HX3:Hid (X=.ok (Qdn ⟨3,tx,tn,tf⟩ kk a.nd b.nd) (T.drop k4)):=by rw[Hid,HX2.out,hx];rfl
  have h36:=HC3.out.trans hc6;go_upto_region 18 with fail;have hCM:=Cm.make (cs:=#[.int .i64 a.kind,.int .i64 a.num,.string (bs a.name),.int .i64 a.off,.slice xA xn xc,.int .i64 b.kind,.int .i64 b.num,.string (bs b.name),.int .i64 b.off,.slice yA yn yc]) HI.out (by simp[World.setCell]) h36 hbt hbm hp4 HPL.out (by simp[QcV,HCF.out,hcg]) kk (.cells #[.int .i64 b.kind,.int .i64 b.num,.string (bs b.name),.int .i64 b.off,.slice yA yn yc] 103) (.cells #[.int .i64 kk,.int .i64 0,.string ⟨#[]⟩,.int .i64 a.off,.slice (some ⟨w6.heap.size+1,0,none⟩) 2 2] 103);have hbx6:=h36.heap_some (by simp;omega) HI.out.box;rw[HCF.out]at hbx6;have ht6:=h36.heap_some (by simp;omega) HT.out;have hB6:Below w6.heap.size w6 (w6.alloc (.cells #[.int .i64 b.kind,.int .i64 b.num,.string (bs b.name),.int .i64 b.off,.slice yA yn yc] 103)):=zzb.alloc zzl _;have hbx7:=(hB6.block _ (Jb hbx6)).trans hbx6;have ht7:=(hB6.block _ (Jb ht6)).trans ht6;have hbb7:=zzw w6 (.cells #[.int .i64 b.kind,.int .i64 b.num,.string (bs b.name),.int .i64 b.off,.slice yA yn yc] 103);have hlt7:bx<w6.heap.size/\tb<w6.heap.size:=⟨Jb hbx6,Jb ht6⟩
  have b5:=Ji hbx7;have z5:=Ji hbb7;have HCM:=Zh hCM;have HBX:=Zh hbx7;have HBB:=Zh hbb7;have HT7:=Zh ht7;have HLT7:=Zh hlt7;have HS6:Hid ((w6.alloc (.cells #[.int .i64 b.kind,.int .i64 b.num,.string (bs b.name),.int .i64 b.off,.slice yA yn yc] 103)).heap.size=w6.heap.size+1):=by rw[Hid,World.size_alloc]
  clear hx hbt hbm hp4 hc6 hcg h36 hCM hbx6 ht6 hB6 hbx7 ht7 hbb7 hne3 HX2 HI HT HP3 HC3 I1;go_upto_region 19 with fail;have hB7:Below (w6.heap.size+1) (w6.alloc (.cells #[.int .i64 b.kind,.int .i64 b.num,.string (bs b.name),.int .i64 b.off,.slice yA yn yc] 103)) (((w6.alloc (.cells #[.int .i64 b.kind,.int .i64 b.num,.string (bs b.name),.int .i64 b.off,.slice yA yn yc] 103)).alloc (.cells #[.int .i64 a.kind,.int .i64 a.num,.string (bs a.name),.int .i64 a.off,.slice xA xn xc,.int .i64 b.kind,.int .i64 b.num,.string (bs b.name),.int .i64 b.off,.slice yA yn yc] 103)).alloc (.cells #[.int .i64 kk,.int .i64 0,.string ⟨#[]⟩,.int .i64 a.off,.slice (some ⟨w6.heap.size+1,0,none⟩) 2 2] 103)):=(zzb.alloc (by simp) _).alloc (by simp) _
  have hN7:(((w6.alloc (.cells #[.int .i64 b.kind,.int .i64 b.num,.string (bs b.name),.int .i64 b.off,.slice yA yn yc] 103)).alloc (.cells #[.int .i64 a.kind,.int .i64 a.num,.string (bs a.name),.int .i64 a.off,.slice xA xn xc,.int .i64 b.kind,.int .i64 b.num,.string (bs b.name),.int .i64 b.off,.slice yA yn yc] 103)).alloc (.cells #[.int .i64 kk,.int .i64 0,.string ⟨#[]⟩,.int .i64 a.off,.slice (some ⟨w6.heap.size+1,0,none⟩) 2 2] 103)).heap[w6.heap.size+1+1]?=some (.cells #[.int .i64 kk,.int .i64 0,.string ⟨#[]⟩,.int .i64 a.off,.slice (some ⟨w6.heap.size+1,0,none⟩) 2 2] 103 (0,0)):=by
   have h1:=zzw ((w6.alloc (.cells #[.int .i64 b.kind,.int .i64 b.num,.string (bs b.name),.int .i64 b.off,.slice yA yn yc] 103)).alloc (.cells #[.int .i64 a.kind,.int .i64 a.num,.string (bs a.name),.int .i64 a.off,.slice xA xn xc,.int .i64 b.kind,.int .i64 b.num,.string (bs b.name),.int .i64 b.off,.slice yA yn yc] 103)) (.cells #[.int .i64 kk,.int .i64 0,.string ⟨#[]⟩,.int .i64 a.off,.slice (some ⟨w6.heap.size+1,0,none⟩) 2 2] 103);rw[World.size_alloc,World.size_alloc]at h1;exact h1
  have hs7:(((w6.alloc (.cells #[.int .i64 b.kind,.int .i64 b.num,.string (bs b.name),.int .i64 b.off,.slice yA yn yc] 103)).alloc (.cells #[.int .i64 a.kind,.int .i64 a.num,.string (bs a.name),.int .i64 a.off,.slice xA xn xc,.int .i64 b.kind,.int .i64 b.num,.string (bs b.name),.int .i64 b.off,.slice yA yn yc] 103)).alloc (.cells #[.int .i64 kk,.int .i64 0,.string ⟨#[]⟩,.int .i64 a.off,.slice (some ⟨w6.heap.size+1,0,none⟩) 2 2] 103)).heap.size=w6.heap.size+1+1+1:=by rw[World.size_alloc,World.size_alloc,World.size_alloc]
  have HBX7:Hid ((((w6.alloc (.cells #[.int .i64 b.kind,.int .i64 b.num,.string (bs b.name),.int .i64 b.off,.slice yA yn yc] 103)).alloc (.cells #[.int .i64 a.kind,.int .i64 a.num,.string (bs a.name),.int .i64 a.off,.slice xA xn xc,.int .i64 b.kind,.int .i64 b.num,.string (bs b.name),.int .i64 b.off,.slice yA yn yc] 103)).alloc (.cells #[.int .i64 kk,.int .i64 0,.string ⟨#[]⟩,.int .i64 a.off,.slice (some ⟨w6.heap.size+1,0,none⟩) 2 2] 103)).heap[bx]?=_):=(hB7.block bx (by have:=HLT7.out;omega)).trans HBX.out;have HBB7:Hid ((((w6.alloc (.cells #[.int .i64 b.kind,.int .i64 b.num,.string (bs b.name),.int .i64 b.off,.slice yA yn yc] 103)).alloc (.cells #[.int .i64 a.kind,.int .i64 a.num,.string (bs a.name),.int .i64 a.off,.slice xA xn xc,.int .i64 b.kind,.int .i64 b.num,.string (bs b.name),.int .i64 b.off,.slice yA yn yc] 103)).alloc (.cells #[.int .i64 kk,.int .i64 0,.string ⟨#[]⟩,.int .i64 a.off,.slice (some ⟨w6.heap.size+1,0,none⟩) 2 2] 103)).heap[w6.heap.size]?=_):=(hB7.block w6.heap.size (Nat.lt_succ_self _)).trans HBB.out;have HT8:Hid ((((w6.alloc (.cells #[.int .i64 b.kind,.int .i64 b.num,.string (bs b.name),.int .i64 b.off,.slice yA yn yc] 103)).alloc (.cells #[.int .i64 a.kind,.int .i64 a.num,.string (bs a.name),.int .i64 a.off,.slice xA xn xc,.int .i64 b.kind,.int .i64 b.num,.string (bs b.name),.int .i64 b.off,.slice yA yn yc] 103)).alloc (.cells #[.int .i64 kk,.int .i64 0,.string ⟨#[]⟩,.int .i64 a.off,.slice (some ⟨w6.heap.size+1,0,none⟩) 2 2] 103)).heap[tb]?=_):=(hB7.block tb (by have:=HLT7.out;omega)).trans HT7.out;have HN7:=Zh hN7;have HS7:=Zh hs7;clear hs7 b5 z5 hN7 hB7 HBX HBB HT7 HS6;generalize (((w6.alloc (.cells #[.int .i64 b.kind,.int .i64 b.num,.string (bs b.name),.int .i64 b.off,.slice yA yn yc] 103)).alloc (.cells #[.int .i64 a.kind,.int .i64 a.num,.string (bs a.name),.int .i64 a.off,.slice xA xn xc,.int .i64 b.kind,.int .i64 b.num,.string (bs b.name),.int .i64 b.off,.slice yA yn yc] 103)).alloc (.cells #[.int .i64 kk,.int .i64 0,.string ⟨#[]⟩,.int .i64 a.off,.slice (some ⟨w6.heap.size+1,0,none⟩) 2 2] 103))=W7 at *;generalize w6.heap.size=s6 at *;have ct:=Ja HT8.out 1;simp only[ZD,ZE,ZF]at ct;have hn:=HN7.out;have hrs:=HCM.out.res;have bc:=Ji hn;have zc:=Ji hrs;have yf:=Jq hrs;have gf:=Jq hn;have pc5:=Ji HBX7.out;have qc5:=Ji HBB7.out;have HRS:=Zh hrs;have hzl:=Jb hrs;have hnl:=Jb hn;have hnz:w.heap.size≠s6+1+1/\s6+1+1≠w.heap.size:=by have:=HCM.out.low;have:=HLT7.out;omega
  clear hn hrs
  rcases HDJ.out with⟨e3,e5,e1,hcn⟩|⟨e3,hcn⟩|⟨e3,e5,hcn⟩|⟨e3,e5,e1,hcn⟩
  ·have HCN:=Zh hcn;clear hcn;go_wp2;refine bodyPost_ret (v:=.agg (Qaa (.mk kk 0 [] a.off (s6+1) 2 [a,b]))) (results_cell_row rfl _ _ w.heap.size 103 _ (0,0) _ rfl (Qct _ _ _ _ _ HRS.out) underlying103 rfl Qaw) rfl ?_;rw[HR.out,HX3.out,HCN.out,Y4];obtain⟨e1,e2,e3,e4⟩:=HCM.out.fin HPL.out HTL.out _ _ _ _ _;exact⟨_,rfl,rfl,e1,e2,⟨k4,rfl,e3⟩,e4⟩
  ·have HCN:=Zh hcn;exact QmD
  ·have HCN:=Zh hcn;exact QmD
  ·have HCN:=Zh hcn;clear hcn;go_wp2;obtain⟨e0,e1,e2,e3,e4⟩:=HCM.out.wrap (cs:=#[.int .i64 kk,.int .i64 0,.string ⟨#[]⟩,.int .i64 a.off,.slice (some ⟨s6+1,0,none⟩) 2 2]) HPL.out HTL.out (by rw[HS7.out]) hnz.2 rfl 7 a.off _ _ _ _ _ _ _ _ _ _;refine bodyPost_ret (v:=.agg (Qaa (.mk 7 0 [] a.off W7.heap.size 1 [.mk kk 0 [] a.off (s6+1) 2 [a,b]]))) (results_cell_row rfl _ _ w.heap.size 103 _ (0,0) _ rfl (VB _ _ _ _ _ _ e0) underlying103 rfl Qaw) rfl ?_;rw[HR.out,HX3.out,HCN.out,Y4]
   exact⟨_,rfl,rfl,e1,e2,⟨k4,rfl,e3⟩,e4⟩):P:=h
theorem QmB{P:Prop}(h:P:=by
  have HFIN:=Zh (fun v0 v1 v2 v3 v4=>HI.out.fin HPL.out HTL.out v0 v1 v2 v3 v4);have hbx:=HI.out.box;have hrs:=HI.out.res;rw[HCF.out]at hbx;have b5:=Ji hbx;have z5:=Ji hrs;have y5:=Jq hrs;have HRS:=Zh hrs;clear hbx hrs HI;go_wp2;refine bodyPost_ret (v:=.agg (Qaa a)) (by rw[HCF.out];exact results_cell_row rfl _ _ w.heap.size 103 _ (0,0) _ rfl (Qct _ _ _ _ _ HRS.out) underlying103 rfl Qaw) rfl ?_;rw[HR.out,HX2.out];obtain⟨e1,e2,e3,e4⟩:=HFIN.out _ _ _ _ _
  exact⟨_,rfl,rfl,e1,e2,⟨k2,rfl,e3⟩,e4⟩):P:=h
theorem Jkc(f p:Nat)(A:Option Addr)(C:Nat)(T:List Tok)
  (I1:∀ k w,PAt w p A C T k->pM f (.level 5) (T.drop k)≠.out->Calls prog 97 #[.pointer (some ⟨p,0,none⟩),.int .i64 5] w (NdP p A C T w (pM f (.level 5) (T.drop k))))
  (k:Nat) (w:World) (h:PAt w p A C T k) (hne:pM (f+1) .cmp (T.drop k)≠.out) :
  Calls prog 114 #[.pointer (some ⟨p,0,none⟩)] w (NdP p A C T w (pM (f+1) .cmp (T.drop k))):=by
 obtain⟨X,hX⟩:∃ X,pM (f+1) .cmp (T.drop k)=X:=⟨_,rfl⟩
 have hcm:=Jlu f (T.drop k);rw[hX]at hne hcm |-;obtain⟨R,hR⟩:∃ R,NdP p A C T w X=R:=⟨_,rfl⟩
 rw[hR];have HR:Hid (R=NdP p A C T w X):=hR.symm;have HNE:=Zh hne;have hZ:=zzw w (.cells #[.int .i64 0,.int .i64 0,.string ⟨#[]⟩,.int .i64 0,.slice none 0 0] 103);have hB:=(Below.refl w.heap.size w).alloc zzl (.cells #[.int .i64 0,.int .i64 0,.string ⟨#[]⟩,.int .i64 0,.slice none 0 0] 103);have HP:=Zh (h.chg hB);have HZ:=Zh hZ;have HB:=Zh hB;have HPL:=Zh h.chg1;have HTL:=Zh h.tokLt;have HLV:=Zh hcm;have hne2:pM f (.level 5) (T.drop k)≠.out:=Ky (by rw[<- HLV.out];exact hne);have hpz:w.heap.size≠p:=by have:=HPL.out;omega
 have HS1:Hid (w.heap.size<(w.alloc (.cells #[.int .i64 0,.int .i64 0,.string ⟨#[]⟩,.int .i64 0,.slice none 0 0] 103)).heap.size):=by rw[Hid,World.size_alloc];exact Nat.lt_succ_self _
 clear h hne hR hZ hB hcm hX;go_enter func114,ntmps114;go_wp2_with fail;refine(I1 k _ HP.out hne2).mono ?_;intro e w2 h2
 cases hx:pM f (.level 5) (T.drop k) with
 |out=>exact absurd hx hne2
 |bad q=>
  rw[hx]at h2;obtain⟨rfl,hc2⟩:=h2;refine⟨rfl,?_⟩;rw[HR.out,HLV.out,hx];exact⟨rfl,(Chg.of_below HB.out [p]).trans hc2⟩
 |ok nd r=>
 rw[hx]at h2;obtain⟨a,hnd,rfl,hat,hmd,⟨k2,hr,hp2⟩,hc2⟩:=h2;subst hnd hr;have hzz:=hc2.heap_some (by simp;exact hpz) HZ.out;have hA2:Below w2.heap.size w2 (w2.alloc (.cells (Qaa a) 103)):=zzb.alloc zzl _;have HLI:Hid (LvI 0 0 0 .out p A C T w (w.alloc (.cells #[.int .i64 0,.int .i64 0,.string ⟨#[]⟩,.int .i64 0,.slice none 0 0] 103)).heap.size w2.heap.size (w2.alloc (.cells (Qaa a) 103)) k2 0 a):=⟨rfl,Nat.le_refl _,hp2.chg hA2,KU hat hmd hA2 zzl,hmd.mono zzl (by simp),zzw _ _,(hA2.block _ (Jb hzz)).trans hzz,((Chg.of_below HB.out [p]).trans hc2).alloc _,⟨HS1.out,by have:=Jb hzz;omega,by have:=hp2.chg1;have:=HPL.out;have:=hc2.size;have:=HS1.out;omega,by have:=Jb hzz;omega⟩,by have:=hc2.size;simp;simp at this;omega,fun hm=>by have:=(hmd.2 _ hm).2;omega⟩
 obtain⟨xA,xn,xc,hcf⟩:=Jf a;have HCF:=Zh hcf;have HX1:Hid (X=match QcS (hd (T.drop k2)) with|none=>.ok a.nd (T.drop k2)|some kk=>(pM f (.level 5) (T.drop (k2+1))).bind fun b r2=>.ok (Qdn (hd (T.drop k2)) kk a.nd b) r2):=by rw[Hid,HLV.out,hx];simp only[PR.bind,tail_drop]
 rw[hcf]at HLI |-;have cp:=Ko p A C T k2 _ HLI.out.pat;have hmr:=fun (e:(hd (T.drop k2)).kind=3)=>HLI.out.pat.more (by rw[e];decide)
 clear hx hat hmd hp2 hc2 hcf hzz hA2 HLV HP HB HZ hne2 HS1;generalize hd (T.drop k2)=t at *;obtain⟨tk,tx,tn,tf⟩:=t;unfold Qgn QcU at cp;simp only at cp hmr;go_wp2_with fail;refine cp.mono ?_;rintro e w3 ⟨rfl,hb3⟩;have hT3:=zzw w3 (.cells #[.int .i64 tk,.string (bs tx),.int .i64 tn,.int .i64 tf] 46);have HI:=Zh ((HLI.out.below hb3).below ((Below.refl w3.heap.size w3).alloc zzl (.cells #[.int .i64 tk,.string (bs tx),.int .i64 tn,.int .i64 tf] 46)));have hs3:w2.heap.size<w3.heap.size:=by have:=hb3.size;simp at this;omega
 generalize hlo:(w.alloc (.cells #[.int .i64 0,.int .i64 0,.string ⟨#[]⟩,.int .i64 0,.slice none 0 0] 103)).heap.size=lo at *;clear HLI hb3 cp hlo;go_upto_region 3 with fail;generalize hW3:w3.alloc (.cells #[.int .i64 tk,.string (bs tx),.int .i64 tn,.int .i64 tf] 46)=W3 at *;have HT:=Zh hT3;have htb:w3.heap.size<W3.heap.size:=Jb HT.out
 have htb2:w2.heap.size<w3.heap.size/\w.heap.size<w2.heap.size/\p<w2.heap.size:=by
  have q1:=HI.out.low;have q2:=HPL.out;exact⟨hs3,by omega,by omega⟩
 clear hW3 hT3 hs3;generalize w3.heap.size=tb at *;generalize w2.heap.size=bx at *;have c0:W3.cell? ⟨tb,0,none⟩=some (.int .i64 tk):=by rw[Ja HT.out];rfl
 have c1:W3.cell? ⟨tb,1,none⟩=some (.string (bs tx)):=by rw[Ja HT.out];rfl
 have u1:=Jl tx
 by_cases h3:tk=3
 ·subst h3;have d3:((3:Int)==3)=true:=by decide
  have hk1:=hmr rfl;have wk:IntKind.i64.wrap ((k2:Int)+1)=(k2:Int)+1:=IntWalk.i64_in _ (by have:=HI.out.pat.room;omega);have pc:=Ja HI.out.pat.self 1;have pf:=Jc HI.out.pat.self 1;simp only[ZD,ZE,ZF]at pc;clear hmr
  by_cases h0:tx=[61,61]
  ·
   have e0:(tx==[61,61])=true:=by rw[h0];decide
   have e1:(tx==[33,61])=false:=by rw[h0];decide
   have e2:(tx==[60])=false:=by rw[h0];decide
   have e3:(tx==[62])=false:=by rw[h0];decide
   have e4:(tx==[60,61])=false:=by rw[h0];decide
   have e5:(tx==[62,61])=false:=by rw[h0];decide
   have HX2:Hid (X=(pM f (.level 5) (T.drop (k2+1))).bind fun b r2=>.ok (Qdn ⟨3,tx,tn,tf⟩ 15 a.nd b) r2):=by rw[Hid,HX1.out,show QcS ⟨3,tx,tn,tf⟩=some 15 from by rw[h0];rfl]
   have HDJ:Hid (CmD tx tn tf 15):=.inl ⟨e3,e5,e1,fun x y=>by rw[h0];rfl⟩;clear HX1 h0;go_upto_region 16 with fail;clear e0 e1 e2 e3 e4 e5;generalize (15:Int)=kk at *;exact bx1
  by_cases h1:tx=[33,61]
  ·
   have e0:(tx==[61,61])=false:=by rw[h1];decide
   have e1:(tx==[33,61])=true:=by rw[h1];decide
   have e2:(tx==[60])=false:=by rw[h1];decide
   have e3:(tx==[62])=false:=by rw[h1];decide
   have e4:(tx==[60,61])=false:=by rw[h1];decide
   have e5:(tx==[62,61])=false:=by rw[h1];decide
   have HX2:Hid (X=(pM f (.level 5) (T.drop (k2+1))).bind fun b r2=>.ok (Qdn ⟨3,tx,tn,tf⟩ 15 a.nd b) r2):=by rw[Hid,HX1.out,show QcS ⟨3,tx,tn,tf⟩=some 15 from by rw[h1];rfl]
   have HDJ:Hid (CmD tx tn tf 15):=.inr (.inr (.inr ⟨e3,e5,e1,fun x y=>by rw[h1];rfl⟩));clear HX1 h0 h1;go_upto_region 16 with fail;clear e0 e1 e2 e3 e4 e5;generalize (15:Int)=kk at *;exact bx1
  by_cases h2:tx=[60]
  ·
   have e0:(tx==[61,61])=false:=by rw[h2];decide
   have e1:(tx==[33,61])=false:=by rw[h2];decide
   have e2:(tx==[60])=true:=by rw[h2];decide
   have e3:(tx==[62])=false:=by rw[h2];decide
   have e4:(tx==[60,61])=false:=by rw[h2];decide
   have e5:(tx==[62,61])=false:=by rw[h2];decide
   have HX2:Hid (X=(pM f (.level 5) (T.drop (k2+1))).bind fun b r2=>.ok (Qdn ⟨3,tx,tn,tf⟩ 13 a.nd b) r2):=by rw[Hid,HX1.out,show QcS ⟨3,tx,tn,tf⟩=some 13 from by rw[h2];rfl]
   have HDJ:Hid (CmD tx tn tf 13):=.inl ⟨e3,e5,e1,fun x y=>by rw[h2];rfl⟩;clear HX1 h0 h1 h2;go_upto_region 16 with fail;clear e0 e1 e2 e3 e4 e5;generalize (13:Int)=kk at *;exact bx1
  by_cases h3:tx=[62]
  ·
   have e0:(tx==[61,61])=false:=by rw[h3];decide
   have e1:(tx==[33,61])=false:=by rw[h3];decide
   have e2:(tx==[60])=false:=by rw[h3];decide
   have e3:(tx==[62])=true:=by rw[h3];decide
   have e4:(tx==[60,61])=false:=by rw[h3];decide
   have e5:(tx==[62,61])=false:=by rw[h3];decide
   have HX2:Hid (X=(pM f (.level 5) (T.drop (k2+1))).bind fun b r2=>.ok (Qdn ⟨3,tx,tn,tf⟩ 13 a.nd b) r2):=by rw[Hid,HX1.out,show QcS ⟨3,tx,tn,tf⟩=some 13 from by rw[h3];rfl]
   have HDJ:Hid (CmD tx tn tf 13):=.inr (.inl ⟨e3,fun x y=>by rw[h3];rfl⟩);clear HX1 h0 h1 h2 h3;go_upto_region 16 with fail;clear e0 e1 e2 e3 e4 e5;generalize (13:Int)=kk at *;exact bx1
  by_cases h4:tx=[60,61]
  ·
   have e0:(tx==[61,61])=false:=by rw[h4];decide
   have e1:(tx==[33,61])=false:=by rw[h4];decide
   have e2:(tx==[60])=false:=by rw[h4];decide
   have e3:(tx==[62])=false:=by rw[h4];decide
   have e4:(tx==[60,61])=true:=by rw[h4];decide
   have e5:(tx==[62,61])=false:=by rw[h4];decide
   have HX2:Hid (X=(pM f (.level 5) (T.drop (k2+1))).bind fun b r2=>.ok (Qdn ⟨3,tx,tn,tf⟩ 14 a.nd b) r2):=by rw[Hid,HX1.out,show QcS ⟨3,tx,tn,tf⟩=some 14 from by rw[h4];rfl]
   have HDJ:Hid (CmD tx tn tf 14):=.inl ⟨e3,e5,e1,fun x y=>by rw[h4];rfl⟩;clear HX1 h0 h1 h2 h3 h4;go_upto_region 16 with fail;clear e0 e1 e2 e3 e4 e5;generalize (14:Int)=kk at *;exact bx1
  by_cases h5:tx=[62,61]
  ·
   have e0:(tx==[61,61])=false:=by rw[h5];decide
   have e1:(tx==[33,61])=false:=by rw[h5];decide
   have e2:(tx==[60])=false:=by rw[h5];decide
   have e3:(tx==[62])=false:=by rw[h5];decide
   have e4:(tx==[60,61])=false:=by rw[h5];decide
   have e5:(tx==[62,61])=true:=by rw[h5];decide
   have HX2:Hid (X=(pM f (.level 5) (T.drop (k2+1))).bind fun b r2=>.ok (Qdn ⟨3,tx,tn,tf⟩ 14 a.nd b) r2):=by rw[Hid,HX1.out,show QcS ⟨3,tx,tn,tf⟩=some 14 from by rw[h5];rfl]
   have HDJ:Hid (CmD tx tn tf 14):=.inr (.inr (.inl ⟨e3,e5,fun x y=>by rw[h5];rfl⟩));clear HX1 h0 h1 h2 h3 h4 h5;go_upto_region 16 with fail;clear e0 e1 e2 e3 e4 e5;generalize (14:Int)=kk at *;exact bx1
  have HX2:Hid (X=.ok a.nd (T.drop k2)):=by rw[Hid,HX1.out,show QcS ⟨3,tx,tn,tf⟩=none from by unfold QcS;simp[h0,h1,h2,h3,h4,h5]]
  have e0:(tx==[61,61])=false:=zzq h0;have e1:(tx==[33,61])=false:=zzq h1;have e2:(tx==[60])=false:=zzq h2;have e3:(tx==[62])=false:=zzq h3;have e4:(tx==[60,61])=false:=zzq h4;have e5:(tx==[62,61])=false:=zzq h5;clear h0 h1 h2 h3 h4 h5 HX1 HT I1;exact QmB
 ·have d3:(tk==3)=false:=zzq h3;have d3':(tk !=3)=true:=by rw[bne,d3];rfl
  have HX2:Hid (X=.ok a.nd (T.drop k2)):=by rw[Hid,HX1.out,show QcS ⟨tk,tx,tn,tf⟩=none from by unfold QcS;rw[if_pos h3]]
  clear h3 hmr I1 HX1 HT;exact QmB
end Go.Proofs.YtdlkcjkjnehnkaaGreatDoor
