import Derived.Deep.LoopGhost
import Derived.Deep.DeepCutAuto
import Derived.Test.YtfafpklefknomaaGreatDoorR00
import Derived.Test.YtfafpklefknomaaGreatDoorR05
open Nat(le_refl)
namespace Go.Proofs.YtfafpklefknomaaGreatDoor
open Go
set_option linter.all false
set_option maxRecDepth 100000
set_option maxHeartbeats 32000000
section
variable {P:Program} {ops:Array Oper} {Q:Exit->Act->World->Prop} {md:Region.Mode} {S:World->Prop} {z:Nat}
def wpL(P:Program)(md:Region.Mode)(ops:Array Oper)(Q:Exit->Act->World->Prop)(S:World->Prop)(z:Nat):Nat->Array Bool->Act->World->Prop
 |0,l,a,w=>Region.ready md ops l=[]/\Q .normal a w
 |n+1,l,a,w=>(Region.ready md ops l=[]->Q .normal a w)/\
  ∀i∈Region.ready md ops l,wpOp P ops Q i (λa' w'=>(i=z\/S w')/\wpL P md ops Q S z n (l.setIfInBounds i true) a' w') a w
def JgV:∀(n:Nat) (l:Array Bool) (a:Act) (w:World),wpL P md ops Q S z n l a w->wpAny P md ops Q n l a w
 |0,_,_,_,h=>h
 |n+1,_,_,_,h=>⟨h.1,λi hi=>wpOp_mono (λa' w' h'=>JgV n _ a' w' h'.2) (h.2 i hi)⟩
def Qgp(md:Region.Mode)(ops:Array Oper)(z i:Nat):Bool:=match ops[z]? with|some o=>o.after.any λe=>Region.binds md e&&e.on==i|none=>true
def JgW{i:Nat}{oi:Oper}{v:Value}(hi:ops[i]?=some oi)(hsel:∀(j:Nat) (o:Oper) cs b,ops[j]?=some o->o.op≠.select cs b)
  (hQ:∀c a w,Q (.panic c) (a.put oi.dst v) w->Q (.panic c) a w) (hz:Qgp md ops z i=true) :
  ∀(n:Nat) (l:Array Bool) (a:Act) (w:World),
   (∀j oj,ops[j]?=some oj->j≠i->l.getD j true=false->(∀e∈oj.after,Region.binds md e=true->e.on≠i)->oi.apart ops oj=true)->
   i∈Region.ready md ops l->YieldsIf P ops S oi v a->S w->wpL P md ops Q S z n (l.setIfInBounds i true) (a.put oi.dst v) w->wpL P md ops Q S z (n+1) l a w:=by
 intro n
 induction n with
 |zero=>
  intro l a w _ hr hy hS H;refine⟨λh=>(by rw[h]at hr;cases hr),λj hj=>?_⟩
  by_cases hji:j=i
  ·subst hji;exact hy.wpOp hi hS ⟨.inr hS,H⟩
  ·have:=ready_mono hj hji;rw[H.1]at this
   cases this
 |succ n ih=>
  intro l a w xA hr hy hS H;refine⟨λh=>(by rw[h]at hr;cases hr),λj hj=>?_⟩
  by_cases hji:j=i
  ·subst hji;exact hy.wpOp hi hS ⟨.inr hS,H⟩
  ·have h1:=H.2 j (ready_mono hj hji);obtain⟨zA,oj,vA,aA⟩:=mem_ready.1 hj
   have uA:∀e∈oj.after,Region.binds md e=true->e.on≠i:=λe he hb heq=>by
    have h1:=aA e he hb;have h0:=(mem_ready.1 hr).1;rw[heq]at h1
    rcases Nat.lt_or_ge i l.size with h'|h'
    ·simp[h']at h0 h1;rw[h0]at h1;cases h1
    ·simp[Array.getElem?_eq_none h']at h1
   have cA:j≠z:=λe=>by
    subst e;unfold Qgp at hz;rw[vA]at hz;obtain⟨e,he,hb⟩:=Array.any_eq_true'.1 hz;simp only[Bool.and_eq_true,beq_iff_eq]at hb;exact uA e he hb.1 hb.2
   have h2:=wpOp_putIf vA (xA j oj vA hji zA uA) (λcs b=>hsel i oi cs b hi) (λcs b=>hsel j oj cs b vA) hQ hy h1
   have yA:∀k ok,ops[k]?=some ok->k≠i->(l.setIfInBounds j true).getD k true=false->
     (∀e∈ok.after,Region.binds md e=true->e.on≠i)->oi.apart ops ok=true:=λk ok hk hki hun hno=>by
    refine xA k ok hk hki ?_ hno
    by_cases hjk:j=k
    ·subst hjk;exact zA
    ·rw[getD_set_ne true hjk]at hun;exact hun
   refine wpOp_mono (λa' w' h3=>?_) h2;have bA:S w':=h3.2.1.resolve_left cA;refine⟨.inr bA,ih (l.setIfInBounds j true) a' w' yA (ready_mono hr (Ne.symm hji)) h3.1 bA ?_⟩;rw[Array.setIfInBounds_comm _ _ hji];exact h3.2.2
def LK(i:Nat){d:Option Tmp}{o:Op}{t:TypeId}{p:String}{af:Array Edge}{g:Option (Nat × Bool)}{v:Value}{n:Nat}{l:Array Bool}{a a':Act}{w:World}(hi:ops[i]?=some ⟨d,o,t,p,af,g⟩)
  (h:wpL P md ops Q S z n (l.setIfInBounds i true) a' w)
  (hy:YieldsIf P ops S ⟨d,o,t,p,af,g⟩ v a:=by exact Or.inl ⟨by rfl,by intro wX hSw;(try dsimp only at hSw);go_simp<;>with_reducible rfl⟩)
  (ha:a.put d v=a':=by(simp only[zX]);rfl)
  (hS:S w:=by assumption) (hs:Region.noSelect ops=true:=by kernel_rfl) (hf:Region.free md ops l i=true:=by kernel_rfl) (hr:(Region.ready md ops l).contains i=true:=by kernel_rfl) (hz:Qgp md ops z i=true:=by kernel_rfl)
  (hQ:∀c a w,Q (.panic c) (a.put d v) w->Q (.panic c) a w:=by exact λ_ _ _ h=>h):wpL P md ops Q S z (n+1) l a w:=by
 subst ha;exact JgW hi (Region.noSelect_spec hs) hQ hz n l a w (Region.free_spec hi hf) (by simpa using hr) hy hS h
section
variable (i:Nat){d:Option Tmp}{oo:Op}{t:TypeId}{p:String}{af:Array Edge}{g:Option (Nat × Bool)}{n:Nat}{l:Array Bool}{a:Act}{w:World}(ho:ops[i]?=some ⟨d,oo,t,p,af,g⟩)
include i d oo t p af g n l a w ho
theorem LO
  (h:∀K':Act->World->Prop,Shut (∀a w,S w->(S w->wpL P md ops Q S z n (l.setIfInBounds i true) a w)->K' a w)->if Region.wanted ⟨d,oo,t,p,af,g⟩ (yielded ops a.tmps)=true then Oper.wp P ⟨d,oo,t,p,af,g⟩ a w K' Q else K' (a.put d undef) w)
  (hr:Region.ready md ops l=[i]:=by kernel_rfl):wpL P md ops Q S z (n+1) l a w:=by
 refine⟨λh0=>absurd (hr ▸ h0) zq,λj hj=>?_⟩;rw[hr]at hj;obtain rfl:j=i:=by simpa using hj
 exact wpOp_step ho λK' hK=>h K' λa w hS hW=>hK a w ⟨.inr hS,hW hS⟩
theorem LZ
  (h:∀K':Act->World->Prop,Shut (∀a w,Q .normal a w->K' a w)->if Region.wanted ⟨d,oo,t,p,af,g⟩ (yielded ops a.tmps)=true then Oper.wp P ⟨d,oo,t,p,af,g⟩ a w K' Q else K' (a.put d undef) w)
  (hr:Region.ready md ops l=[i]:=by kernel_rfl) (hz:i=z:=by rfl) (hd:Region.ready md ops (l.setIfInBounds i true)=[]:=by kernel_rfl):wpL P md ops Q S z (n+1) l a w:=by
 refine⟨λh0=>absurd (hr ▸ h0) zq,λj hj=>?_⟩;rw[hr]at hj;obtain rfl:j=i:=by simpa using hj
 refine wpOp_step ho λK' hK=>h K' λa w hq=>hK a w ⟨.inl hz,?_⟩
 cases n with
 |zero=>exact⟨hd,hq⟩
 |succ n=>exact⟨λ_=>hq,by rw[hd];simp⟩
end
def LB(S:World->Prop)(z:Nat){id:Nat}{a:Act}{w:World}(hS:S w.drew)(h:S w.drew->wpL P .any ops Q S z ops.size (Array.replicate ops.size false) a w.drew)(hm:P.follows .mixedOrders=true:=by kernel_rfl):(Code.region id ops true).wp P Q a w:=
 wp_region_any hm (JgV _ _ _ _ (h hS))
end
open Go.ChangeShapes Go.WideShapes Go.ChangeAt Go.RowKit Go.Lib
open _root_.Go.Proofs.Tryz
def Jju(f lv:Nat)(h3:lv≠3)(h7:lv≠7)(r:List Tok):pM (f+1) (.level lv) r=(pM f (.level (lv+1)) r).bind λa r1=>pM f (.loop lv (hd r).off a) r1:=by rw[pM,if_neg h3,if_neg h7]
def Jci(f lv:Nat)(o:Int)(a:Nd){r:List Tok}(h:opK lv (hd r)=none):pM (f+1) (.loop lv o a) r=.ok a r:=by rw[pM,h]
def Jcj(f lv:Nat)(o:Int)(a:Nd){r:List Tok}{k:Int}(h:opK lv (hd r)=some k):pM (f+1) (.loop lv o a) r=(pM f (.level (lv+1)) r.tail).bind λb r1=>pM f (.loop lv o (.mk k 0 [] o [a,b])) r1:=by rw[pM,h]
structure LvI(f lv:Nat)(of:Int)(X:PR Nd)(p:Nat)(A:Option Addr)(C:Nat)(T:List Tok)(w:World)(lo bx:Nat)(wr:World)(k2 f1:Nat)(a:An):Prop where
 eq:pM f1 (.loop lv of a.nd) (T.drop k2)=X
 le:f1<=f
 pat:PAt wr p A C T k2
 at':a.At wr
 made:Qce lo wr.heap.size a
 box:wr.heap[bx]?=some (.cells (Qaa a) 127 (0,0))
 res:wr.heap[w.heap.size]?=some (.cells #[Iv 0,Iv 0,Em,Iv 0,Nl] 127 (0,0))
 chg:Chg [p] w wr
 low:w.heap.size<lo/\bx≠w.heap.size/\bx≠p/\w.heap.size<=bx
 lle:lo<=wr.heap.size
 nbx:bx∉foot a
def LvI.below{f lv:Nat}{of:Int}{X:PR Nd}{p:Nat}{A:Option Addr}{C:Nat}{T:List Tok}{w:World}{lo bx:Nat}{wr wr':World}{k2 f1:Nat}{a:An}(h:LvI f lv of X p A C T w lo bx wr k2 f1 a)(hb:Below wr.heap.size wr wr'):LvI f lv of X p A C T w lo bx wr' k2 f1 a:=
 ⟨h.eq,h.le,h.pat.chg hb,K1 h.at' h.made hb zP,h.made.mono zP hb.size,(hb.block _ (Jb h.box)).trans h.box,(hb.block _ (Jb h.res)).trans h.res,h.chg.trans (Chg.of_below hb [p]),h.low,Nat.le_trans h.lle hb.size,h.nbx⟩
def LvI.fin{f lv:Nat}{of:Int}{X:PR Nd}{p:Nat}{A:Option Addr}{C:Nat}{T:List Tok}{w:World}{lo bx:Nat}{wr:World}{k2 f1:Nat}{a:An}(h:LvI f lv of X p A C T w lo bx wr k2 f1 a)(hp:p<w.heap.size)(hT:∀b o,A=some ⟨b,o,none⟩->b<w.heap.size)(v0 v1 v2 v3 v4:Value) :
  a.At (put5 wr w.heap.size v0 v1 v2 v3 v4)/\Qce w.heap.size (put5 wr w.heap.size v0 v1 v2 v3 v4).heap.size a/\PAt (put5 wr w.heap.size v0 v1 v2 v3 v4) p A C T k2/\Chg [p] w (put5 wr w.heap.size v0 v1 v2 v3 v4):=by
 have hc:=Kj (S:=[w.heap.size]) (W:=wr) v0 v1 v2 v3 v4 (by simp:w.heap.size∈[w.heap.size]);refine⟨JaE h.at' h.made hc zP λb hb=>by have:=h.low.1;simp at hb;omega,?_,h.pat.put5 (Ne.symm (Nat.ne_of_lt hp)) (λb o e=>by have:=hT b o e;omega) _ _ _ _ _,h.chg.step hc λb hb=>.inr (by simp at hb;omega)⟩;rw[Kl];exact h.made.mono (Nat.le_of_lt h.low.1) zP
def Jjv{lv:Nat}{t:Tok}{k:Int}(h:opK lv t=some k):t.kind≠4:=by
 intro e;unfold opK at h;rw[if_neg (by rw[e];simp),if_neg (by rw[e];simp),if_pos (by rw[e];decide)]at h
 cases h
def LvI.step{f lv:Nat}{of:Int}{X:PR Nd}{p:Nat}{A:Option Addr}{C:Nat}{T:List Tok}{w:World}{lo bx:Nat}{wr w5 w6:World}{k2 k4 f2:Nat}{kk:Int}{a b:An}{cs:Array Value}(h:LvI f lv of X p A C T w lo bx wr k2 (f2+1) a)
  (hc5:Chg [p] wr w5) (hbt:b.At w6) (hbm:Qce w5.heap.size w6.heap.size b) (hp4:PAt w6 p A C T k4) (hc6:Chg [p] w5 w6) (hT:∀b o,A=some ⟨b,o,none⟩->b<w.heap.size) (hp:p<w.heap.size)
  (he:pM f2 (.loop lv of (.mk kk 0 [] of [a.nd,b.nd])) (T.drop k4)=X) (hcs:cs.toList=Qdb [a,b]) :
  LvI f lv of X p A C T w lo bx ((put5 w6 bx (Iv kk) (Iv 0) (.string (bs [])) (Iv of) (.slice (some ⟨w6.heap.size,0,none⟩) 2 2)).alloc (.cells cs 127)) k4 f2 (.mk kk 0 [] of w6.heap.size 2 [a,b]):=by
 obtain⟨l1,l2,l3,l4⟩:=h.low;have hsz:=Kl w6 bx (Iv kk) (Iv 0) (.string (bs [])) (Iv of) (.slice (some ⟨w6.heap.size,0,none⟩) 2 2);have hch:=Kj (S:=[bx]) (W:=w6) (Iv kk) (Iv 0) (.string (bs [])) (Iv of) (.slice (some ⟨w6.heap.size,0,none⟩) 2 2) (by simp:bx∈[bx]);have h6:=hc5.trans hc6;have zA:=h6.heap_some (by simpa using l3) h.box;have yA:=h6.heap_some zr h.res;have uA:=zQ (put5 w6 bx (Iv kk) (Iv 0) (.string (bs [])) (Iv of) (.slice (some ⟨w6.heap.size,0,none⟩) 2 2)) (.cells cs 127);rw[hsz]at uA
 have vA:∀q,q<w6.heap.size->q≠bx->((put5 w6 bx (Iv kk) (Iv 0) (.string (bs [])) (Iv of) (.slice (some ⟨w6.heap.size,0,none⟩) 2 2)).alloc (.cells cs 127)).heap[q]?=w6.heap[q]?:=λq hq hn=>
  (Below.heap_alloc _ _ _ (by rw[hsz];exact hq)).trans (hch.block q hq (by simpa using hn))
 have dA:p<lo:=zo;have cA:Qce lo w5.heap.size a:=h.made.mono zP hc5.size;have hl5:lo<=w5.heap.size:=Nat.le_trans h.lle hc5.size;have eA:Qdi lo w6.heap.size [a,b]:=⟨w5.heap.size,hl5,cA,w6.heap.size,hc6.size,hbm,le_refl _⟩
 have hb5:bx<w5.heap.size:=Nat.lt_of_lt_of_le (Jb h.box) hc5.size;have bA:w.heap.size<w6.heap.size:=Jb yA;refine⟨he,by have:=h.le;omega,?_,?_,?_,?_,?_,?_,h.low,?_,?_⟩
 ·exact(hp4.put5 l3 (λq o e=>by have:=hT q o e;omega) _ _ _ _ _).chg (zO.alloc zP _)
 ·unfold An.At;refine⟨λ_ j=>Jc uA j,KN [a,b] 0 (λj u hu=>?_) λx hx=>?_⟩
  ·rw[Nat.zero_mul,Nat.zero_add];exact KP uA (by rw[hcs];exact hu)
  ·rcases List.mem_cons.1 hx with rfl|hx
   ·refine JK _ h.at' λq hq=>?_
    have aA:=h.made.2 q hq;exact(vA q (Nat.lt_of_lt_of_le aA.2 h6.size) λe=>h.nbx (e ▸ hq)).trans (h6.block q aA.2 zr)
   ·obtain rfl:x=b:=by simpa using hx
    refine JK _ hbt λq hq=>?_
    have aA:=hbm.2 q hq;exact vA q aA.2 zo
 ·rw[World.size_alloc,hsz];exact JbZ eA zP kk 0 [] of 2
 ·obtain⟨xA,xn,xc,hcf⟩:=Jg a;rw[hcf]at zA;exact V6 _ _ _ _ _ _ zA
 ·exact(vA _ bA (Ne.symm l2)).trans yA
 ·exact((h.chg.trans h6).step hch λq hq=>.inr (by simp at hq;omega)).alloc _
 ·rw[World.size_alloc,hsz];have:=hc6.size;omega
 ·unfold foot;simp only[List.mem_cons,List.mem_append,Qak,List.append_nil];rintro (h1|h1|h1)
  ·have:=hc6.size;omega
  ·exact h.nbx h1
  ·have:=(hbm.2 _ h1).1;omega
def Yi(lv:Nat)(z z1:Int)(hlv:lv≠3/\lv≠7)(hz3:(z==3)=false)(hz7:(z==7)=false)(hz:IntKind.i64.wrap (z+1)=z1)(oper:∀(t:Tok) (w:World),Calls prog 160 #[Iv z,.agg (Qda t)] w (OpP w (opK lv t)))(f p:Nat)(A:Option Addr)(C:Nat)(T:List Tok)
  (I1:∀g,g<=f->∀k w,PAt w p A C T k->pM g (.level (lv+1)) (T.drop k)≠.out->Calls prog 136 #[Pt p,Iv z1] w (NdP p A C T w (pM g (.level (lv+1)) (T.drop k))))
  (k:Nat) (w:World) (h:PAt w p A C T k) (hne:pM (f+1) (.level lv) (T.drop k)≠.out) :
  Calls prog 136 #[Pt p,Iv z] w (NdP p A C T w (pM (f+1) (.level lv) (T.drop k))):=by
 obtain⟨X,hX⟩:∃X,pM (f+1) (.level lv) (T.drop k)=X:=⟨_,rfl⟩
 have uA:=Jju f lv hlv.1 hlv.2 (T.drop k);rw[hX]at hne uA |-;obtain⟨R,hR⟩:∃R,NdP p A C T w X=R:=⟨_,rfl⟩
 rw[hR];have HR:Hi (R=NdP p A C T w X):=hR.symm;have HNE:=Zh hne;have hZ:=zQ w (.cells #[Iv 0,Iv 0,Em,Iv 0,Nl] 127);have hB:=(Below.refl w.heap.size w).alloc zP (.cells #[Iv 0,Iv 0,Em,Iv 0,Nl] 127);have cp:=Kp p A C T k _ (h.chg hB);obtain⟨of,vB⟩:∃of,(hd (T.drop k)).off=of:=⟨_,rfl⟩
 unfold Qfh at cp;have hfl:∀(t:Tok) (W:World),(Instr.field 134 (.agg (Qda t)) 3).run prog W=.ok (Iv t.off) W:=λt W=>by obtain⟨a,b,c,d⟩:=t;kernel_rfl
 have rA:=hfl (hd (T.drop k));rw[vB]at rA uA;generalize Qda (hd (T.drop k))=tv at *;have HP:=Zh (h.chg hB);have HZ:=Zh hZ;have HB:=Zh hB;have HPL:=Zh h.chg1;have HTL:=Zh h.tokLt;have gA:=Zh uA;have hne2:pM f (.level (lv+1)) (T.drop k)≠.out:=KB (by rw[<- gA.o];exact hne);clear h hne hR hZ hB hfl vB uA hX;go_enter func136,ntmps136;go_wp2_with fail;refine cp.mono ?_;rintro e w1 ⟨rfl,hb1⟩;have HP1:=Zh (HP.o.chg hb1);have sA:Hi (w1.heap[w.heap.size]?=some (.cells #[Iv 0,Iv 0,Em,Iv 0,Nl] 127)):=(hb1.block _ (Jb HZ.o)).trans HZ.o;have nA:=Zh (HB.o.trans (hb1.mono HB.o.size));have zB:Hi (w.heap.size<w1.heap.size):=Jb sA.o;have hpz:w.heap.size≠p:=by have:=HPL.o;omega
 clear cp hb1 HP HZ HB;go_wp2_with fail;refine(I1 f zP k w1 HP1.o hne2).mono ?_;intro e w2 h2
 cases hx:pM f (.level (lv+1)) (T.drop k) with
 |out=>exact absurd hx hne2
 |bad q=>
  rw[hx]at h2;obtain⟨rfl,hc2⟩:=h2;refine⟨rfl,?_⟩;rw[HR.o,gA.o,hx];exact⟨rfl,(Chg.of_below nA.o [p]).trans hc2⟩
 |ok nd r=>
 rw[hx]at h2;obtain⟨a,iB,rfl,hat,hmd,⟨k2,hr,hp2⟩,hc2⟩:=h2;subst iB hr;have hzz:=hc2.heap_some (by simp;exact hpz) sA.o;have eA:Below w2.heap.size w2 (w2.alloc (.cells (Qaa a) 127)):=zO.alloc zP _;have kA:Hi (∃k2 a',LvI f lv of X p A C T w w1.heap.size w2.heap.size (w2.alloc (.cells (Qaa a) 127)) k2 f a'):=⟨k2,a,by rw[gA.o,hx];rfl,le_refl _,hp2.chg eA,K1 hat hmd eA zP,hmd.mono zP zq,zQ _ _,(eA.block _ (Jb hzz)).trans hzz,((Chg.of_below nA.o [p]).trans hc2).alloc _,⟨zB.o,by have:=Jb hzz;omega,by have:=hp2.chg1;have:=HPL.o;have:=hc2.size;have:=zB.o;omega,by have:=Jb hzz;omega⟩,by have:=hc2.size;simp;omega,λhm=>by have:=(hmd.2 _ hm).2;omega⟩
 obtain⟨xA,xn,xc,hcf⟩:=Jg a;rw[hcf]at kA |-;clear hx hat hmd hp2 hc2 hcf hzz eA gA sA HP1 nA hne2;go_wp2;generalize gB:World.alloc w2 _=wb at *;clear gB;generalize w2.heap.size=bx at *;generalize w1.heap.size=lo at *;go_loopg [] f λg wr=>Hi (∃k2 a,LvI f lv of X p A C T w lo bx wr k2 g a)
 case atStart=>exact kA
 case round=>
 clear kA;obtain⟨wl,rfl⟩:=zJ wr;obtain⟨k2,a,hI⟩:=hrel.o
 cases gk with
 |zero=>exact absurd hI.eq.symm HNE.o
 |succ f2=>
 have cp:=Kp p A C T k2 wl hI.pat;have co:=λW=>oper (hd (T.drop k2)) W
 obtain⟨op,iA⟩:∃op,opK lv (hd (T.drop k2))=op:=⟨_,rfl⟩
 have uB:∀kk,op=some kk->(hd (T.drop k2)).kind≠4:=λkk e=>Jjv (iA.trans e)
 have vA:∀kk,op=some kk->k2+1<T.length:=λkk e=>hI.pat.more (uB kk e)
 unfold Qfh at cp;unfold OpP at co;rw[iA]at co;have HI:=Zh hI;have hA:=Zh iA;have mA:=Zh vA;generalize Qda (hd (T.drop k2))=tv2 at *;clear hI iA uB vA hrel;go_wp2_with fail;refine cp.mono ?_;rintro e w3 ⟨rfl,dB⟩;go_wp2_with fail;refine(co _).mono ?_;rintro e w4 ⟨rfl,bB⟩;have zA:=(HI.o.below dB).below bB;clear cp co dB bB
 cases op with
 |none=>
  have aA:=(Jci f2 lv of a.nd hA.o).symm.trans HI.o.eq;obtain⟨xA,xn,xc,hcf⟩:=Jg a;have HFIN:=Zh λv0 v1 v2 v3 v4=>zA.fin HPL.o HTL.o v0 v1 v2 v3 v4;have hbx:=zA.box;have hrs:=zA.res;rw[hcf]at hbx;obtain⟨b0,b1,b2,b3,b4⟩:=Jl hbx;obtain⟨z0,z1,z2,z3,z4⟩:=Jl hrs;have hf:=λj=>Jc hrs j
  have y0:=hf 0;have y1:=hf 1;have y2:=hf 2;have y3:=hf 3;have y4:=hf 4;have HRS:=Zh hrs;have HCF:=Zh hcf;have HX2:=Zh aA;clear hf hbx hrs zA hcf aA HI hA mA I1;simp only[Option.getD,Option.isSome];go_wp2;refine bodyPost_ret (v:=.agg (Qaa a)) (by rw[HCF.o];exact results_cell_row rfl _ _ w.heap.size 127 _ (0,0) _ rfl (Qcv _ _ _ _ _ HRS.o) underlying127 rfl Qau) rfl ?_;rw[HR.o,<- HX2.o];obtain⟨e1,e2,e3,e4⟩:=HFIN.o _ _ _ _ _;exact⟨_,rfl,rfl,e1,e2,⟨k2,rfl,e3⟩,e4⟩
 |some kk=>
  have aA:=(Jcj f2 lv of a.nd hA.o).symm.trans HI.o.eq;rw[tail_drop]at aA;have hne3:pM f2 (.level (lv+1)) (T.drop (k2+1))≠.out:=KB (by rw[aA];exact HNE.o);have hk1:=mA.o kk rfl;have wk:IntKind.i64.wrap ((k2:Int)+1)=(k2:Int)+1:=IntWalk.i64_in _ (zu zA.pat.room);have pc:=Ja zA.pat.self 1;have pf:=Jc zA.pat.self 1;simp only[zW]at pc;have cA:=Zh zA;have qA:=Zh aA;have eB:f2<=f:=by have:=cA.o.le;omega
  clear HI hA mA aA zA;simp only[Option.getD,Option.isSome];go_upto_region 16 with fail;obtain⟨w5,jA⟩:∃w5,w4.setCell ⟨p,1,none⟩ (Iv ((k2:Int)+1))=w5:=⟨_,rfl⟩
  rw[jA];have tA:Below w5.heap.size w5 w5.drew:=(Below.refl w5.heap.size w5).drew
  have HC3:Hi (Chg [p] w4 w5.drew):=by
   have h5:=(Chg.of_below (Below.refl w4.heap.size w4) [p]).setCell (.inl (by simp:p∈[p])) (p:=⟨p,1,none⟩) (Iv ((k2:Int)+1));rw[jA]at h5;exact h5.trans (Chg.of_below tA [p])
  have HP3:Hi (PAt w5.drew p A C T (k2+1)):=by
   have h5:=cA.o.pat.next hk1;rw[show (w4.setCell ⟨p,1,none⟩ (Iv ((k2+1:Nat):Int)))=w5 from jA]at h5;exact h5.chg tA
  have yB:Hi (bx≠p/\True):=⟨cA.o.low.2.2.1,trivial⟩
  obtain⟨aB,xB,cB,hcf⟩:=Jg a;have bA:=HC3.o.heap_some (by simp;exact yB.o.1) cA.o.box;rw[hcf]at bA;have HBX:=Zh bA;have HCF:=Zh hcf;clear bA hcf tA pc pf jA;have h5:=Jl HBX.o;refine LB (λW=>C5 W bx (Iv a.kind) (Iv a.num) (.string (bs a.name)) (Iv a.off) (.slice aB xB cB)) 9 (by simp[*,C5,World.cell?_alloc_some,World.cell?_setCell_far]) λhH=>?_
  refine LK 0 rfl ?_;refine LK 1 rfl ?_;refine LK 2 rfl ?_;refine LK 3 rfl ?_;refine LK 4 rfl ?_;refine LK 5 rfl ?_;refine LO 6 rfl λK hK=>?_
  go_simp;go_at_call 136;refine NdP.call (I1 f2 zo (k2+1) _ HP3.o hne3) hne3 (λq _ hx hc6=>by exact⟨rfl,by rw[HR.o,<- qA.o,hx];exact⟨rfl,(cA.o.chg.trans HC3.o).trans hc6⟩⟩) λb w6 k4 yA yn yc hx hcg B6=>?_
  have dA:=Zh B6;have HX4:=Zh hx;have HCG:=Zh hcg;have hbx:=B6.2.2.2.heap_some (by simp;exact yB.o.1) HBX.o;replace h5:=Jl hbx;have f5:=Js hbx;have pA:=Jb hbx;clear hx hcg B6 hne3 hbx;refine zU hK (h5) λhH=>?_
  clear hK K;refine LO 7 rfl λK hK=>?_
  go_simp;refine zU hK (by simp[*,C5,World.cell?_alloc_some,World.cell?_setCell_far]) λhH=>?_
  clear hK K;refine LK 8 rfl ?_;refine LZ 9 rfl λK hK=>?_
  go_simp;refine hK.out _ _ ?_;clear hK K;have HST:=Zh (LvI.step (cs:=#[Iv a.kind,Iv a.num,.string (bs a.name),Iv a.off,.slice aB xB cB,Iv b.kind,Iv b.num,.string (bs b.name),Iv b.off,.slice yA yn yc]) cA.o HC3.o dA.o.1 dA.o.2.1 dA.o.2.2.1 dA.o.2.2.2 HTL.o HPL.o (by rw[<- qA.o,HX4.o];rfl) (by simp[Qdb,HCF.o,HCG.o]));clear HBX dA HX4 HCG HCF qA pA;go_wp2;go_roundg f2
  case measure=>exact Nat.lt_succ_self _
  case rel=>exact⟨_,_,HST.o⟩
section
variable (f p:Nat)(A:Option Addr)(C:Nat)(T:List Tok)
include f p A C T
theorem JlK(I1:∀g,g<=f->∀k w,PAt w p A C T k->pM g (.level 2) (T.drop k)≠.out->Calls prog 136 #[Pt p,Iv 2] w (NdP p A C T w (pM g (.level 2) (T.drop k)))):∀k w,PAt w p A C T k->pM (f+1) (.level 1) (T.drop k)≠.out->Calls prog 136 #[Pt p,Iv 1] w (NdP p A C T w (pM (f+1) (.level 1) (T.drop k))):=Yi 1 1 2 zp rfl rfl zp Jnt f p A C T I1
theorem JlL(I1:∀g,g<=f->∀k w,PAt w p A C T k->pM g (.level 3) (T.drop k)≠.out->Calls prog 136 #[Pt p,Iv 3] w (NdP p A C T w (pM g (.level 3) (T.drop k)))):∀k w,PAt w p A C T k->pM (f+1) (.level 2) (T.drop k)≠.out->Calls prog 136 #[Pt p,Iv 2] w (NdP p A C T w (pM (f+1) (.level 2) (T.drop k))):=Yi 2 2 3 zp rfl rfl zp Jnu f p A C T I1
theorem JlM(I1:∀g,g<=f->∀k w,PAt w p A C T k->pM g (.level 6) (T.drop k)≠.out->Calls prog 136 #[Pt p,Iv 6] w (NdP p A C T w (pM g (.level 6) (T.drop k)))):∀k w,PAt w p A C T k->pM (f+1) (.level 5) (T.drop k)≠.out->Calls prog 136 #[Pt p,Iv 5] w (NdP p A C T w (pM (f+1) (.level 5) (T.drop k))):=Yi 5 5 6 zp rfl rfl zp Jnv f p A C T I1
theorem JlN(I1:∀g,g<=f->∀k w,PAt w p A C T k->pM g (.level 7) (T.drop k)≠.out->Calls prog 136 #[Pt p,Iv 7] w (NdP p A C T w (pM g (.level 7) (T.drop k)))):∀k w,PAt w p A C T k->pM (f+1) (.level 6) (T.drop k)≠.out->Calls prog 136 #[Pt p,Iv 6] w (NdP p A C T w (pM (f+1) (.level 6) (T.drop k))):=Yi 6 6 7 zp rfl rfl zp Jnw f p A C T I1
end
end Go.Proofs.YtfafpklefknomaaGreatDoor
