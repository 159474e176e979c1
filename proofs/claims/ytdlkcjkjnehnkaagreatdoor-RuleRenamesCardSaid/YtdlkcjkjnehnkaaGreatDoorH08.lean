import Derived.Deep.LoopGhost
import Derived.Deep.DeepCutAuto
import Derived.Test.YtdlkcjkjnehnkaaGreatDoorH07
namespace Go.Proofs.YtdlkcjkjnehnkaaGreatDoor
open Go
open _root_.Go.Proofs.Tryz
set_option linter.all false
set_option maxRecDepth 100000
set_option maxHeartbeats 32000000
section
variable {P:Program} {ops:Array Oper} {Q:Exit->Act->World->Prop} {md:Region.Mode} {S:World->Prop} {z:Nat}
def wpL(P:Program)(md:Region.Mode)(ops:Array Oper)(Q:Exit->Act->World->Prop)(S:World->Prop)(z:Nat):Nat->Array Bool->Act->World->Prop
 |0,l,a,w=>Region.ready md ops l=[]/\Q .normal a w
 |n+1,l,a,w=>(Region.ready md ops l=[]->Q .normal a w)/\
  ∀ i∈Region.ready md ops l,wpOp P ops Q i (fun a' w'=>(i=z\/S w')/\wpL P md ops Q S z n (l.setIfInBounds i true) a' w') a w
theorem Y3:∀ (n:Nat) (l:Array Bool) (a:Act) (w:World),wpL P md ops Q S z n l a w->wpAny P md ops Q n l a w
 |0,_,_,_,h=>h
 |n+1,_,_,_,h=>⟨h.1,fun i hi=>wpOp_mono (fun a' w' h'=>Y3 n _ a' w' h'.2) (h.2 i hi)⟩
def QeY(md:Region.Mode)(ops:Array Oper)(z i:Nat):Bool:=match ops[z]? with|some o=>o.after.any fun e=>Region.binds md e&&e.on==i|none=>true
theorem JfC{i:Nat}{oi:Oper}{v:Value}(hi:ops[i]?=some oi)(hsel:∀ (j:Nat) (o:Oper) cs b,ops[j]?=some o->o.op≠.select cs b)
  (hQ:∀ c a w,Q (.panic c) (a.put oi.dst v) w->Q (.panic c) a w) (hz:QeY md ops z i=true) :
  ∀ (n:Nat) (l:Array Bool) (a:Act) (w:World),
   (∀ j oj,ops[j]?=some oj->j≠i->l.getD j true=false->(∀ e∈oj.after,Region.binds md e=true->e.on≠i)->oi.apart ops oj=true)->
   i∈Region.ready md ops l->YieldsIf P ops S oi v a->S w->wpL P md ops Q S z n (l.setIfInBounds i true) (a.put oi.dst v) w->wpL P md ops Q S z (n+1) l a w:=by
 intro n
 induction n with
 |zero=>
  intro l a w _ hr hy hS H;refine⟨fun h=>(by rw[h]at hr;cases hr),fun j hj=>?_⟩
  by_cases hji:j=i
  ·subst hji;exact hy.wpOp hi hS ⟨.inr hS,H⟩
  ·have:=ready_mono hj hji;rw[H.1]at this
   cases this
 |succ n ih=>
  intro l a w hfree hr hy hS H;refine⟨fun h=>(by rw[h]at hr;cases hr),fun j hj=>?_⟩
  by_cases hji:j=i
  ·subst hji;exact hy.wpOp hi hS ⟨.inr hS,H⟩
  ·have h1:=H.2 j (ready_mono hj hji);obtain⟨hjun,oj,hoj,hall⟩:=mem_ready.1 hj
   have hnot:∀ e∈oj.after,Region.binds md e=true->e.on≠i:=fun e he hb heq=>by
    have h1:=hall e he hb;have h0:=(mem_ready.1 hr).1;rw[heq]at h1
    rcases Nat.lt_or_ge i l.size with h'|h'
    ·simp[h']at h0 h1;rw[h0]at h1;cases h1
    ·simp[Array.getElem?_eq_none h']at h1
   have hjz:j≠z:=fun e=>by
    subst e;unfold QeY at hz;rw[hoj]at hz;obtain⟨e,he,hb⟩:=Array.any_eq_true'.1 hz;simp only[Bool.and_eq_true,beq_iff_eq]at hb;exact hnot e he hb.1 hb.2
   have h2:=wpOp_putIf hoj (hfree j oj hoj hji hjun hnot) (fun cs b=>hsel i oi cs b hi) (fun cs b=>hsel j oj cs b hoj) hQ hy h1
   have hfree':∀ k ok,ops[k]?=some ok->k≠i->(l.setIfInBounds j true).getD k true=false->
     (∀ e∈ok.after,Region.binds md e=true->e.on≠i)->oi.apart ops ok=true:=fun k ok hk hki hun hno=>by
    refine hfree k ok hk hki ?_ hno
    by_cases hjk:j=k
    ·subst hjk;exact hjun
    ·rw[getD_set_ne true hjk]at hun;exact hun
   refine wpOp_mono (fun a' w' h3=>?_) h2;have hS':S w':=h3.2.1.resolve_left hjz;refine⟨.inr hS',ih (l.setIfInBounds j true) a' w' hfree' (ready_mono hr (Ne.symm hji)) h3.1 hS' ?_⟩;rw[Array.setIfInBounds_comm _ _ hji];exact h3.2.2
theorem LK(i:Nat){d:Option Tmp}{o:Op}{t:TypeId}{p:String}{af:Array Edge}{g:Option (Nat × Bool)}{v:Value}{n:Nat}{l:Array Bool}{a a':Act}{w:World}(hi:ops[i]?=some ⟨d,o,t,p,af,g⟩)
  (h:wpL P md ops Q S z n (l.setIfInBounds i true) a' w)
  (hy:YieldsIf P ops S ⟨d,o,t,p,af,g⟩ v a:=by exact Or.inl ⟨by rfl,by intro wX hSw;(try dsimp only at hSw);go_simp<;>with_reducible rfl⟩)
  (ha:a.put d v=a':=by(simp only[Act.put,ZA,ZB,ZC]);rfl)
  (hS:S w:=by assumption) (hs:Region.noSelect ops=true:=by kernel_rfl) (hf:Region.free md ops l i=true:=by kernel_rfl) (hr:(Region.ready md ops l).contains i=true:=by kernel_rfl) (hz:QeY md ops z i=true:=by kernel_rfl)
  (hQ:∀ c a w,Q (.panic c) (a.put d v) w->Q (.panic c) a w:=by exact fun _ _ _ h=>h):wpL P md ops Q S z (n+1) l a w:=by
 subst ha;exact JfC hi (Region.noSelect_spec hs) hQ hz n l a w (Region.free_spec hi hf) (by simpa using hr) hy hS h
theorem LO(i:Nat){d:Option Tmp}{oo:Op}{t:TypeId}{p:String}{af:Array Edge}{g:Option (Nat × Bool)}{n:Nat}{l:Array Bool}{a:Act}{w:World}(ho:ops[i]?=some ⟨d,oo,t,p,af,g⟩)
  (h:∀ K':Act->World->Prop,Shut (∀ a w,S w->(S w->wpL P md ops Q S z n (l.setIfInBounds i true) a w)->K' a w)->if Region.wanted ⟨d,oo,t,p,af,g⟩ (yielded ops a.tmps)=true then Oper.wp P ⟨d,oo,t,p,af,g⟩ a w K' Q else K' (a.put d undef) w)
  (hr:Region.ready md ops l=[i]:=by kernel_rfl):wpL P md ops Q S z (n+1) l a w:=by
 refine⟨fun h0=>absurd (hr ▸ h0) (by simp),fun j hj=>?_⟩;rw[hr]at hj;obtain rfl:j=i:=by simpa using hj
 exact wpOp_step ho fun K' hK=>h K' fun a w hS hW=>hK a w ⟨.inr hS,hW hS⟩
theorem LZ(i:Nat){d:Option Tmp}{oo:Op}{t:TypeId}{p:String}{af:Array Edge}{g:Option (Nat × Bool)}{n:Nat}{l:Array Bool}{a:Act}{w:World}(ho:ops[i]?=some ⟨d,oo,t,p,af,g⟩)
  (h:∀ K':Act->World->Prop,Shut (∀ a w,Q .normal a w->K' a w)->if Region.wanted ⟨d,oo,t,p,af,g⟩ (yielded ops a.tmps)=true then Oper.wp P ⟨d,oo,t,p,af,g⟩ a w K' Q else K' (a.put d undef) w)
  (hr:Region.ready md ops l=[i]:=by kernel_rfl) (hz:i=z:=by rfl) (hd:Region.ready md ops (l.setIfInBounds i true)=[]:=by kernel_rfl):wpL P md ops Q S z (n+1) l a w:=by
 refine⟨fun h0=>absurd (hr ▸ h0) (by simp),fun j hj=>?_⟩;rw[hr]at hj;obtain rfl:j=i:=by simpa using hj
 refine wpOp_step ho fun K' hK=>h K' fun a w hq=>hK a w ⟨.inl hz,?_⟩
 cases n with
 |zero=>exact⟨hd,hq⟩
 |succ n=>exact⟨fun _=>hq,by rw[hd];simp⟩
theorem LB(S:World->Prop)(z:Nat){id:Nat}{a:Act}{w:World}(hS:S w.drew)(h:S w.drew->wpL P .any ops Q S z ops.size (Array.replicate ops.size false) a w.drew)(hm:P.follows .mixedOrders=true:=by kernel_rfl):(Code.region id ops true).wp P Q a w:=
 wp_region_any hm (Y3 _ _ _ _ (h hS))
end
open Go.ChangeShapes Go.WideShapes Go.ChangeAt Go.RowKit Go.Lib
theorem JhI(f lv:Nat)(h3:lv≠3)(h7:lv≠7)(r:List Tok):pM (f+1) (.level lv) r=(pM f (.level (lv+1)) r).bind fun a r1=>pM f (.loop lv (hd r).off a) r1:=by rw[pM,if_neg h3,if_neg h7]
theorem Jbe(f lv:Nat)(o:Int)(a:Nd){r:List Tok}(h:opK lv (hd r)=none):pM (f+1) (.loop lv o a) r=.ok a r:=by rw[pM,h]
theorem Jbf(f lv:Nat)(o:Int)(a:Nd){r:List Tok}{k:Int}(h:opK lv (hd r)=some k):pM (f+1) (.loop lv o a) r=(pM f (.level (lv+1)) r.tail).bind fun b r1=>pM f (.loop lv o (.mk k 0 [] o [a,b])) r1:=by rw[pM,h]
structure LvI(f lv:Nat)(of:Int)(X:PR Nd)(p:Nat)(A:Option Addr)(C:Nat)(T:List Tok)(w:World)(lo bx:Nat)(wr:World)(k2 f1:Nat)(a:An):Prop where
 eq:pM f1 (.loop lv of a.nd) (T.drop k2)=X
 le:f1<=f
 pat:PAt wr p A C T k2
 at':a.At wr
 made:QbY lo wr.heap.size a
 box:wr.heap[bx]?=some (.cells (Qaa a) 103 (0,0))
 res:wr.heap[w.heap.size]?=some (.cells #[.int .i64 0,.int .i64 0,.string ⟨#[]⟩,.int .i64 0,.slice none 0 0] 103 (0,0))
 chg:Chg [p] w wr
 low:w.heap.size<lo/\bx≠w.heap.size/\bx≠p/\w.heap.size<=bx
 lle:lo<=wr.heap.size
 nbx:bx∉foot a
theorem LvI.below{f lv:Nat}{of:Int}{X:PR Nd}{p:Nat}{A:Option Addr}{C:Nat}{T:List Tok}{w:World}{lo bx:Nat}{wr wr':World}{k2 f1:Nat}{a:An}(h:LvI f lv of X p A C T w lo bx wr k2 f1 a)(hb:Below wr.heap.size wr wr'):LvI f lv of X p A C T w lo bx wr' k2 f1 a:=
 ⟨h.eq,h.le,h.pat.chg hb,KU h.at' h.made hb zzl,h.made.mono zzl hb.size,(hb.block _ (Jb h.box)).trans h.box,(hb.block _ (Jb h.res)).trans h.res,h.chg.trans (Chg.of_below hb [p]),h.low,Nat.le_trans h.lle hb.size,h.nbx⟩
theorem LvI.fin{f lv:Nat}{of:Int}{X:PR Nd}{p:Nat}{A:Option Addr}{C:Nat}{T:List Tok}{w:World}{lo bx:Nat}{wr:World}{k2 f1:Nat}{a:An}(h:LvI f lv of X p A C T w lo bx wr k2 f1 a)(hp:p<w.heap.size)(hT:∀ b o,A=some ⟨b,o,none⟩->b<w.heap.size)(v0 v1 v2 v3 v4:Value) :
  a.At (put5 wr w.heap.size v0 v1 v2 v3 v4)/\QbY w.heap.size (put5 wr w.heap.size v0 v1 v2 v3 v4).heap.size a/\PAt (put5 wr w.heap.size v0 v1 v2 v3 v4) p A C T k2/\Chg [p] w (put5 wr w.heap.size v0 v1 v2 v3 v4):=by
 have hc:=Ki (S:=[w.heap.size]) (W:=wr) v0 v1 v2 v3 v4 (by simp:w.heap.size∈[w.heap.size]);refine⟨Z2 h.at' h.made hc zzl (fun b hb=>by have:=h.low.1;simp at hb;omega),?_,h.pat.put5 (Ne.symm (Nat.ne_of_lt hp)) (fun b o e=>by have:=hT b o e;omega) _ _ _ _ _,h.chg.step hc fun b hb=>.inr (by simp at hb;omega)⟩;rw[Kk];exact h.made.mono (Nat.le_of_lt h.low.1) zzl
theorem JhJ{lv:Nat}{t:Tok}{k:Int}(h:opK lv t=some k):t.kind≠4:=by
 intro e;unfold opK at h;rw[if_neg (by rw[e];simp),if_neg (by rw[e];simp),if_pos (by rw[e];decide)]at h
 cases h
theorem LvI.step{f lv:Nat}{of:Int}{X:PR Nd}{p:Nat}{A:Option Addr}{C:Nat}{T:List Tok}{w:World}{lo bx:Nat}{wr w5 w6:World}{k2 k4 f2:Nat}{kk:Int}{a b:An}{cs:Array Value}(h:LvI f lv of X p A C T w lo bx wr k2 (f2+1) a)
  (hc5:Chg [p] wr w5) (hbt:b.At w6) (hbm:QbY w5.heap.size w6.heap.size b) (hp4:PAt w6 p A C T k4) (hc6:Chg [p] w5 w6) (hT:∀ b o,A=some ⟨b,o,none⟩->b<w.heap.size) (hp:p<w.heap.size)
  (he:pM f2 (.loop lv of (.mk kk 0 [] of [a.nd,b.nd])) (T.drop k4)=X) (hcs:cs.toList=QcV [a,b]) :
  LvI f lv of X p A C T w lo bx ((put5 w6 bx (.int .i64 kk) (.int .i64 0) (.string (bs [])) (.int .i64 of) (.slice (some ⟨w6.heap.size,0,none⟩) 2 2)).alloc (.cells cs 103)) k4 f2 (.mk kk 0 [] of w6.heap.size 2 [a,b]):=by
 obtain⟨l1,l2,l3,l4⟩:=h.low;have hsz:=Kk w6 bx (.int .i64 kk) (.int .i64 0) (.string (bs [])) (.int .i64 of) (.slice (some ⟨w6.heap.size,0,none⟩) 2 2);have hch:=Ki (S:=[bx]) (W:=w6) (.int .i64 kk) (.int .i64 0) (.string (bs [])) (.int .i64 of) (.slice (some ⟨w6.heap.size,0,none⟩) 2 2) (by simp:bx∈[bx]);have h6:=hc5.trans hc6;have hbox6:=h6.heap_some (by simpa using l3) h.box;have hres6:=h6.heap_some (by simp;omega) h.res;have hnew:=zzw (put5 w6 bx (.int .i64 kk) (.int .i64 0) (.string (bs [])) (.int .i64 of) (.slice (some ⟨w6.heap.size,0,none⟩) 2 2)) (.cells cs 103);rw[hsz]at hnew
 have hold:∀ q,q<w6.heap.size->q≠bx->((put5 w6 bx (.int .i64 kk) (.int .i64 0) (.string (bs [])) (.int .i64 of) (.slice (some ⟨w6.heap.size,0,none⟩) 2 2)).alloc (.cells cs 103)).heap[q]?=w6.heap[q]?:=fun q hq hn=>
  (Below.heap_alloc _ _ _ (by rw[hsz];exact hq)).trans (hch.block q hq (by simpa using hn))
 have hplo:p<lo:=by omega
 have hmA:QbY lo w5.heap.size a:=h.made.mono zzl hc5.size;have hl5:lo<=w5.heap.size:=Nat.le_trans h.lle hc5.size;have hmL:Qdg lo w6.heap.size [a,b]:=⟨w5.heap.size,hl5,hmA,w6.heap.size,hc6.size,hbm,Nat.le_refl _⟩
 have hb5:bx<w5.heap.size:=Nat.lt_of_lt_of_le (Jb h.box) hc5.size;have hw6:w.heap.size<w6.heap.size:=Jb hres6;refine⟨he,by have:=h.le;omega,?_,?_,?_,?_,?_,?_,h.low,?_,?_⟩
 ·exact(hp4.put5 l3 (fun q o e=>by have:=hT q o e;omega) _ _ _ _ _).chg (zzb.alloc zzl _)
 ·unfold An.At;refine⟨fun _ j=>Jc hnew j,KI [a,b] 0 (fun j u hu=>?_) fun x hx=>?_⟩
  ·rw[Nat.zero_mul,Nat.zero_add];exact KO hnew (by rw[hcs];exact hu)
  ·rcases List.mem_cons.1 hx with rfl|hx
   ·refine JJ _ h.at' fun q hq=>?_
    have hq2:=h.made.2 q hq;exact(hold q (Nat.lt_of_lt_of_le hq2.2 h6.size) (fun e=>h.nbx (e ▸ hq))).trans (h6.block q hq2.2 (by simp;omega))
   ·obtain rfl:x=b:=by simpa using hx
    refine JJ _ hbt fun q hq=>?_
    have hq2:=hbm.2 q hq;exact hold q hq2.2 (by omega)
 ·rw[World.size_alloc,hsz];exact JaZ hmL zzl kk 0 [] of 2
 ·obtain⟨xA,xn,xc,hcf⟩:=Jf a;rw[hcf]at hbox6;exact VB _ _ _ _ _ _ hbox6
 ·exact(hold _ hw6 (Ne.symm l2)).trans hres6
 ·exact((h.chg.trans h6).step hch fun q hq=>.inr (by simp at hq;omega)).alloc _
 ·rw[World.size_alloc,hsz];have:=hc6.size;omega
 ·unfold foot;simp only[List.mem_cons,List.mem_append,Qah,List.append_nil];rintro (h1|h1|h1)
  ·have:=hc6.size;omega
  ·exact h.nbx h1
  ·have:=(hbm.2 _ h1).1;omega
theorem VO(lv:Nat)(z z1:Int)(hlv:lv≠3/\lv≠7)(hz3:(z==3)=false)(hz7:(z==7)=false)(hz:IntKind.i64.wrap (z+1)=z1)(oper:∀ (t:Tok) (w:World),Calls prog 116 #[.int .i64 z,.agg (QcU t)] w (OpP w (opK lv t)))(f p:Nat)(A:Option Addr)(C:Nat)(T:List Tok)
  (I1:∀ g,g<=f->∀ k w,PAt w p A C T k->pM g (.level (lv+1)) (T.drop k)≠.out->Calls prog 97 #[.pointer (some ⟨p,0,none⟩),.int .i64 z1] w (NdP p A C T w (pM g (.level (lv+1)) (T.drop k))))
  (k:Nat) (w:World) (h:PAt w p A C T k) (hne:pM (f+1) (.level lv) (T.drop k)≠.out) :
  Calls prog 97 #[.pointer (some ⟨p,0,none⟩),.int .i64 z] w (NdP p A C T w (pM (f+1) (.level lv) (T.drop k))):=by
 obtain⟨X,hX⟩:∃ X,pM (f+1) (.level lv) (T.drop k)=X:=⟨_,rfl⟩
 have hlev:=JhI f lv hlv.1 hlv.2 (T.drop k);rw[hX]at hne hlev |-;obtain⟨R,hR⟩:∃ R,NdP p A C T w X=R:=⟨_,rfl⟩
 rw[hR];have HR:Hid (R=NdP p A C T w X):=hR.symm;have HNE:=Zh hne;have hZ:=zzw w (.cells #[.int .i64 0,.int .i64 0,.string ⟨#[]⟩,.int .i64 0,.slice none 0 0] 103);have hB:=(Below.refl w.heap.size w).alloc zzl (.cells #[.int .i64 0,.int .i64 0,.string ⟨#[]⟩,.int .i64 0,.slice none 0 0] 103);have cp:=Ko p A C T k _ (h.chg hB);obtain⟨of,hof⟩:∃ of,(hd (T.drop k)).off=of:=⟨_,rfl⟩
 unfold Qgn at cp;have hfl:∀ (t:Tok) (W:World),(Instr.field 46 (.agg (QcU t)) 3).run prog W=.ok (.int .i64 t.off) W:=fun t W=>by obtain⟨a,b,c,d⟩:=t;kernel_rfl
 have hfl':=hfl (hd (T.drop k));rw[hof]at hfl' hlev;generalize QcU (hd (T.drop k))=tv at *;have HP:=Zh (h.chg hB);have HZ:=Zh hZ;have HB:=Zh hB;have HPL:=Zh h.chg1;have HTL:=Zh h.tokLt;have Hlv:=Zh hlev;have hne2:pM f (.level (lv+1)) (T.drop k)≠.out:=Ky (by rw[<- Hlv.out];exact hne);clear h hne hR hZ hB hfl hof hlev hX;go_enter func97,ntmps97;go_wp2_with fail;refine cp.mono ?_;rintro e w1 ⟨rfl,hb1⟩;have HP1:=Zh (HP.out.chg hb1);have HZ1:Hid (w1.heap[w.heap.size]?=some (.cells #[.int .i64 0,.int .i64 0,.string ⟨#[]⟩,.int .i64 0,.slice none 0 0] 103)):=(hb1.block _ (Jb HZ.out)).trans HZ.out;have HB1:=Zh (HB.out.trans (hb1.mono HB.out.size));have HS1:Hid (w.heap.size<w1.heap.size):=Jb HZ1.out;have hpz:w.heap.size≠p:=by have:=HPL.out;omega
 clear cp hb1 HP HZ HB;go_wp2_with fail;refine(I1 f zzl k w1 HP1.out hne2).mono ?_;intro e w2 h2
 cases hx:pM f (.level (lv+1)) (T.drop k) with
 |out=>exact absurd hx hne2
 |bad q=>
  rw[hx]at h2;obtain⟨rfl,hc2⟩:=h2;refine⟨rfl,?_⟩;rw[HR.out,Hlv.out,hx];exact⟨rfl,(Chg.of_below HB1.out [p]).trans hc2⟩
 |ok nd r=>
 rw[hx]at h2;obtain⟨a,hnd,rfl,hat,hmd,⟨k2,hr,hp2⟩,hc2⟩:=h2;subst hnd hr;have hzz:=hc2.heap_some (by simp;exact hpz) HZ1.out;have hA2:Below w2.heap.size w2 (w2.alloc (.cells (Qaa a) 103)):=zzb.alloc zzl _;have HLI:Hid (∃ k2 a',LvI f lv of X p A C T w w1.heap.size w2.heap.size (w2.alloc (.cells (Qaa a) 103)) k2 f a'):=⟨k2,a,by rw[Hlv.out,hx];rfl,Nat.le_refl _,hp2.chg hA2,KU hat hmd hA2 zzl,hmd.mono zzl (by simp),zzw _ _,(hA2.block _ (Jb hzz)).trans hzz,((Chg.of_below HB1.out [p]).trans hc2).alloc _,⟨HS1.out,by have:=Jb hzz;omega,by have:=hp2.chg1;have:=HPL.out;have:=hc2.size;have:=HS1.out;omega,by have:=Jb hzz;omega⟩,by have:=hc2.size;simp;omega,fun hm=>by have:=(hmd.2 _ hm).2;omega⟩
 obtain⟨xA,xn,xc,hcf⟩:=Jf a;rw[hcf]at HLI |-;clear hx hat hmd hp2 hc2 hcf hzz hA2 Hlv HZ1 HP1 HB1 hne2;go_wp2;generalize hwb:World.alloc w2 _=wb at *;clear hwb;generalize w2.heap.size=bx at *;generalize w1.heap.size=lo at *;go_loopg [] f (fun g wr=>Hid (∃ k2 a,LvI f lv of X p A C T w lo bx wr k2 g a))
 case atStart=>exact HLI
 case round=>
 clear HLI;obtain⟨wl,rfl⟩:∃ wl:World,wl=wr:=⟨_,rfl⟩
 obtain⟨k2,a,hI⟩:=hrel.out
 cases gk with
 |zero=>exact absurd hI.eq.symm HNE.out
 |succ f2=>
 have cp:=Ko p A C T k2 wl hI.pat;have co:=fun W=>oper (hd (T.drop k2)) W
 obtain⟨op,hop⟩:∃ op,opK lv (hd (T.drop k2))=op:=⟨_,rfl⟩
 have hkd:∀ kk,op=some kk->(hd (T.drop k2)).kind≠4:=fun kk e=>JhJ (hop.trans e)
 have hmore:∀ kk,op=some kk->k2+1<T.length:=fun kk e=>hI.pat.more (hkd kk e)
 unfold Qgn at cp;unfold OpP at co;rw[hop]at co;have HI:=Zh hI;have HOP:=Zh hop;have HMR:=Zh hmore;generalize QcU (hd (T.drop k2))=tv2 at *;clear hI hop hkd hmore hrel;go_wp2_with fail;refine cp.mono ?_;rintro e w3 ⟨rfl,hb3⟩;go_wp2_with fail;refine(co _).mono ?_;rintro e w4 ⟨rfl,hb4⟩;have hI4:=(HI.out.below hb3).below hb4;clear cp co hb3 hb4
 cases op with
 |none=>
  have hX2:=(Jbe f2 lv of a.nd HOP.out).symm.trans HI.out.eq;obtain⟨xA,xn,xc,hcf⟩:=Jf a;have HFIN:=Zh (fun v0 v1 v2 v3 v4=>hI4.fin HPL.out HTL.out v0 v1 v2 v3 v4);have hbx:=hI4.box;have hrs:=hI4.res;rw[hcf]at hbx;obtain⟨b0,b1,b2,b3,b4⟩:=Ji hbx;obtain⟨z0,z1,z2,z3,z4⟩:=Ji hrs;have hf:=fun j=>Jc hrs j
  have y0:=hf 0;have y1:=hf 1;have y2:=hf 2;have y3:=hf 3;have y4:=hf 4;have HRS:=Zh hrs;have HCF:=Zh hcf;have HX2:=Zh hX2;clear hf hbx hrs hI4 hcf hX2 HI HOP HMR I1;simp only[Option.getD,Option.isSome];go_wp2;refine bodyPost_ret (v:=.agg (Qaa a)) (by rw[HCF.out];exact results_cell_row rfl _ _ w.heap.size 103 _ (0,0) _ rfl (Qct _ _ _ _ _ HRS.out) underlying103 rfl Qaw) rfl ?_;rw[HR.out,<- HX2.out];obtain⟨e1,e2,e3,e4⟩:=HFIN.out _ _ _ _ _;exact⟨_,rfl,rfl,e1,e2,⟨k2,rfl,e3⟩,e4⟩
 |some kk=>
  have hX2:=(Jbf f2 lv of a.nd HOP.out).symm.trans HI.out.eq;rw[tail_drop]at hX2;have hne3:pM f2 (.level (lv+1)) (T.drop (k2+1))≠.out:=Ky (by rw[hX2];exact HNE.out);have hk1:=HMR.out kk rfl;have wk:IntKind.i64.wrap ((k2:Int)+1)=(k2:Int)+1:=IntWalk.i64_in _ (by have:=hI4.pat.room;omega);have pc:=Ja hI4.pat.self 1;have pf:=Jc hI4.pat.self 1;simp only[ZD,ZE,ZF]at pc;have HI4:=Zh hI4;have HEQ:=Zh hX2;have hle2:f2<=f:=by have:=HI4.out.le;omega
  clear HI HOP HMR hX2 hI4;simp only[Option.getD,Option.isSome];go_upto_region 16 with fail;obtain⟨w5,hw5⟩:∃ w5,w4.setCell ⟨p,1,none⟩ (.int .i64 ((k2:Int)+1))=w5:=⟨_,rfl⟩
  rw[hw5];have hD5:Below w5.heap.size w5 w5.drew:=(Below.refl w5.heap.size w5).drew
  have HC3:Hid (Chg [p] w4 w5.drew):=by
   have h5:=(Chg.of_below (Below.refl w4.heap.size w4) [p]).setCell (.inl (by simp:p∈[p])) (p:=⟨p,1,none⟩) (.int .i64 ((k2:Int)+1));rw[hw5]at h5;exact h5.trans (Chg.of_below hD5 [p])
  have HP3:Hid (PAt w5.drew p A C T (k2+1)):=by
   have h5:=HI4.out.pat.next hk1;rw[show (w4.setCell ⟨p,1,none⟩ (.int .i64 ((k2+1:Nat):Int)))=w5 from hw5]at h5;exact h5.chg hD5
  have HPX:Hid (bx≠p/\True):=⟨HI4.out.low.2.2.1,trivial⟩
  obtain⟨xA1,xn1,xc1,hcf⟩:=Jf a;have hbx5:=HC3.out.heap_some (by simp;exact HPX.out.1) HI4.out.box;rw[hcf]at hbx5;have HBX:=Zh hbx5;have HCF:=Zh hcf;clear hbx5 hcf hD5 pc pf hw5;have h5:=Ji HBX.out;refine LB (fun W=>C5 W bx (.int .i64 a.kind) (.int .i64 a.num) (.string (bs a.name)) (.int .i64 a.off) (.slice xA1 xn1 xc1)) 9 (by simp[*,C5,World.cell?_alloc_some,World.cell?_setCell_far]) fun hH=>?_
  refine LK 0 rfl ?_;refine LK 1 rfl ?_;refine LK 2 rfl ?_;refine LK 3 rfl ?_;refine LK 4 rfl ?_;refine LK 5 rfl ?_;refine LO 6 rfl fun K hK=>?_
  go_simp;go_at_call 97;refine NdP.call (I1 f2 (by omega) (k2+1) _ HP3.out hne3) hne3 (fun q _ hx hc6=>by exact⟨rfl,by rw[HR.out,<- HEQ.out,hx];exact⟨rfl,(HI4.out.chg.trans HC3.out).trans hc6⟩⟩) fun b w6 k4 yA yn yc hx hcg B6=>?_
  have HB4:=Zh B6;have HX4:=Zh hx;have HCG:=Zh hcg;have hbx:=B6.2.2.2.heap_some (by simp;exact HPX.out.1) HBX.out;replace h5:=Ji hbx;have f5:=Jq hbx;have hlt4:=Jb hbx;clear hx hcg B6 hne3 hbx;refine hK.out _ _ (h5) fun hH=>?_
  clear hK K;refine LO 7 rfl fun K hK=>?_
  go_simp;refine hK.out _ _ (by simp[*,C5,World.cell?_alloc_some,World.cell?_setCell_far]) fun hH=>?_
  clear hK K;refine LK 8 rfl ?_;refine LZ 9 rfl fun K hK=>?_
  go_simp;refine hK.out _ _ ?_;clear hK K;have HST:=Zh (LvI.step (cs:=#[.int .i64 a.kind,.int .i64 a.num,.string (bs a.name),.int .i64 a.off,.slice xA1 xn1 xc1,.int .i64 b.kind,.int .i64 b.num,.string (bs b.name),.int .i64 b.off,.slice yA yn yc]) HI4.out HC3.out HB4.out.1 HB4.out.2.1 HB4.out.2.2.1 HB4.out.2.2.2 HTL.out HPL.out (by rw[<- HEQ.out,HX4.out];rfl) (by simp[QcV,HCF.out,HCG.out]));clear HBX HB4 HX4 HCG HCF HEQ hlt4;go_wp2;go_roundg f2
  case measure=>exact Nat.lt_succ_self _
  case rel=>exact⟨_,_,HST.out⟩
theorem JjY(f p:Nat)(A:Option Addr)(C:Nat)(T:List Tok)(I1:∀ g,g<=f->∀ k w,PAt w p A C T k->pM g (.level 2) (T.drop k)≠.out->Calls prog 97 #[.pointer (some ⟨p,0,none⟩),.int .i64 2] w (NdP p A C T w (pM g (.level 2) (T.drop k)))):∀ k w,PAt w p A C T k->pM (f+1) (.level 1) (T.drop k)≠.out->Calls prog 97 #[.pointer (some ⟨p,0,none⟩),.int .i64 1] w (NdP p A C T w (pM (f+1) (.level 1) (T.drop k))):=VO 1 1 2 (by decide) rfl rfl (by decide) Jlq f p A C T I1
theorem JjZ(f p:Nat)(A:Option Addr)(C:Nat)(T:List Tok)(I1:∀ g,g<=f->∀ k w,PAt w p A C T k->pM g (.level 3) (T.drop k)≠.out->Calls prog 97 #[.pointer (some ⟨p,0,none⟩),.int .i64 3] w (NdP p A C T w (pM g (.level 3) (T.drop k)))):∀ k w,PAt w p A C T k->pM (f+1) (.level 2) (T.drop k)≠.out->Calls prog 97 #[.pointer (some ⟨p,0,none⟩),.int .i64 2] w (NdP p A C T w (pM (f+1) (.level 2) (T.drop k))):=VO 2 2 3 (by decide) rfl rfl (by decide) Jlr f p A C T I1
theorem Jka(f p:Nat)(A:Option Addr)(C:Nat)(T:List Tok)(I1:∀ g,g<=f->∀ k w,PAt w p A C T k->pM g (.level 6) (T.drop k)≠.out->Calls prog 97 #[.pointer (some ⟨p,0,none⟩),.int .i64 6] w (NdP p A C T w (pM g (.level 6) (T.drop k)))):∀ k w,PAt w p A C T k->pM (f+1) (.level 5) (T.drop k)≠.out->Calls prog 97 #[.pointer (some ⟨p,0,none⟩),.int .i64 5] w (NdP p A C T w (pM (f+1) (.level 5) (T.drop k))):=VO 5 5 6 (by decide) rfl rfl (by decide) Jls f p A C T I1
theorem Jkb(f p:Nat)(A:Option Addr)(C:Nat)(T:List Tok)(I1:∀ g,g<=f->∀ k w,PAt w p A C T k->pM g (.level 7) (T.drop k)≠.out->Calls prog 97 #[.pointer (some ⟨p,0,none⟩),.int .i64 7] w (NdP p A C T w (pM g (.level 7) (T.drop k)))):∀ k w,PAt w p A C T k->pM (f+1) (.level 6) (T.drop k)≠.out->Calls prog 97 #[.pointer (some ⟨p,0,none⟩),.int .i64 6] w (NdP p A C T w (pM (f+1) (.level 6) (T.drop k))):=VO 6 6 7 (by decide) rfl rfl (by decide) Jlt f p A C T I1
end Go.Proofs.YtdlkcjkjnehnkaaGreatDoor
