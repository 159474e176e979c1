import Derived.Test.YtdlkcjkjnehnkaaGreatDoorH13
open Nat(le_trans)
namespace Go.Proofs.YtdlkcjkjnehnkaaGreatDoor
open Go.ChangeShapes Go.WideShapes Go.ChangeAt Go.RowKit Go.Lib
open _root_.Go.Proofs.Tryz
set_option linter.all false
set_option maxRecDepth 100000
set_option maxHeartbeats 32000000
def In(W:World)(b:Nat):Prop:=b<W.heap.size
theorem XAt.up{w W:World}{e:Exp}{c:Array Value}(h:XAt w (In w) e c)(hb:Below w.heap.size w W):XAt W (In W) e c:=
 XAt.keep (fun b hP=>hb.block b hP) (fun b hP=>Nat.lt_of_lt_of_le hP hb.size) _ _ h
structure UnI(w:World)(rs bx lo:Nat)(k n:Int)(s:List UInt8)(W:World)(l:List An)(V:Value):Prop where
 own:W.ownsRow lo 103 5 V l.length (QcV l)
 nil:l=[]->V=.slice none 0 0
 ats:∀ a∈l,a.At W
 fts:∀ b∈Qah l,lo<=b/\b<W.heap.size
 dis:∀ g,V.ownBlock=some g->g∉Qah l
 box:W.heap[bx]?=some (.cells #[.int .i64 k,.int .i64 n,.string (bs s),.int .i64 0,V] 103 (0,0))
 res:W.heap[rs]?=some (.cells #[.int .i64 0,.int .i64 0,.string ⟨#[]⟩,.int .i64 0,.slice none 0 0] 103 (0,0))
 bel:Below w.heap.size w W
 low:w.heap.size<=rs/\rs<bx/\bx<lo/\lo<=W.heap.size
section
variable {w:World} {rs bx lo:Nat} {k n:Int} {s:List UInt8} {W W':World} {l:List An} {V:Value}
theorem UnI.up(h:UnI w rs bx lo k n s W l V)(hb:Below W.heap.size W W'):UnI w rs bx lo k n s W' l V:=by
 obtain⟨l1,l2,l3,l4⟩:=h.low;have hc:=Chg.of_below hb []
 exact⟨Jz h.own hc (by simp),h.nil,fun a ha=>Jbo (h.ats a ha) hb,fun b hm=>⟨(h.fts b hm).1,Nat.lt_of_lt_of_le (h.fts b hm).2 hb.size⟩,h.dis,(hb.block _ (Jb h.box)).trans h.box,(hb.block _ (Jb h.res)).trans h.res,
  ⟨hb.os.trans h.bel.os,hb.tape.trans h.bel.tape,hb.output.trans h.bel.output,le_trans h.bel.size hb.size,fun q hq=>(hb.block q (Nat.lt_of_lt_of_le hq h.bel.size)).trans (h.bel.block q hq)⟩,l1,l2,l3,le_trans l4 hb.size⟩
theorem UnI.step{w1 w6 w7:World}{b:An}{V':Value}{X:Obj}(h:UnI w rs bx lo k n s w1 l V)(hb:Below w1.heap.size w1 w6)(hbt:b.At w6)(hbf:∀ q∈foot b,w1.heap.size<=q/\q<w6.heap.size)
  (hown:w7.ownsRow lo 103 5 V' (l++[b]).length (QcV (l++[b]))) (hgr:(w6.alloc X).grownBy w7 V.ownBlock) (hfr:V'.ownBlock=V.ownBlock\/V'.ownBlock=some (w6.alloc X).heap.size) :
  UnI w rs bx lo k n s (w7.setCell ⟨bx,4,none⟩ V') (l++[b]) V'/\w7.heap[bx]?=some (.cells #[.int .i64 k,.int .i64 n,.string (bs s),.int .i64 0,V] 103 (0,0)):=by
 have h6:=h.up hb;obtain⟨l1,l2,l3,l4⟩:=h6.low;have hrow:∀ g,V.ownBlock=some g->lo<=g/\g<w1.heap.size:=fun g hg=>h.own.lt g hg
 have hc7:=JR hgr;have hbx7:w7.heap[bx]?=some (.cells #[.int .i64 k,.int .i64 n,.string (bs s),.int .i64 0,V] 103 (0,0)):=hc7.heap_some (fun hm=>by have:=(hrow bx (by simpa using hm)).1;omega) h6.box;have hst:Chg [bx] w7 (w7.setCell ⟨bx,4,none⟩ V'):=(Chg.refl _ _).setCell (.inl (by simp:bx∈[bx])) (p:=⟨bx,4,none⟩) V';have hkeep:∀ q,q<w6.heap.size->V.ownBlock≠some q->q≠bx->(w7.setCell ⟨bx,4,none⟩ V').heap[q]?=w6.heap[q]?:=fun q hq hn hne=>(hst.block q (Nat.lt_of_lt_of_le hq hc7.size) (by simpa using hne)).trans (hc7.block q hq (by simpa using hn))
 have hsz:w6.heap.size<=(w7.setCell ⟨bx,4,none⟩ V').heap.size:=le_trans hc7.size hst.size;have hb16:=hb.size
 have hft:∀ q∈Qah (l++[b]),lo<=q/\q<w6.heap.size:=by
  intro q hq;rw[Vf]at hq
  rcases List.mem_append.1 hq with hq|hq
  ·exact h6.fts q hq
  ·have h1:=hbf q hq;have:=h.low;exact⟨by omega,h1.2⟩
 have hnV:∀ q∈Qah (l++[b]),V.ownBlock≠some q:=by
  intro q hq e;rw[Vf]at hq
  rcases List.mem_append.1 hq with hq|hq
  ·exact h.dis q e hq
  ·have h1:=(hrow q e).2;have h2:=(hbf q hq).1;omega
 refine⟨⟨Jz hown hst (by simp;omega),fun e=>by simp at e,fun a ha=>?_,fun q hq=>?_,fun g hg hm=>?_,?_,?_,?_,l1,l2,l3,le_trans l4 hsz⟩,hbx7⟩
 ·have ha2:a.At w6:=by
   rcases List.mem_append.1 ha with ha'|ha'
   ·exact h6.ats a ha'
   ·obtain rfl:a=b:=by simpa using ha'
    exact hbt
  exact JJ a ha2 fun q hq=>hkeep q (hft q (JB ha q hq)).2 (hnV q (JB ha q hq)) (by have:=(hft q (JB ha q hq)).1;omega)
 ·have:=hft q hq;omega
 ·have h1:=hft g hm
  rcases hfr with e|e
  ·exact hnV g hm (e.symm.trans hg)
  ·rw[e]at hg;simp at hg;omega
 ·exact J3 hbx7 4 V'
 ·exact(hkeep _ (Jb h6.res) (fun e1=>by have h1:=(hrow _ e1).1;omega) (by omega)).trans h6.res
 ·have hlw:w.heap.size<=w6.heap.size:=h6.bel.size;exact Qms
def UtP(w:World)(x:Exp)(e:Ending)(w':World):Prop:=∃ a:An,e=.returned (.agg (Qaa a))/\a.nd=utN x/\a.At w'/\(∀ b∈foot a,w.heap.size<=b/\b<w'.heap.size)/\Below w.heap.size w w'
theorem UnI.fin{L:List Exp}(h:UnI w rs bx lo k n s W l V)(hl:ndL l=utL L):UtP w (.mk k n s L) (.returned (.agg #[.int .i64 k,.int .i64 n,.string (bs s),.int .i64 0,V])) (put5 W rs (.int .i64 k) (.int .i64 n) (.string (bs s)) (.int .i64 0) V):=by
 obtain⟨l1,l2,l3,l4⟩:=h.low;have hst:=Ki (S:=[rs]) (W:=W) (.int .i64 k) (.int .i64 n) (.string (bs s)) (.int .i64 0) V (by simp:rs∈[rs]);have hsz:=hst.size;have hbel:Below w.heap.size w (put5 W rs (.int .i64 k) (.int .i64 n) (.string (bs s)) (.int .i64 0) V):=((((h.bel.setCell l1 _).setCell l1 _).setCell l1 _).setCell l1 _).setCell l1 _;have hnd:∀ g c,(An.mk k n s 0 g c l).nd=utN (.mk k n s L):=fun g c=>by unfold An.nd;rw[utN,hl]
 by_cases hnil:l=[]
 ·subst hnil;obtain rfl:=h.nil rfl;refine⟨.mk k n s 0 0 0 [],rfl,hnd 0 0,?_,?_,hbel⟩
  ·unfold An.At AtL;exact⟨fun h=>absurd rfl h,trivial⟩
  ·intro b hb;rw[KP,if_pos rfl]at hb
   cases hb
 ·rcases h.own.2 with⟨_,e⟩|⟨g,c,cur,rfl,hg,hgg,hn,hm,hs,ht⟩
  ·exact absurd (List.eq_nil_of_length_eq_zero e) hnil
  have hlt:=Jb hgg;have hrow:=hst.heap_some (k:=g) (by simp;omega) hgg;refine⟨.mk k n s 0 g c l,?_,hnd g c,?_,?_,hbel⟩
  ·show _=Ending.returned (.agg #[_,_,_,_,QaB g c l])
   unfold QaB;rw[if_neg hnil]
  ·unfold An.At;refine⟨fun _ j=>Jc hrow j,KI l 0 (fun j u hu=>?_) fun a ha=>?_⟩
   ·rw[Nat.zero_mul,Nat.zero_add,Ja hrow];rw[<- ht,List.getElem?_take]at hu;split at hu
    ·simpa using hu
    ·cases hu
   ·exact JJ a (h.ats a ha) fun b hb=>by
     have:=h.fts b (JB ha b hb);exact hst.block b this.2 (by simp;omega)
  ·intro b hb;rw[KP,if_neg hnil]at hb
   rcases List.mem_cons.1 hb with rfl|hb
   ·omega
   ·have:=h.fts b hb;omega
end
theorem JkB(l:List Exp)(a:Exp):utL (l++[a])=utL l++[utN a]:=by
 induction l with
 |nil=>simp[utL]
 |cons x r ih=>simp[utL,ih]
theorem JkC(l:List Exp):utL l=l.map utN:=by
 induction l with
 |nil=>rw[utL];rfl
 |cons a l ih=>rw[utL,ih];rfl
theorem Jgz{l:List Exp}{y:Exp}(h:y∈l):siz (utN y)<=Qbq (utL l):=JdA (by rw[JkC];exact List.mem_map.2 ⟨y,h,rfl⟩)
theorem Jjj(l:List Exp):l.length<=Qbq (utL l):=by have:=JdB (utL l);rw[Yj]at this;exact this
def Qhp(w:World)(ad:Option Addr)(l:List Exp):Prop:=l≠[]->∃ b o,ad=some ⟨b,o,none⟩/\b<w.heap.size/\∀ i e,l[i]?=some e->∃ d,XAt w (In w) e d/\∀ j u,d[j]?=some u->w.cell? ⟨b,o+i*4+j,none⟩=some u
theorem Qhp.at'{w W:World}{ad:Option Addr}{l:List Exp}(h:Qhp w ad l)(hb:Below w.heap.size w W){i:Nat}{y:Exp}(hi:l[i]?=some y) :
  ∃ b o da dc,ad=some ⟨b,o,none⟩/\XAt W (In W) y #[.int .i64 y.kind,.int .i64 y.num,.string (bs y.name),.slice da y.kids.length dc]/\W.cell? ⟨b,o+i*4,none⟩=some (.int .i64 y.kind)/\
   W.cell? ⟨b,o+i*4+1,none⟩=some (.int .i64 y.num)/\W.cell? ⟨b,o+i*4+2,none⟩=some (.string (bs y.name))/\W.cell? ⟨b,o+i*4+3,none⟩=some (.slice da y.kids.length dc):=by
 obtain⟨b,o,h1,h2,h3⟩:=h (List.ne_nil_of_mem (List.mem_of_getElem? hi));obtain⟨d,h4,h5⟩:=h3 i y hi;obtain⟨da,dc,rfl,_⟩:=h4.form;have hc:∀ j u,_->W.cell? ⟨b,o+i*4+j,none⟩=some u:=fun j u hu=>(World.cell?_of_block (a:=⟨b,o+i*4+j,none⟩) (hb.block b h2)).trans (h5 j u hu)
 exact⟨b,o,da,dc,h1,h4.up hb,hc 0 _ rfl,hc 1 _ rfl,hc 2 _ rfl,hc 3 _ rfl⟩
theorem XAt.kids{w:World}{k n:Int}{s:List UInt8}{l:List Exp}{c:Array Value}(h:XAt w (In w) (.mk k n s l) c):∃ ad cc,c=#[.int .i64 k,.int .i64 n,.string (bs s),.slice ad l.length cc]/\l.length<=cc/\Qhp w ad l:=by
 obtain⟨ad,cc,h1,h2,h3⟩:=h.kid;exact⟨ad,cc,h1,h2,h3⟩
theorem Qla{P:Prop}(h:P:=by
  try simp only[Act.put,ZA,ZB,ZC]
  refine ZS 7 rfl (fun K hK=>?_);have hbx:=HBX.out;have b3:=Ja hbx 4;have f3:=Jc hbx 4;have hl7:=Jb hbx;simp only[ZD,ZE,ZF]at b3;go_simp;clear b3 hbx f3 hl7 HBX;refine hK.out _ _ trivial (fun hH=>?_);clear hK K
  try simp only[Act.put,ZA,ZB,ZC]
  refine wpAnyH_done (by kernel_rfl) ?_ _;have HB7:Hid (Below w.heap.size w (w7.setCell ⟨bx,4,none⟩ (.slice a7 m7 c7))):=HST.out.bel;go_wp2;go_roundg (l.length-(i+1))
  case measure=>have:=HG.out;omega
  case rel=>exact⟨i+1,by omega,by go_num,⟨Q++[yb],_,by rw[K3,HN6.out];exact HTS.out,by rw[List.length_append,HKL.out];rfl,HST.out⟩,HB7⟩):P:=h
theorem JcP(n:Nat)(IH:∀ (y:Exp) (d:Array Value) (W:World),siz (utN y)<=n->XAt W (In W) y d->Calls prog 56 #[.agg d] W (UtP W y))(k nn:Int)(s:List UInt8)(l:List Exp)(ad:Option Addr)(cc:Nat)(w:World)(hn:Qbq (utL l)<=n)(hb:n<=100000000)(hK:Qhp w ad l) :
  Calls prog 56 #[.agg #[.int .i64 k,.int .i64 nn,.string (bs s),.slice ad l.length cc]] w (UtP w (.mk k nn s l)):=by
 obtain⟨R,hR⟩:∃ R,UtP w (.mk k nn s l)=R:=⟨_,rfl⟩
 rw[hR];have HR:Hid (R=UtP w (.mk k nn s l)):=hR.symm;have hbA:Below w.heap.size w (((w.alloc (.cells #[.int .i64 k,.int .i64 nn,.string (bs s),.slice ad l.length cc] 30)).alloc (.cells #[.int .i64 0,.int .i64 0,.string ⟨#[]⟩,.int .i64 0,.slice none 0 0] 103)).alloc (.cells #[.int .i64 k,.int .i64 nn,.string (bs s),.int .i64 0,.slice none 0 0] 103)):=((zzb.alloc zzl _).alloc (by simp) _).alloc (by simp;omega) _
 have HI0:Hid (UnI w (w.heap.size+1) (w.heap.size+1+1) (w.heap.size+1+1+1) k nn s (((w.alloc (.cells #[.int .i64 k,.int .i64 nn,.string (bs s),.slice ad l.length cc] 30)).alloc (.cells #[.int .i64 0,.int .i64 0,.string ⟨#[]⟩,.int .i64 0,.slice none 0 0] 103)).alloc (.cells #[.int .i64 k,.int .i64 nn,.string (bs s),.int .i64 0,.slice none 0 0] 103)) [] (.slice none 0 0)):=by
  have e1:=zzw (w.alloc (.cells #[.int .i64 k,.int .i64 nn,.string (bs s),.slice ad l.length cc] 30)) (.cells #[.int .i64 0,.int .i64 0,.string ⟨#[]⟩,.int .i64 0,.slice none 0 0] 103);have e2:=zzw ((w.alloc (.cells #[.int .i64 k,.int .i64 nn,.string (bs s),.slice ad l.length cc] 30)).alloc (.cells #[.int .i64 0,.int .i64 0,.string ⟨#[]⟩,.int .i64 0,.slice none 0 0] 103)) (.cells #[.int .i64 k,.int .i64 nn,.string (bs s),.int .i64 0,.slice none 0 0] 103);simp only[World.size_alloc]at e1 e2;exact⟨World.ownsRow_nil _ _ _ _,fun _=>rfl,by simp,by simp[Qah],by simp[Qah],e2,Jg e1,hbA,by omega,by omega,by omega,by simp⟩
 have HNB:Hid ((((w.alloc (.cells #[.int .i64 k,.int .i64 nn,.string (bs s),.slice ad l.length cc] 30)).alloc (.cells #[.int .i64 0,.int .i64 0,.string ⟨#[]⟩,.int .i64 0,.slice none 0 0] 103)).alloc (.cells #[.int .i64 k,.int .i64 nn,.string (bs s),.int .i64 0,.slice none 0 0] 103)).heap[w.heap.size]?=some (.cells #[.int .i64 k,.int .i64 nn,.string (bs s),.slice ad l.length cc] 30 (0,0))):=Jg (Jg (zzw _ _));have HKX:=Zh hK;have HIH:=Zh IH;have hll:l.length<=100000000:=by have:=Jjj l;omega
 have HSZ:=Zh hn;clear hR hbA IH hK hn;go_enter func56,ntmps56;go_wp2_with fail;generalize World.alloc (World.alloc (World.alloc w _) _) _=w1 at *;generalize w.heap.size+1+1+1=lo at *;generalize w.heap.size+1+1=bx at *;generalize w.heap.size+1=rs at *;have HLW:Hid (w.heap.size<w1.heap.size):=Jb HNB.out;have n4:=Ja HNB.out 3;simp only[ZD,ZE,ZF]at n4;go_wp2_with fail;clear n4;go_loopg [16] l.length (fun g v16 wr=>∃ i:Nat,g+i=l.length/\v16=.int .i64 i/\Hid (∃ Q V,ndL Q=utL (l.take i)/\Q.length=i/\UnI w rs bx lo k nn s wr Q V)/\Hid (Below w.heap.size w wr))
 case atStart=>exact⟨0,rfl,rfl,⟨[],_,by simp[ndL,utL],rfl,HI0.out⟩,HI0.out.bel⟩
 case round=>
 clear HI0 HNB;obtain⟨wl,rfl⟩:∃ wl:World,wl=wr:=⟨_,rfl⟩
 obtain⟨i,hg,rfl,hti,hbw⟩:=hrel;obtain⟨Q,V,hnd,hkl,hun⟩:=hti.out;clear hti;have hti:=hun;clear hun;obtain⟨va,vn,vc,rfl⟩:=Jh hti.own
 by_cases hi:i<l.length
 ·have hil:(i:Int)<(l.length:Int):=by omega
  obtain⟨y,hy⟩:∃ y,l[i]?=some y:=⟨l[i],List.getElem?_eq_getElem hi⟩
  have hmem:=List.mem_of_getElem? hy;obtain⟨b,o,da,dc,had,hxy,c0,c1,c2,c3⟩:=HKX.out.at' hbw.out hy;have wk:IntKind.i64.wrap ((i:Int)+1)=(i:Int)+1:=IntWalk.i64_in _ (by omega);have hb2:Below wl.heap.size wl (wl.alloc (.cells #[.int .i64 y.kind,.int .i64 y.num,.string (bs y.name),.slice da y.kids.length dc] 30)):=zzb.alloc zzl _;have HTI:=Zh (hti.up hb2);have HYX:=Zh (hxy.up hb2);have HCP:=Zh (zzw wl (.cells #[.int .i64 y.kind,.int .i64 y.num,.string (bs y.name),.slice da y.kids.length dc] 30));have HTS:Hid (ndL Q++[utN y]=utL (l.take (i+1))):=by rw[Hid,hnd,List.take_add_one,hy];show _=utL (_++[y]);rw[JkB]
  have HLN:Hid (Q.length<=100000000):=by rw[Hid];omega
  have HYS:Hid (siz (utN y)<=n):=by have:=Jgz hmem;have:=HSZ.out;rw[Hid];omega
  have HKL:=Zh hkl;have HG:=Zh hg;subst had;clear hb2 hti hy hmem hg hxy hbw hnd hkl;go_upto_region 5 with fail;clear c0 c1 c2 c3;generalize World.alloc wl _=wk0 at *;generalize wl.heap.size=cb at *;refine wp_region_held_drew (S:=fun _=>True) (by kernel_rfl) (trivial) (fun hH=>?_);have hD:Below wk0.heap.size wk0 wk0.drew:=(Below.refl wk0.heap.size wk0).drew;replace HTI:=Zh (HTI.out.up hD);replace HYX:=Zh (HYX.out.up hD);replace HCP:=Zh ((hD.block _ (Jb HCP.out)).trans HCP.out);clear hD;generalize wk0.drew=wk1 at *;refine ZT (i:=0) (v:=?vT1_0) rfl (Or.inl ⟨by rfl,?yT1_0⟩) ?_
  case yT1_0=>exact ZyQ
  try simp only[Act.put,ZA,ZB,ZC]
  refine ZR (rs:=[1,2]) (AllReadyH.cons rfl (fun K hK=>?_) (AllReadyH.cons rfl (fun K hK=>?_) AllReadyH.nil))
  ·have hbx:=HTI.out.box;have b3:=Ja hbx 4;simp only[ZD,ZE,ZF]at b3;go_simp;clear b3 hbx;refine hK.out _ _ trivial (fun hH=>?_);clear hK K
   try simp only[Act.put,ZA,ZB,ZC]
   refine ZS 2 rfl (fun K hK=>?_);have hbx:=HCP.out;have p0:=Ja hbx 0;have p1:=Ja hbx 1;have p2:=Ja hbx 2;have p3:=Ja hbx 3;simp only[ZD,ZE,ZF]at p0 p1 p2 p3;go_simp;clear p0 p1 p2 p3 hbx;refine hK.out _ _ trivial (fun hH=>?_);clear hK K
   try simp only[Act.put,ZA,ZB,ZC]
   refine ZS 3 rfl (fun K hK=>?_);have ci:=HIH.out y _ _ HYS.out HYX.out
   (go_simp;go_at_call 56;refine ci.mono ?_;intro e w6 h6)
   clear ci;obtain⟨yb,rfl,hn6,hat6,hft6,hb6⟩:=h6;obtain⟨ca,cn,cm,hcy⟩:=Jf yb;have HN6:=Zh hn6;have HB6:=Zh hb6;have HCY:=Zh hcy;have HA6:=Zh hat6;have HF6:=Zh hft6;replace HCP:=Zh ((hb6.block _ (Jb HCP.out)).trans HCP.out);have HT6:=Zh (HTI.out.up hb6);have HOW:Hid ((w6.alloc (.cells (Qaa yb) 103)).ownsRow lo 103 5 (.slice va vn vc) Q.length (QcV Q)):=HT6.out.own.alloc _;have HRW:Hid ((w6.alloc (.cells (Qaa yb) 103)).heap[w6.heap.size]?=some (.cells (Qaa yb) 103 (0,0))):=zzw _ _;have hlo6:lo<=(w6.alloc (.cells (Qaa yb) 103)).heap.size:=by have:=HT6.out.low;rw[World.size_alloc];omega
   have HBX:=Zh HT6.out.box;rw[hcy]at HOW hlo6 |-;clear hn6 hat6 hft6 hb6 hcy;refine hK.out _ _ trivial (fun hH=>?_);clear hK K
   try simp only[Act.put,ZA,ZB,ZC]
   refine ZS 4 rfl (fun K hK=>?_);go_simp;refine hK.out _ _ trivial (fun hH=>?_);replace HBX:Hid ((w6.alloc (.cells #[.int .i64 yb.kind,.int .i64 yb.num,.string (bs yb.name),.int .i64 yb.off,.slice ca cn cm] 103)).heap[bx]?=some (.cells #[.int .i64 k,.int .i64 nn,.string (bs s),.int .i64 0,.slice va vn vc] 103 (0,0))):=Jg HBX.out;clear hK K
   try simp only[Act.put,ZA,ZB,ZC]
   refine ZS 5 rfl (fun K hK=>?_)
   (refine Kl (w6.alloc (.cells #[.int .i64 yb.kind,.int .i64 yb.num,.string (bs yb.name),.int .i64 yb.off,.slice ca cn cm] 103)) (by rfl) (.tmp 21) (.tmp 24) (by rfl) lo (.slice va vn vc) Q yb (by rfl) HOW.out w6.heap.size (by rfl) (by rw[<- HCY.out];exact HRW.out) HLN.out hlo6 ?_;intro v7 w7 hown7 hgr7 hfr7)
   obtain⟨a7,m7,c7,rfl⟩:=Jh hown7;have hst:=UnI.step (V':=.slice a7 m7 c7) HTI.out HB6.out HA6.out HF6.out hown7 hgr7 hfr7;replace HBX:=Zh hst.2;have HST:=Zh hst.1;clear hown7 hgr7 hfr7 hst HOW HRW hlo6;refine hK.out _ _ trivial (fun hH=>?_);clear hK K
   try simp only[Act.put,ZA,ZB,ZC]
   refine ZT (i:=6) (v:=?vT6_6) rfl (Or.inl ⟨by rfl,?yT6_6⟩) ?_
   case yT6_6=>exact ZyQ
   exact Qla
  ·have hbx:=HCP.out;have p0:=Ja hbx 0;have p1:=Ja hbx 1;have p2:=Ja hbx 2;have p3:=Ja hbx 3;simp only[ZD,ZE,ZF]at p0 p1 p2 p3;go_simp;clear p0 p1 p2 p3 hbx;refine hK.out _ _ trivial (fun hH=>?_);clear hK K
   try simp only[Act.put,ZA,ZB,ZC]
   refine ZR (rs:=[1,3]) (AllReadyH.cons rfl (fun K hK=>?_) (AllReadyH.cons rfl (fun K hK=>?_) AllReadyH.nil))
   ·have hbx:=HTI.out.box;have b3:=Ja hbx 4;simp only[ZD,ZE,ZF]at b3;go_simp;clear b3 hbx;refine hK.out _ _ trivial (fun hH=>?_);clear hK K
    try simp only[Act.put,ZA,ZB,ZC]
    refine ZS 3 rfl (fun K hK=>?_);have ci:=HIH.out y _ _ HYS.out HYX.out
    (go_simp;go_at_call 56;refine ci.mono ?_;intro e w6 h6)
    clear ci;obtain⟨yb,rfl,hn6,hat6,hft6,hb6⟩:=h6;obtain⟨ca,cn,cm,hcy⟩:=Jf yb;have HN6:=Zh hn6;have HB6:=Zh hb6;have HCY:=Zh hcy;have HA6:=Zh hat6;have HF6:=Zh hft6;replace HCP:=Zh ((hb6.block _ (Jb HCP.out)).trans HCP.out);have HT6:=Zh (HTI.out.up hb6);have HOW:Hid ((w6.alloc (.cells (Qaa yb) 103)).ownsRow lo 103 5 (.slice va vn vc) Q.length (QcV Q)):=HT6.out.own.alloc _;have HRW:Hid ((w6.alloc (.cells (Qaa yb) 103)).heap[w6.heap.size]?=some (.cells (Qaa yb) 103 (0,0))):=zzw _ _;have hlo6:lo<=(w6.alloc (.cells (Qaa yb) 103)).heap.size:=by have:=HT6.out.low;rw[World.size_alloc];omega
    have HBX:=Zh HT6.out.box;rw[hcy]at HOW hlo6 |-;clear hn6 hat6 hft6 hb6 hcy;refine hK.out _ _ trivial (fun hH=>?_);clear hK K
    try simp only[Act.put,ZA,ZB,ZC]
    refine ZS 4 rfl (fun K hK=>?_);go_simp;refine hK.out _ _ trivial (fun hH=>?_);replace HBX:Hid ((w6.alloc (.cells #[.int .i64 yb.kind,.int .i64 yb.num,.string (bs yb.name),.int .i64 yb.off,.slice ca cn cm] 103)).heap[bx]?=some (.cells #[.int .i64 k,.int .i64 nn,.string (bs s),.int .i64 0,.slice va vn vc] 103 (0,0))):=Jg HBX.out;clear hK K
    try simp only[Act.put,ZA,ZB,ZC]
    refine ZS 5 rfl (fun K hK=>?_)
    (refine Kl (w6.alloc (.cells #[.int .i64 yb.kind,.int .i64 yb.num,.string (bs yb.name),.int .i64 yb.off,.slice ca cn cm] 103)) (by rfl) (.tmp 21) (.tmp 24) (by rfl) lo (.slice va vn vc) Q yb (by rfl) HOW.out w6.heap.size (by rfl) (by rw[<- HCY.out];exact HRW.out) HLN.out hlo6 ?_;intro v7 w7 hown7 hgr7 hfr7)
    obtain⟨a7,m7,c7,rfl⟩:=Jh hown7;have hst:=UnI.step (V':=.slice a7 m7 c7) HTI.out HB6.out HA6.out HF6.out hown7 hgr7 hfr7;replace HBX:=Zh hst.2;have HST:=Zh hst.1;clear hown7 hgr7 hfr7 hst HOW HRW hlo6;refine hK.out _ _ trivial (fun hH=>?_);clear hK K
    try simp only[Act.put,ZA,ZB,ZC]
    refine ZT (i:=6) (v:=?vT12_6) rfl (Or.inl ⟨by rfl,?yT12_6⟩) ?_
    case yT12_6=>exact ZyQ
    exact Qla
   ·have ci:=HIH.out y _ _ HYS.out HYX.out
    (go_simp;go_at_call 56;refine ci.mono ?_;intro e w6 h6)
    clear ci;obtain⟨yb,rfl,hn6,hat6,hft6,hb6⟩:=h6;obtain⟨ca,cn,cm,hcy⟩:=Jf yb;have HN6:=Zh hn6;have HB6:=Zh hb6;have HCY:=Zh hcy;have HA6:=Zh hat6;have HF6:=Zh hft6;replace HCP:=Zh ((hb6.block _ (Jb HCP.out)).trans HCP.out);have HT6:=Zh (HTI.out.up hb6);have HOW:Hid ((w6.alloc (.cells (Qaa yb) 103)).ownsRow lo 103 5 (.slice va vn vc) Q.length (QcV Q)):=HT6.out.own.alloc _;have HRW:Hid ((w6.alloc (.cells (Qaa yb) 103)).heap[w6.heap.size]?=some (.cells (Qaa yb) 103 (0,0))):=zzw _ _;have hlo6:lo<=(w6.alloc (.cells (Qaa yb) 103)).heap.size:=by have:=HT6.out.low;rw[World.size_alloc];omega
    have HBX:=Zh HT6.out.box;rw[hcy]at HOW hlo6 |-;clear hn6 hat6 hft6 hb6 hcy;refine hK.out _ _ trivial (fun hH=>?_);clear hK K
    try simp only[Act.put,ZA,ZB,ZC]
    refine ZR (rs:=[1,4]) (AllReadyH.cons rfl (fun K hK=>?_) (AllReadyH.cons rfl (fun K hK=>?_) AllReadyH.nil))
    ·have hbx:=HBX.out;have b3:=Ja hbx 4;simp only[ZD,ZE,ZF]at b3;go_simp;clear b3 hbx;refine hK.out _ _ trivial (fun hH=>?_);clear hK K
     try simp only[Act.put,ZA,ZB,ZC]
     refine ZS 4 rfl (fun K hK=>?_);go_simp;refine hK.out _ _ trivial (fun hH=>?_);replace HBX:Hid ((w6.alloc (.cells #[.int .i64 yb.kind,.int .i64 yb.num,.string (bs yb.name),.int .i64 yb.off,.slice ca cn cm] 103)).heap[bx]?=some (.cells #[.int .i64 k,.int .i64 nn,.string (bs s),.int .i64 0,.slice va vn vc] 103 (0,0))):=Jg HBX.out;clear hK K
     try simp only[Act.put,ZA,ZB,ZC]
     refine ZS 5 rfl (fun K hK=>?_)
     (refine Kl (w6.alloc (.cells #[.int .i64 yb.kind,.int .i64 yb.num,.string (bs yb.name),.int .i64 yb.off,.slice ca cn cm] 103)) (by rfl) (.tmp 21) (.tmp 24) (by rfl) lo (.slice va vn vc) Q yb (by rfl) HOW.out w6.heap.size (by rfl) (by rw[<- HCY.out];exact HRW.out) HLN.out hlo6 ?_;intro v7 w7 hown7 hgr7 hfr7)
     obtain⟨a7,m7,c7,rfl⟩:=Jh hown7;have hst:=UnI.step (V':=.slice a7 m7 c7) HTI.out HB6.out HA6.out HF6.out hown7 hgr7 hfr7;replace HBX:=Zh hst.2;have HST:=Zh hst.1;clear hown7 hgr7 hfr7 hst HOW HRW hlo6;refine hK.out _ _ trivial (fun hH=>?_);clear hK K
     try simp only[Act.put,ZA,ZB,ZC]
     refine ZT (i:=6) (v:=?vT17_6) rfl (Or.inl ⟨by rfl,?yT17_6⟩) ?_
     case yT17_6=>exact ZyQ
     exact Qla
    ·go_simp;refine hK.out _ _ trivial (fun hH=>?_);replace HBX:Hid ((w6.alloc (.cells #[.int .i64 yb.kind,.int .i64 yb.num,.string (bs yb.name),.int .i64 yb.off,.slice ca cn cm] 103)).heap[bx]?=some (.cells #[.int .i64 k,.int .i64 nn,.string (bs s),.int .i64 0,.slice va vn vc] 103 (0,0))):=Jg HBX.out;clear hK K
     try simp only[Act.put,ZA,ZB,ZC]
     refine ZS 1 rfl (fun K hK=>?_);have hbx:=HBX.out;have b3:=Ja hbx 4;simp only[ZD,ZE,ZF]at b3;go_simp;clear b3 hbx;refine hK.out _ _ trivial (fun hH=>?_);clear hK K
     try simp only[Act.put,ZA,ZB,ZC]
     refine ZS 5 rfl (fun K hK=>?_)
     (refine Kl (w6.alloc (.cells #[.int .i64 yb.kind,.int .i64 yb.num,.string (bs yb.name),.int .i64 yb.off,.slice ca cn cm] 103)) (by rfl) (.tmp 21) (.tmp 24) (by rfl) lo (.slice va vn vc) Q yb (by rfl) HOW.out w6.heap.size (by rfl) (by rw[<- HCY.out];exact HRW.out) HLN.out hlo6 ?_;intro v7 w7 hown7 hgr7 hfr7)
     obtain⟨a7,m7,c7,rfl⟩:=Jh hown7;have hst:=UnI.step (V':=.slice a7 m7 c7) HTI.out HB6.out HA6.out HF6.out hown7 hgr7 hfr7;replace HBX:=Zh hst.2;have HST:=Zh hst.1;clear hown7 hgr7 hfr7 hst HOW HRW hlo6;refine hK.out _ _ trivial (fun hH=>?_);clear hK K
     try simp only[Act.put,ZA,ZB,ZC]
     refine ZT (i:=6) (v:=?vT21_6) rfl (Or.inl ⟨by rfl,?yT21_6⟩) ?_
     case yT21_6=>exact ZyQ
     exact Qla
 ·have hil:¬ (i:Int)<(l.length:Int):=by omega
  obtain rfl:i=l.length:=by omega
  rw[List.take_length]at hnd;have HND:=Zh hnd;have HTI:=Zh hti;have hbx:=hti.box;have hrs:=hti.res;have b0:=Ja hbx 0;have b1:=Ja hbx 1;have b2:=Ja hbx 2;have b3:=Ja hbx 3;have b4:=Ja hbx 4;have z0:=Ja hrs 0;have z1:=Ja hrs 1;have z2:=Ja hrs 2;have z3:=Ja hrs 3;have z4:=Ja hrs 4;simp only[ZD,ZE,ZF]at b0 b1 b2 b3 b4 z0 z1 z2 z3 z4;have y0:=Jc hrs 0;have y1:=Jc hrs 1;have y2:=Jc hrs 2;have y3:=Jc hrs 3;have y4:=Jc hrs 4;clear hi hg hti hbx hrs hnd hkl;go_wp2;refine bodyPost_ret (v:=.agg #[.int .i64 k,.int .i64 nn,.string (bs s),.int .i64 0,.slice va vn vc]) (results_cell_row rfl _ _ rs 103 _ (0,0) _ rfl (Qct _ _ _ _ _ HTI.out.res) underlying103 rfl Qaw) rfl ?_;rw[HR.out];exact HTI.out.fin HND.out
theorem Yk:∀ n,n<=100000000->∀ (y:Exp) (d:Array Value) (W:World),siz (utN y)<=n->XAt W (In W) y d->Calls prog 56 #[.agg d] W (UtP W y)
 |0,_,y,d,W,h,_=>by have:=VC (utN y);omega
 |n+1,hn,.mk k nn s l,d,W,h,hx=>by
  rw[utN,JG]at h;obtain⟨ad,cc,rfl,_,hK⟩:=hx.kids;exact JcP n (Yk n (by omega)) k nn s l ad cc W (by omega) (by omega) hK
theorem In.up{w W:World}(hb:Below w.heap.size w W){b:Nat}(h:In w b):In W b:=Nat.lt_of_lt_of_le h hb.size
theorem QbF.up{w W:World}{l:List Int}{v:Value}(h:QbF w (In w) l v)(hb:Below w.heap.size w W):QbF W (In W) l v:=QbF.keep (fun b hP=>hb.block b hP) (fun b hP=>In.up hb hP) h
theorem QbF.form{W:World}{P:Nat->Prop}{l:List Int}{v:Value}(h:QbF W P l v):∃ ad cc,v=.slice ad l.length cc/\l.length<=cc:=by
 obtain⟨ad,cc,h1,h2,_⟩:=h;exact⟨ad,cc,h1,h2⟩
theorem QbF.get{W:World}{l:List Int}{ad:Option Addr}{m cc:Nat}(h:QbF W (In W) l (.slice ad m cc)){i:Nat}{n:Int}(hi:l[i]?=some n):∃ b o,ad=some ⟨b,o,none⟩/\b<W.heap.size/\W.cell? ⟨b,o+i,none⟩=some (.int .i64 n):=by
 obtain⟨ad',cc',h1,_,h3⟩:=h;injection h1 with e1 e2 e3;subst e1
 rcases h3 with h|⟨b,o,h4,h5,h6⟩
 ·rw[h]at hi
  cases hi
 ·exact⟨b,o,h4,h5,h6 i n hi⟩
def Qcz(W:World)(v:Value)(fs:List FnM):Prop:=QaI W (In W) (FnX W (In W)) fs v
def Qee(W:World)(v:Value)(cs:List ClM):Prop:=QaI W (In W) (ClX W (In W)) cs v
theorem Qcz.up{w W:World}{v:Value}{fs:List FnM}(h:Qcz w v fs)(hb:Below w.heap.size w W):Qcz W v fs:=QaI.keep (fun b hP=>hb.block b hP) (fun b hP=>In.up hb hP) (FnX.keep (fun b hP=>hb.block b hP) (fun b hP=>In.up hb hP)) h
theorem Qee.up{w W:World}{v:Value}{cs:List ClM}(h:Qee w v cs)(hb:Below w.heap.size w W):Qee W v cs:=QaI.keep (fun b hP=>hb.block b hP) (fun b hP=>In.up hb hP) (ClX.keep (fun b hP=>hb.block b hP) (fun b hP=>In.up hb hP)) h
theorem Qcz.form{W:World}{v:Value}{fs:List FnM}(h:Qcz W v fs):∃ ad cc,v=.slice ad fs.length cc/\fs.length<=cc:=by
 obtain⟨ad,cc,h1,h2,_⟩:=QaI.get FnX.len h;exact⟨ad,cc,h1,h2⟩
theorem Qee.form{W:World}{v:Value}{cs:List ClM}(h:Qee W v cs):∃ ad cc,v=.slice ad cs.length cc/\cs.length<=cc:=by
 obtain⟨ad,cc,h1,h2,_⟩:=QaI.get ClX.len h;exact⟨ad,cc,h1,h2⟩
structure FnC(W:World)(b o:Nat)(f:FnM)(pa:Option Addr)(pc:Nat)(da:Option Addr)(dc:Nat):Prop where
 nums:QbF W (In W) f.params (.slice pa f.params.length pc)
 ple:f.params.length<=pc
 body:XAt W (In W) f.body #[.int .i64 f.body.kind,.int .i64 f.body.num,.string (bs f.body.name),.slice da f.body.kids.length dc]
 blt:b<W.heap.size
 c0:W.cell? ⟨b,o,none⟩=some (.string (bs f.name))
 c1:W.cell? ⟨b,o+1,none⟩=some (.slice pa f.params.length pc)
 c2:W.cell? ⟨b,o+2,none⟩=some (.int .i64 f.result)
 c3:W.cell? ⟨b,o+3,none⟩=some (.int .i64 f.body.kind)
 c4:W.cell? ⟨b,o+4,none⟩=some (.int .i64 f.body.num)
 c5:W.cell? ⟨b,o+5,none⟩=some (.string (bs f.body.name))
 c6:W.cell? ⟨b,o+6,none⟩=some (.slice da f.body.kids.length dc)
theorem Qcz.get{W:World}{ad:Option Addr}{m cc:Nat}{fs:List FnM}(h:Qcz W (.slice ad m cc) fs){i:Nat}{f:FnM}(hi:fs[i]?=some f):∃ b o pa pc da dc,ad=some ⟨b,o,none⟩/\FnC W b (o+i*7) f pa pc da dc:=by
 obtain⟨ad',cc',h1,_,h3⟩:=QaI.get FnX.len h;injection h1 with e1 e2 e3;subst e1;obtain⟨b,o,h4,h5,h6⟩:=h3 (List.ne_nil_of_mem (List.mem_of_getElem? hi));obtain⟨c,⟨v,d,h7,h8,h9⟩,h10⟩:=h6 i f hi;obtain⟨pa,pc,rfl,hp⟩:=h7.form;obtain⟨da,dc,rfl,_⟩:=h8.form;subst h9;exact⟨b,o,pa,pc,da,dc,h4,h7,hp,h8,h5,h10 0 _ rfl,h10 1 _ rfl,h10 2 _ rfl,h10 3 _ rfl,h10 4 _ rfl,h10 5 _ rfl,h10 6 _ rfl⟩
structure ClC(W:World)(b o:Nat)(c:ClM)(da:Option Addr)(dc:Nat):Prop where
 cond:XAt W (In W) c.cond #[.int .i64 c.cond.kind,.int .i64 c.cond.num,.string (bs c.cond.name),.slice da c.cond.kids.length dc]
 blt:b<W.heap.size
 c0:W.cell? ⟨b,o,none⟩=some (.int .i64 c.cond.kind)
 c1:W.cell? ⟨b,o+1,none⟩=some (.int .i64 c.cond.num)
 c2:W.cell? ⟨b,o+2,none⟩=some (.string (bs c.cond.name))
 c3:W.cell? ⟨b,o+3,none⟩=some (.slice da c.cond.kids.length dc)
 c4:W.cell? ⟨b,o+4,none⟩=some (.int .i64 c.action)
 c5:W.cell? ⟨b,o+5,none⟩=some (.string (bs c.reason))
theorem Qee.get{W:World}{ad:Option Addr}{m cc:Nat}{cs:List ClM}(h:Qee W (.slice ad m cc) cs){i:Nat}{c:ClM}(hi:cs[i]?=some c):∃ b o da dc,ad=some ⟨b,o,none⟩/\ClC W b (o+i*6) c da dc:=by
 obtain⟨ad',cc',h1,_,h3⟩:=QaI.get ClX.len h;injection h1 with e1 e2 e3;subst e1;obtain⟨b,o,h4,h5,h6⟩:=h3 (List.ne_nil_of_mem (List.mem_of_getElem? hi));obtain⟨cl,⟨d,h8,h9⟩,h10⟩:=h6 i c hi;obtain⟨da,dc,rfl,_⟩:=h8.form;subst h9;exact⟨b,o,da,dc,h4,h8,h5,h10 0 _ rfl,h10 1 _ rfl,h10 2 _ rfl,h10 3 _ rfl,h10 4 _ rfl,h10 5 _ rfl⟩
def Qck(w:World)(v:Value)(e:Ending)(w':World):Prop:=e=.returned v/\Below w.heap.size w w'
end Go.Proofs.YtdlkcjkjnehnkaaGreatDoor
