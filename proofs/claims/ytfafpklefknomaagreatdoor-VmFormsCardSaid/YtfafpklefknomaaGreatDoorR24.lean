import Derived.Test.YtfafpklefknomaaGreatDoorR22
import Derived.Test.YtfafpklefknomaaGreatDoorR23
open Nat(le_trans)
namespace Go.Proofs.YtfafpklefknomaaGreatDoor
open _root_.Go.Proofs.Tryz
set_option linter.all false
set_option maxRecDepth 100000
set_option maxHeartbeats 32000000
def JhL{s:By}(h:(QaU s).isSome=true):s.length<=1000000:=by
 unfold QaU at h;split at h
 ·rename_i hm;simp only[List.mem_cons,List.not_mem_nil,or_false]at hm
  rcases hm with rfl|rfl|rfl|rfl|rfl|rfl|rfl|rfl<;>decide
 ·split at h
  ·rename_i hm;simp only[List.mem_cons,List.not_mem_nil,or_false]at hm
   rcases hm with rfl|rfl<;>decide
  ·cases h
def JdY{nf vars:Nat}{k n:Int}{s:By}(h:Qam nf vars k n s=true):s.length<=1000000:=by
 unfold Qam at h;simp only[Bool.and_eq_true,decide_eq_true_eq]at h;have hs:=h.1.1.2;split at hs
 ·exact JhL hs
 split at hs
 ·unfold QcD at hs;simp only[Bool.and_eq_true,decide_eq_true_eq]at hs;omega
 ·simp at hs;subst hs;simp
mutual
def Yz{pa:List Nat}:∀(e:Exp) (vars Qag:Nat),QaK pa vars Qag e=true->QdK pa.length vars (utN e)/\WfN (utN e)
 |.mk k n s l,vars,Qag,h=>by
  obtain⟨_,hf,ha,hl⟩:=JI h;have hnm:=JdY hf;have hlen:=Jz l
  by_cases h19:k=19
  ·subst h19;obtain⟨a,b,rfl⟩:=JT (show l.length=2 from ha);obtain⟨fa,fb⟩:=Kb hl;obtain⟨a1,a2⟩:=Yz a _ _ fa;obtain⟨b1,b2⟩:=Yz b _ _ fb;rw[utN,utL,utL,utL];simp at b1;refine⟨?_,wf2 (by decide) hnm a2 b2⟩;unfold QdK;exact⟨λh=>absurd h (by decide),λh=>absurd h (by decide),a1,b1⟩
  ·obtain⟨q1,q2⟩:=Jfa l vars (Qag-1) k 0 h19 hl;rw[utN];unfold Qam at hf;simp only[Bool.and_eq_true,decide_eq_true_eq]at hf;have hn:=hf.1.1.1;refine⟨JbC (λh=>?_) (λh=>?_) h19 q1,Vs.2 ⟨λh=>absurd h h19,λh=>?_,λh=>?_,hnm,q2⟩⟩
   ·subst h;simp at hn;exact hn
   ·subst h;simp at hn;exact hn
   ·subst h;rw[hlen];exact ha
   ·subst h;rw[hlen];exact ha
def Jfa{pa:List Nat}:∀(l:List Exp) (vars Qag:Nat) (k:Int) (i:Nat),k≠19->QaB pa vars Qag k i l=true->QdJ pa.length vars (utL l)/\WfL (utL l)
 |[],vars,Qag,k,i,hk,h=>by
  rw[utL];unfold QdJ;exact⟨trivial,VA⟩
 |a::l,vars,Qag,k,i,hk,h=>by
  rw[QaB]at h;simp only[Bool.and_eq_true]at h;rw[if_neg λh=>hk h.1]at h;obtain⟨a1,a2⟩:=Yz a _ _ h.1;obtain⟨b1,b2⟩:=Jfa l _ _ _ _ hk h.2;rw[utL];unfold QdJ;exact⟨⟨a1,b1⟩,JS.2 ⟨a2,b2⟩⟩
end
open Go.ChangeShapes Go.WideShapes Go.ChangeAt Go.RowKit Go.Lib
def In(W:World)(b:Nat):Prop:=b<W.heap.size
def XAt.up{w W:World}{e:Exp}{c:Array Value}(h:XAt w (In w) e c)(hb:Below w.heap.size w W):XAt W (In W) e c:=
 XAt.keep (λb hP=>hb.block b hP) (λb hP=>Nat.lt_of_lt_of_le hP hb.size) _ _ h
structure UnI(w:World)(rs bx lo:Nat)(k n:Int)(s:By)(W:World)(l:List An)(V:Value):Prop where
 own:W.ownsRow lo 127 5 V l.length (Qdb l)
 nil:l=[]->V=Nl
 ats:∀a∈l,a.At W
 fts:∀b∈Qak l,lo<=b/\b<W.heap.size
 dis:∀g,V.ownBlock=some g->g∉Qak l
 box:W.heap[bx]?=some (.cells #[Iv k,Iv n,Sv s,Iv 0,V] 127 (0,0))
 res:W.heap[rs]?=some (.cells #[Iv 0,Iv 0,Em,Iv 0,Nl] 127 (0,0))
 bel:Below w.heap.size w W
 low:w.heap.size<=rs/\rs<bx/\bx<lo/\lo<=W.heap.size
section
variable {w:World} {rs bx lo:Nat} {k n:Int} {s:By} {W W':World} {l:List An} {V:Value}
def UnI.up(h:UnI w rs bx lo k n s W l V)(hb:Below W.heap.size W W'):UnI w rs bx lo k n s W' l V:=by
 obtain⟨l1,l2,l3,l4⟩:=h.low;have hc:=Chg.of_below hb []
 exact⟨JA h.own hc zq,h.nil,λa ha=>Jct (h.ats a ha) hb,λb hm=>⟨(h.fts b hm).1,Nat.lt_of_lt_of_le (h.fts b hm).2 hb.size⟩,h.dis,(hb.block _ (Jb h.box)).trans h.box,(hb.block _ (Jb h.res)).trans h.res,
  zj,l1,l2,l3,le_trans l4 hb.size⟩
def UnI.step{w1 w6 w7:World}{b:An}{V':Value}{X:Obj}(h:UnI w rs bx lo k n s w1 l V)(hb:Below w1.heap.size w1 w6)(hbt:b.At w6)(hbf:∀q∈foot b,w1.heap.size<=q/\q<w6.heap.size)
  (hown:w7.ownsRow lo 127 5 V' (l++[b]).length (Qdb (l++[b]))) (hgr:(w6.alloc X).grownBy w7 V.ownBlock) (hfr:V'.ownBlock=V.ownBlock\/V'.ownBlock=some (w6.alloc X).heap.size) :
  UnI w rs bx lo k n s (w7.setCell ⟨bx,4,none⟩ V') (l++[b]) V'/\w7.heap[bx]?=some (.cells #[Iv k,Iv n,Sv s,Iv 0,V] 127 (0,0)):=by
 have h6:=h.up hb;obtain⟨l1,l2,l3,l4⟩:=h6.low;have hrow:∀g,V.ownBlock=some g->lo<=g/\g<w1.heap.size:=λg hg=>h.own.lt g hg
 have hc7:=JP hgr;have hbx7:w7.heap[bx]?=some (.cells #[Iv k,Iv n,Sv s,Iv 0,V] 127 (0,0)):=hc7.heap_some (λhm=>by have:=(hrow bx (by simpa using hm)).1;omega) h6.box;have hst:Chg [bx] w7 (w7.setCell ⟨bx,4,none⟩ V'):=(Chg.refl _ _).setCell (.inl (by simp:bx∈[bx])) (p:=⟨bx,4,none⟩) V';have hkeep:∀q,q<w6.heap.size->V.ownBlock≠some q->q≠bx->(w7.setCell ⟨bx,4,none⟩ V').heap[q]?=w6.heap[q]?:=λq hq hn hne=>(hst.block q (Nat.lt_of_lt_of_le hq hc7.size) (by simpa using hne)).trans (hc7.block q hq (by simpa using hn))
 have hsz:w6.heap.size<=(w7.setCell ⟨bx,4,none⟩ V').heap.size:=le_trans hc7.size hst.size;have yA:=hb.size
 have hft:∀q∈Qak (l++[b]),lo<=q/\q<w6.heap.size:=by
  intro q hq;rw[Vw]at hq
  rcases List.mem_append.1 hq with hq|hq
  ·exact h6.fts q hq
  ·have h1:=hbf q hq;have:=h.low;exact⟨by omega,h1.2⟩
 have xA:∀q∈Qak (l++[b]),V.ownBlock≠some q:=by
  intro q hq e;rw[Vw]at hq
  rcases List.mem_append.1 hq with hq|hq
  ·exact h.dis q e hq
  ·have h1:=(hrow q e).2;have h2:=(hbf q hq).1;omega
 refine⟨⟨JA hown hst zr,λe=>by simp at e,λa ha=>?_,λq hq=>?_,λg hg hm=>?_,?_,?_,?_,l1,l2,l3,le_trans l4 hsz⟩,hbx7⟩
 ·have ha2:a.At w6:=by
   rcases List.mem_append.1 ha with ha'|ha'
   ·exact h6.ats a ha'
   ·obtain rfl:a=b:=by simpa using ha'
    exact hbt
  exact JK a ha2 λq hq=>hkeep q (hft q (JC ha q hq)).2 (xA q (JC ha q hq)) (zu ((hft q (JC ha q hq)).1))
 ·have:=hft q hq;omega
 ·have h1:=hft g hm
  rcases hfr with e|e
  ·exact xA g hm (e.symm.trans hg)
  ·rw[e]at hg;simp at hg;omega
 ·exact Jm hbx7 4 V'
 ·exact(hkeep _ (Jb h6.res) (λe1=>by have h1:=(hrow _ e1).1;omega) zo).trans h6.res
 ·have zA:w.heap.size<=w6.heap.size:=h6.bel.size;exact QjC
def UtP(w:World)(x:Exp)(e:Ending)(w':World):Prop:=∃a:An,e=.returned (.agg (Qaa a))/\a.nd=utN x/\a.At w'/\(∀b∈foot a,w.heap.size<=b/\b<w'.heap.size)/\Below w.heap.size w w'
def UnI.fin{L:List Exp}(h:UnI w rs bx lo k n s W l V)(hl:ndL l=utL L):UtP w (.mk k n s L) (.returned (.agg #[Iv k,Iv n,Sv s,Iv 0,V])) (put5 W rs (Iv k) (Iv n) (Sv s) (Iv 0) V):=by
 obtain⟨l1,l2,l3,l4⟩:=h.low;have hst:=Kj (S:=[rs]) (W:=W) (Iv k) (Iv n) (Sv s) (Iv 0) V (by simp:rs∈[rs]);have hsz:=hst.size;have hbel:Below w.heap.size w (put5 W rs (Iv k) (Iv n) (Sv s) (Iv 0) V):=((((h.bel.setCell l1 _).setCell l1 _).setCell l1 _).setCell l1 _).setCell l1 _;have xA:∀g c,(An.mk k n s 0 g c l).nd=utN (.mk k n s L):=λg c=>by unfold An.nd;rw[utN,hl]
 by_cases hnil:l=[]
 ·subst hnil;obtain rfl:=h.nil rfl;refine⟨.mk k n s 0 0 0 [],rfl,xA 0 0,?_,?_,hbel⟩
  ·unfold An.At AtL;exact⟨λh=>absurd rfl h,trivial⟩
  ·intro b hb;rw[KQ,if_pos rfl]at hb
   cases hb
 ·rcases h.own.2 with⟨_,e⟩|⟨g,c,cur,rfl,hg,hgg,hn,hm,hs,ht⟩
  ·exact absurd (List.eq_nil_of_length_eq_zero e) hnil
  have hlt:=Jb hgg;have hrow:=hst.heap_some (k:=g) zr hgg;refine⟨.mk k n s 0 g c l,?_,xA g c,?_,?_,hbel⟩
  ·show _=Ending.returned (.agg #[_,_,_,_,Qaz g c l])
   unfold Qaz;rw[if_neg hnil]
  ·unfold An.At;refine⟨λ_ j=>Jc hrow j,KN l 0 (λj u hu=>?_) λa ha=>?_⟩
   ·rw[Nat.zero_mul,Nat.zero_add,Ja hrow];rw[<- ht,List.getElem?_take]at hu;split at hu
    ·simpa using hu
    ·cases hu
   ·exact JK a (h.ats a ha) λb hb=>by
     have:=h.fts b (JC ha b hb);exact hst.block b this.2 zr
  ·intro b hb;rw[KQ,if_neg hnil]at hb
   rcases List.mem_cons.1 hb with rfl|hb
   ·omega
   ·have:=h.fts b hb;omega
end
def Jmm(l:List Exp)(a:Exp):utL (l++[a])=utL l++[utN a]:=by
 induction l with
 |nil=>simp[utL]
 |cons x r ih=>simp[utL,ih]
def JhM(l:List Exp):utL l=l.map utN:=by
 induction l with
 |nil=>rw[utL];rfl
 |cons a l ih=>rw[utL,ih];rfl
def K6{l:List Exp}{y:Exp}(h:y∈l):siz (utN y)<=Qbd (utL l):=JeK (by rw[JhM];exact List.mem_map.2 ⟨y,h,rfl⟩)
def JhN(l:List Exp):l.length<=Qbd (utL l):=by have:=JeL (utL l);rw[Jz]at this;exact this
def QeF(w:World)(ad:Option Addr)(l:List Exp):Prop:=l≠[]->∃b o,ad=some ⟨b,o,none⟩/\b<w.heap.size/\∀i e,l[i]?=some e->∃d,XAt w (In w) e d/\∀j u,d[j]?=some u->w.cell? ⟨b,o+i*4+j,none⟩=some u
def QeF.at'{w W:World}{ad:Option Addr}{l:List Exp}(h:QeF w ad l)(hb:Below w.heap.size w W){i:Nat}{y:Exp}(hi:l[i]?=some y) :
  ∃b o da dc,ad=some ⟨b,o,none⟩/\XAt W (In W) y #[Iv y.kind,Iv y.num,.string (bs y.name),.slice da y.kids.length dc]/\W.cell? ⟨b,o+i*4,none⟩=some (Iv y.kind)/\
   W.cell? ⟨b,o+i*4+1,none⟩=some (Iv y.num)/\W.cell? ⟨b,o+i*4+2,none⟩=some (.string (bs y.name))/\W.cell? ⟨b,o+i*4+3,none⟩=some (.slice da y.kids.length dc):=by
 obtain⟨b,o,h1,h2,h3⟩:=h (List.ne_nil_of_mem (List.mem_of_getElem? hi));obtain⟨d,h4,h5⟩:=h3 i y hi;obtain⟨da,dc,rfl,_⟩:=h4.form;have hc:∀j u,_->W.cell? ⟨b,o+i*4+j,none⟩=some u:=λj u hu=>(World.cell?_of_block (a:=⟨b,o+i*4+j,none⟩) (hb.block b h2)).trans (h5 j u hu)
 exact⟨b,o,da,dc,h1,h4.up hb,hc 0 _ rfl,hc 1 _ rfl,hc 2 _ rfl,hc 3 _ rfl⟩
def XAt.kids{w:World}{k n:Int}{s:By}{l:List Exp}{c:Array Value}(h:XAt w (In w) (.mk k n s l) c):∃ad cc,c=#[Iv k,Iv n,Sv s,.slice ad l.length cc]/\l.length<=cc/\QeF w ad l:=by
 obtain⟨ad,cc,h1,h2,h3⟩:=h.kid;exact⟨ad,cc,h1,h2,h3⟩
theorem QiB{P:Prop}(h:P:=by
  try simp only[Act.put,ZA,ZB,ZC]
  refine ZS 7 rfl (λK hK=>?_);have hbx:=HBX.o;have b3:=Ja hbx 4;have f3:=Jc hbx 4;have hl7:=Jb hbx;simp only[ZD,ZE,ZF]at b3;go_simp;clear b3 hbx f3 hl7 HBX;refine hK.out _ _ trivial (λhH=>?_);clear hK K
  try simp only[Act.put,ZA,ZB,ZC]
  refine wpAnyH_done (by kernel_rfl) ?_ _;have HB7:Hi (Below w.heap.size w (w7.setCell ⟨bx,4,none⟩ (.slice a7 m7 c7))):=HST.o.bel;go_wp2;go_roundg (l.length-(i+1))
  case measure=>have:=HG.o;omega
  case rel=>exact⟨i+1,by omega,by go_num,⟨Q++[yb],_,by rw[Vf,HN6.o];exact HTS.o,by rw[List.length_append,HKL.o];rfl,HST.o⟩,HB7⟩):P:=h
def JdZ(n:Nat)(IH:∀(y:Exp) (d:Array Value) (W:World),siz (utN y)<=n->XAt W (In W) y d->Calls prog 58 #[.agg d] W (UtP W y))(k nn:Int)(s:By)(l:List Exp)(ad:Option Addr)(cc:Nat)(w:World)(hn:Qbd (utL l)<=n)(hb:n<=100000000)(hK:QeF w ad l) :
  Calls prog 58 #[.agg #[Iv k,Iv nn,Sv s,.slice ad l.length cc]] w (UtP w (.mk k nn s l)):=by
 obtain⟨R,hR⟩:∃R,UtP w (.mk k nn s l)=R:=⟨_,rfl⟩
 rw[hR];have HR:Hi (R=UtP w (.mk k nn s l)):=hR.symm;have nA:Below w.heap.size w (((w.alloc (.cells #[Iv k,Iv nn,Sv s,.slice ad l.length cc] 37)).alloc (.cells #[Iv 0,Iv 0,Em,Iv 0,Nl] 127)).alloc (.cells #[Iv k,Iv nn,Sv s,Iv 0,Nl] 127)):=((zO.alloc (Nat.le_refl _) _).alloc zq _).alloc zr _
 have mA:Hi (UnI w (w.heap.size+1) (w.heap.size+1+1) (w.heap.size+1+1+1) k nn s (((w.alloc (.cells #[Iv k,Iv nn,Sv s,.slice ad l.length cc] 37)).alloc (.cells #[Iv 0,Iv 0,Em,Iv 0,Nl] 127)).alloc (.cells #[Iv k,Iv nn,Sv s,Iv 0,Nl] 127)) [] Nl):=by
  have e1:=zQ (w.alloc (.cells #[Iv k,Iv nn,Sv s,.slice ad l.length cc] 37)) (.cells #[Iv 0,Iv 0,Em,Iv 0,Nl] 127);have e2:=zQ ((w.alloc (.cells #[Iv k,Iv nn,Sv s,.slice ad l.length cc] 37)).alloc (.cells #[Iv 0,Iv 0,Em,Iv 0,Nl] 127)) (.cells #[Iv k,Iv nn,Sv s,Iv 0,Nl] 127);simp only[World.size_alloc]at e1 e2;exact⟨World.ownsRow_nil _ _ _ _,λ_=>rfl,by simp,by simp[Qak],by simp[Qak],e2,Jf e1,nA,by omega,by omega,by omega,by simp⟩
 have HNB:Hi ((((w.alloc (.cells #[Iv k,Iv nn,Sv s,.slice ad l.length cc] 37)).alloc (.cells #[Iv 0,Iv 0,Em,Iv 0,Nl] 127)).alloc (.cells #[Iv k,Iv nn,Sv s,Iv 0,Nl] 127)).heap[w.heap.size]?=some (.cells #[Iv k,Iv nn,Sv s,.slice ad l.length cc] 37 (0,0))):=Jf (Jf (zQ _ _));have HKX:=Zh hK;have iA:=Zh IH;have sA:l.length<=100000000:=by have:=JhN l;omega
 have HSZ:=Zh hn;clear hR nA IH hK hn;go_enter func58,ntmps58;go_wp2_with fail;generalize World.alloc (World.alloc (World.alloc w _) _) _=w1 at *;generalize w.heap.size+1+1+1=lo at *;generalize w.heap.size+1+1=bx at *;generalize w.heap.size+1=rs at *;have tA:Hi (w.heap.size<w1.heap.size):=Jb HNB.o;have n4:=Ja HNB.o 3;simp only[zW]at n4;go_wp2_with fail;clear n4;go_loopg [16] l.length λg v16 wr=>∃i:Nat,g+i=l.length/\v16=Iv i/\Hi (∃Q V,ndL Q=utL (l.take i)/\Q.length=i/\UnI w rs bx lo k nn s wr Q V)/\Hi (Below w.heap.size w wr)
 case atStart=>exact⟨0,rfl,rfl,⟨[],_,by simp[ndL,utL],rfl,mA.o⟩,mA.o.bel⟩
 case round=>
 clear mA HNB;obtain⟨wl,rfl⟩:=zJ wr;obtain⟨i,hg,rfl,aA,hbw⟩:=hrel;obtain⟨Q,V,gA,jA,pA⟩:=aA.o;clear aA;have aA:=pA;clear pA;obtain⟨va,vn,vc,rfl⟩:=Jk aA.own
 by_cases hi:i<l.length
 ·have hil:(i:Int)<(l.length:Int):=zo;obtain⟨y,hy⟩:∃y,l[i]?=some y:=⟨l[i],List.getElem?_eq_getElem hi⟩
  have hmem:=List.mem_of_getElem? hy;obtain⟨b,o,da,dc,rA,hxy,c0,c1,c2,c3⟩:=HKX.o.at' hbw.o hy;have wk:=zI i;have hb2:Below wl.heap.size wl (wl.alloc (.cells #[Iv y.kind,Iv y.num,.string (bs y.name),.slice da y.kids.length dc] 37)):=zO.alloc (Nat.le_refl _) _;have zA:=Zh (aA.up hb2);have eA:=Zh (hxy.up hb2);have HCP:=Zh (zQ wl (.cells #[Iv y.kind,Iv y.num,.string (bs y.name),.slice da y.kids.length dc] 37));have HTS:Hi (ndL Q++[utN y]=utL (l.take (i+1))):=by rw[Hi,gA,List.take_add_one,hy];show _=utL (_++[y]);rw[Jmm]
  have hA:Hi (Q.length<=100000000):=by rw[Hi];omega
  have kA:Hi (siz (utN y)<=n):=by have:=K6 hmem;have:=HSZ.o;rw[Hi];omega
  have HKL:=Zh jA;have HG:=Zh hg;subst rA;clear hb2 aA hy hmem hg hxy hbw gA jA;go_upto_region 5 with fail;clear c0 c1 c2 c3;generalize World.alloc wl _=wk0 at *;generalize wl.heap.size=cb at *;refine wp_region_held_drew (S:=λ_=>True) zk (trivial) λhH=>?_;have hD:Below wk0.heap.size wk0 wk0.drew:=(Below.refl wk0.heap.size wk0).drew;replace zA:=Zh (zA.o.up hD);replace eA:=Zh (eA.o.up hD);replace HCP:=Zh ((hD.block _ (Jb HCP.o)).trans HCP.o);clear hD;generalize wk0.drew=wk1 at *;refine zK 0 ?_
  try simp only[zX]
  refine ZR (rs:=[1,2]) (AllReadyH.cons rfl (λK hK=>?_) (AllReadyH.cons rfl (λK hK=>?_) AllReadyH.nil))
  ·have hbx:=zA.o.box;have b3:=Ja hbx 4;simp only[zW]at b3;go_simp;clear b3 hbx;refine zU hK trivial λhH=>?_;clear hK K
   try simp only[zX]
   refine ZS 2 rfl λK hK=>?_;have hbx:=HCP.o;have p0:=Ja hbx 0;have p1:=Ja hbx 1;have p2:=Ja hbx 2;have p3:=Ja hbx 3;simp only[zW]at p0 p1 p2 p3;go_simp;clear p0 p1 p2 p3 hbx;refine zU hK trivial λhH=>?_;clear hK K
   try simp only[zX]
   refine ZS 3 rfl λK hK=>?_;have ci:=iA.o y _ _ kA.o eA.o
   (go_simp;go_at_call 58;refine ci.mono ?_;intro e w6 h6)
   clear ci;obtain⟨yb,rfl,bA,xA,yA,hb6⟩:=h6;obtain⟨ca,cn,cm,uA⟩:=Jg yb;have HN6:=Zh bA;have HB6:=Zh hb6;have dA:=Zh uA;have cA:=Zh xA;have HF6:=Zh yA;replace HCP:=Zh ((hb6.block _ (Jb HCP.o)).trans HCP.o);have vA:=Zh (zA.o.up hb6);have HOW:Hi ((w6.alloc (.cells (Qaa yb) 127)).ownsRow lo 127 5 (.slice va vn vc) Q.length (Qdb Q)):=vA.o.own.alloc _;have HRW:Hi ((w6.alloc (.cells (Qaa yb) 127)).heap[w6.heap.size]?=some (.cells (Qaa yb) 127 (0,0))):=zQ _ _;have hlo6:lo<=(w6.alloc (.cells (Qaa yb) 127)).heap.size:=by have:=vA.o.low;rw[World.size_alloc];omega
   have HBX:=Zh vA.o.box;rw[uA]at HOW hlo6 |-;clear bA xA yA hb6 uA;refine zU hK trivial λhH=>?_;clear hK K
   try simp only[zX]
   refine ZS 4 rfl λK hK=>?_;go_simp;refine zU hK trivial λhH=>?_;replace HBX:Hi ((w6.alloc (.cells #[Iv yb.kind,Iv yb.num,.string (bs yb.name),Iv yb.off,.slice ca cn cm] 127)).heap[bx]?=some (.cells #[Iv k,Iv nn,Sv s,Iv 0,.slice va vn vc] 127 (0,0))):=Jf HBX.o;clear hK K
   try simp only[zX]
   refine ZS 5 rfl λK hK=>?_
   (refine Km (w6.alloc (.cells #[Iv yb.kind,Iv yb.num,.string (bs yb.name),Iv yb.off,.slice ca cn cm] 127)) zt (.tmp 21) (.tmp 24) zt lo (.slice va vn vc) Q yb zt HOW.o w6.heap.size zt (by rw[<- dA.o];exact HRW.o) hA.o hlo6 ?_;intro v7 w7 hown7 hgr7 hfr7)
   obtain⟨a7,m7,c7,rfl⟩:=Jk hown7;have hst:=UnI.step (V':=.slice a7 m7 c7) zA.o HB6.o cA.o HF6.o hown7 hgr7 hfr7;replace HBX:=Zh hst.2;have HST:=Zh hst.1;clear hown7 hgr7 hfr7 hst HOW HRW hlo6;refine zU hK trivial λhH=>?_;clear hK K
   try simp only[zX]
   refine zK 6 ?_
   exact QiB
  ·have hbx:=HCP.o;have p0:=Ja hbx 0;have p1:=Ja hbx 1;have p2:=Ja hbx 2;have p3:=Ja hbx 3;simp only[zW]at p0 p1 p2 p3;go_simp;clear p0 p1 p2 p3 hbx;refine zU hK trivial λhH=>?_;clear hK K
   try simp only[zX]
   refine ZR (rs:=[1,3]) (AllReadyH.cons rfl (λK hK=>?_) (AllReadyH.cons rfl (λK hK=>?_) AllReadyH.nil))
   ·have hbx:=zA.o.box;have b3:=Ja hbx 4;simp only[zW]at b3;go_simp;clear b3 hbx;refine zU hK trivial λhH=>?_;clear hK K
    try simp only[zX]
    refine ZS 3 rfl λK hK=>?_;have ci:=iA.o y _ _ kA.o eA.o
    (go_simp;go_at_call 58;refine ci.mono ?_;intro e w6 h6)
    clear ci;obtain⟨yb,rfl,bA,xA,yA,hb6⟩:=h6;obtain⟨ca,cn,cm,uA⟩:=Jg yb;have HN6:=Zh bA;have HB6:=Zh hb6;have dA:=Zh uA;have cA:=Zh xA;have HF6:=Zh yA;replace HCP:=Zh ((hb6.block _ (Jb HCP.o)).trans HCP.o);have vA:=Zh (zA.o.up hb6);have HOW:Hi ((w6.alloc (.cells (Qaa yb) 127)).ownsRow lo 127 5 (.slice va vn vc) Q.length (Qdb Q)):=vA.o.own.alloc _;have HRW:Hi ((w6.alloc (.cells (Qaa yb) 127)).heap[w6.heap.size]?=some (.cells (Qaa yb) 127 (0,0))):=zQ _ _;have hlo6:lo<=(w6.alloc (.cells (Qaa yb) 127)).heap.size:=by have:=vA.o.low;rw[World.size_alloc];omega
    have HBX:=Zh vA.o.box;rw[uA]at HOW hlo6 |-;clear bA xA yA hb6 uA;refine zU hK trivial λhH=>?_;clear hK K
    try simp only[zX]
    refine ZS 4 rfl λK hK=>?_;go_simp;refine zU hK trivial λhH=>?_;replace HBX:Hi ((w6.alloc (.cells #[Iv yb.kind,Iv yb.num,.string (bs yb.name),Iv yb.off,.slice ca cn cm] 127)).heap[bx]?=some (.cells #[Iv k,Iv nn,Sv s,Iv 0,.slice va vn vc] 127 (0,0))):=Jf HBX.o;clear hK K
    try simp only[zX]
    refine ZS 5 rfl λK hK=>?_
    (refine Km (w6.alloc (.cells #[Iv yb.kind,Iv yb.num,.string (bs yb.name),Iv yb.off,.slice ca cn cm] 127)) zt (.tmp 21) (.tmp 24) zt lo (.slice va vn vc) Q yb zt HOW.o w6.heap.size zt (by rw[<- dA.o];exact HRW.o) hA.o hlo6 ?_;intro v7 w7 hown7 hgr7 hfr7)
    obtain⟨a7,m7,c7,rfl⟩:=Jk hown7;have hst:=UnI.step (V':=.slice a7 m7 c7) zA.o HB6.o cA.o HF6.o hown7 hgr7 hfr7;replace HBX:=Zh hst.2;have HST:=Zh hst.1;clear hown7 hgr7 hfr7 hst HOW HRW hlo6;refine zU hK trivial λhH=>?_;clear hK K
    try simp only[zX]
    refine zK 6 ?_
    exact QiB
   ·have ci:=iA.o y _ _ kA.o eA.o
    (go_simp;go_at_call 58;refine ci.mono ?_;intro e w6 h6)
    clear ci;obtain⟨yb,rfl,bA,xA,yA,hb6⟩:=h6;obtain⟨ca,cn,cm,uA⟩:=Jg yb;have HN6:=Zh bA;have HB6:=Zh hb6;have dA:=Zh uA;have cA:=Zh xA;have HF6:=Zh yA;replace HCP:=Zh ((hb6.block _ (Jb HCP.o)).trans HCP.o);have vA:=Zh (zA.o.up hb6);have HOW:Hi ((w6.alloc (.cells (Qaa yb) 127)).ownsRow lo 127 5 (.slice va vn vc) Q.length (Qdb Q)):=vA.o.own.alloc _;have HRW:Hi ((w6.alloc (.cells (Qaa yb) 127)).heap[w6.heap.size]?=some (.cells (Qaa yb) 127 (0,0))):=zQ _ _;have hlo6:lo<=(w6.alloc (.cells (Qaa yb) 127)).heap.size:=by have:=vA.o.low;rw[World.size_alloc];omega
    have HBX:=Zh vA.o.box;rw[uA]at HOW hlo6 |-;clear bA xA yA hb6 uA;refine zU hK trivial λhH=>?_;clear hK K
    try simp only[zX]
    refine ZR (rs:=[1,4]) (AllReadyH.cons rfl (λK hK=>?_) (AllReadyH.cons rfl (λK hK=>?_) AllReadyH.nil))
    ·have hbx:=HBX.o;have b3:=Ja hbx 4;simp only[zW]at b3;go_simp;clear b3 hbx;refine zU hK trivial λhH=>?_;clear hK K
     try simp only[zX]
     refine ZS 4 rfl λK hK=>?_;go_simp;refine zU hK trivial λhH=>?_;replace HBX:Hi ((w6.alloc (.cells #[Iv yb.kind,Iv yb.num,.string (bs yb.name),Iv yb.off,.slice ca cn cm] 127)).heap[bx]?=some (.cells #[Iv k,Iv nn,Sv s,Iv 0,.slice va vn vc] 127 (0,0))):=Jf HBX.o;clear hK K
     try simp only[zX]
     refine ZS 5 rfl λK hK=>?_
     (refine Km (w6.alloc (.cells #[Iv yb.kind,Iv yb.num,.string (bs yb.name),Iv yb.off,.slice ca cn cm] 127)) zt (.tmp 21) (.tmp 24) zt lo (.slice va vn vc) Q yb zt HOW.o w6.heap.size zt (by rw[<- dA.o];exact HRW.o) hA.o hlo6 ?_;intro v7 w7 hown7 hgr7 hfr7)
     obtain⟨a7,m7,c7,rfl⟩:=Jk hown7;have hst:=UnI.step (V':=.slice a7 m7 c7) zA.o HB6.o cA.o HF6.o hown7 hgr7 hfr7;replace HBX:=Zh hst.2;have HST:=Zh hst.1;clear hown7 hgr7 hfr7 hst HOW HRW hlo6;refine zU hK trivial λhH=>?_;clear hK K
     try simp only[zX]
     refine zK 6 ?_
     exact QiB
    ·go_simp;refine zU hK trivial λhH=>?_;replace HBX:Hi ((w6.alloc (.cells #[Iv yb.kind,Iv yb.num,.string (bs yb.name),Iv yb.off,.slice ca cn cm] 127)).heap[bx]?=some (.cells #[Iv k,Iv nn,Sv s,Iv 0,.slice va vn vc] 127 (0,0))):=Jf HBX.o;clear hK K
     try simp only[zX]
     refine ZS 1 rfl λK hK=>?_;have hbx:=HBX.o;have b3:=Ja hbx 4;simp only[zW]at b3;go_simp;clear b3 hbx;refine zU hK trivial λhH=>?_;clear hK K
     try simp only[zX]
     refine ZS 5 rfl λK hK=>?_
     (refine Km (w6.alloc (.cells #[Iv yb.kind,Iv yb.num,.string (bs yb.name),Iv yb.off,.slice ca cn cm] 127)) zt (.tmp 21) (.tmp 24) zt lo (.slice va vn vc) Q yb zt HOW.o w6.heap.size zt (by rw[<- dA.o];exact HRW.o) hA.o hlo6 ?_;intro v7 w7 hown7 hgr7 hfr7)
     obtain⟨a7,m7,c7,rfl⟩:=Jk hown7;have hst:=UnI.step (V':=.slice a7 m7 c7) zA.o HB6.o cA.o HF6.o hown7 hgr7 hfr7;replace HBX:=Zh hst.2;have HST:=Zh hst.1;clear hown7 hgr7 hfr7 hst HOW HRW hlo6;refine zU hK trivial λhH=>?_;clear hK K
     try simp only[zX]
     refine zK 6 ?_
     exact QiB
 ·have hil:¬(i:Int)<(l.length:Int):=zo;obtain rfl:i=l.length:=zo;rw[List.take_length]at gA;have qA:=Zh gA;have zA:=Zh aA;have hbx:=aA.box;have hrs:=aA.res;have b0:=Ja hbx 0;have b1:=Ja hbx 1;have b2:=Ja hbx 2;have b3:=Ja hbx 3;have b4:=Ja hbx 4;have z0:=Ja hrs 0;have z1:=Ja hrs 1;have z2:=Ja hrs 2;have z3:=Ja hrs 3;have z4:=Ja hrs 4;simp only[zW]at b0 b1 b2 b3 b4 z0 z1 z2 z3 z4;have y0:=Jc hrs 0;have y1:=Jc hrs 1;have y2:=Jc hrs 2;have y3:=Jc hrs 3;have y4:=Jc hrs 4;clear hi hg aA hbx hrs gA jA;go_wp2;refine bodyPost_ret (v:=.agg #[Iv k,Iv nn,Sv s,Iv 0,.slice va vn vc]) (results_cell_row rfl _ _ rs 127 _ (0,0) _ rfl (Qcv _ _ _ _ _ zA.o.res) underlying127 rfl Qau) rfl ?_;rw[HR.o];exact zA.o.fin qA.o
def YV:∀n,n<=100000000->∀(y:Exp) (d:Array Value) (W:World),siz (utN y)<=n->XAt W (In W) y d->Calls prog 58 #[.agg d] W (UtP W y)
 |0,_,y,d,W,h,_=>by have:=Vh (utN y);omega
 |n+1,hn,.mk k nn s l,d,W,h,hx=>by
  rw[utN,JD]at h;obtain⟨ad,cc,rfl,_,hK⟩:=hx.kids;exact JdZ n (YV n zo) k nn s l ad cc W zo zo hK
def In.up{w W:World}(hb:Below w.heap.size w W){b:Nat}(h:In w b):In W b:=Nat.lt_of_lt_of_le h hb.size
def QbR.up{w W:World}{l:List Int}{v:Value}(h:QbR w (In w) l v)(hb:Below w.heap.size w W):QbR W (In W) l v:=QbR.keep (λb hP=>hb.block b hP) (λb hP=>In.up hb hP) h
def QbR.form{W:World}{P:Nat->Prop}{l:List Int}{v:Value}(h:QbR W P l v):∃ad cc,v=.slice ad l.length cc/\l.length<=cc:=by
 obtain⟨ad,cc,h1,h2,_⟩:=h;exact⟨ad,cc,h1,h2⟩
def QbR.get{W:World}{l:List Int}{ad:Option Addr}{m cc:Nat}(h:QbR W (In W) l (.slice ad m cc)){i:Nat}{n:Int}(hi:l[i]?=some n):∃b o,ad=some ⟨b,o,none⟩/\b<W.heap.size/\W.cell? ⟨b,o+i,none⟩=some (Iv n):=by
 obtain⟨xA,yA,h1,_,h3⟩:=h;injection h1 with e1 e2 e3;subst e1
 rcases h3 with h|⟨b,o,h4,h5,h6⟩
 ·rw[h]at hi
  cases hi
 ·exact⟨b,o,h4,h5,h6 i n hi⟩
def Qcy(W:World)(v:Value)(fs:List FnM):Prop:=Qan W (In W) (FnX W (In W)) fs v
def QdL(W:World)(v:Value)(cs:List ClM):Prop:=Qan W (In W) (ClX W (In W)) cs v
def Qcy.up{w W:World}{v:Value}{fs:List FnM}(h:Qcy w v fs)(hb:Below w.heap.size w W):Qcy W v fs:=Qan.keep (λb hP=>hb.block b hP) (λb hP=>In.up hb hP) (FnX.keep (λb hP=>hb.block b hP) λb hP=>In.up hb hP) h
def QdL.up{w W:World}{v:Value}{cs:List ClM}(h:QdL w v cs)(hb:Below w.heap.size w W):QdL W v cs:=Qan.keep (λb hP=>hb.block b hP) (λb hP=>In.up hb hP) (ClX.keep (λb hP=>hb.block b hP) λb hP=>In.up hb hP) h
def Qcy.form{W:World}{v:Value}{fs:List FnM}(h:Qcy W v fs):∃ad cc,v=.slice ad fs.length cc/\fs.length<=cc:=by
 obtain⟨ad,cc,h1,h2,_⟩:=Qan.get FnX.len h;exact⟨ad,cc,h1,h2⟩
def QdL.form{W:World}{v:Value}{cs:List ClM}(h:QdL W v cs):∃ad cc,v=.slice ad cs.length cc/\cs.length<=cc:=by
 obtain⟨ad,cc,h1,h2,_⟩:=Qan.get ClX.len h;exact⟨ad,cc,h1,h2⟩
structure FnC(W:World)(b o:Nat)(f:FnM)(pa:Option Addr)(pc:Nat)(da:Option Addr)(dc:Nat):Prop where
 nums:QbR W (In W) f.params (.slice pa f.params.length pc)
 ple:f.params.length<=pc
 body:XAt W (In W) f.body #[Iv f.body.kind,Iv f.body.num,.string (bs f.body.name),.slice da f.body.kids.length dc]
 blt:b<W.heap.size
 c0:W.cell? ⟨b,o,none⟩=some (.string (bs f.name))
 c1:W.cell? ⟨b,o+1,none⟩=some (.slice pa f.params.length pc)
 c2:W.cell? ⟨b,o+2,none⟩=some (Iv f.result)
 c3:W.cell? ⟨b,o+3,none⟩=some (Iv f.body.kind)
 c4:W.cell? ⟨b,o+4,none⟩=some (Iv f.body.num)
 c5:W.cell? ⟨b,o+5,none⟩=some (.string (bs f.body.name))
 c6:W.cell? ⟨b,o+6,none⟩=some (.slice da f.body.kids.length dc)
def Qcy.get{W:World}{ad:Option Addr}{m cc:Nat}{fs:List FnM}(h:Qcy W (.slice ad m cc) fs){i:Nat}{f:FnM}(hi:fs[i]?=some f):∃b o pa pc da dc,ad=some ⟨b,o,none⟩/\FnC W b (o+i*7) f pa pc da dc:=by
 obtain⟨xA,yA,h1,_,h3⟩:=Qan.get FnX.len h;injection h1 with e1 e2 e3;subst e1;obtain⟨b,o,h4,h5,h6⟩:=h3 (List.ne_nil_of_mem (List.mem_of_getElem? hi));obtain⟨c,⟨v,d,h7,h8,h9⟩,h10⟩:=h6 i f hi;obtain⟨pa,pc,rfl,hp⟩:=h7.form;obtain⟨da,dc,rfl,_⟩:=h8.form;subst h9;exact⟨b,o,pa,pc,da,dc,h4,h7,hp,h8,h5,h10 0 _ rfl,h10 1 _ rfl,h10 2 _ rfl,h10 3 _ rfl,h10 4 _ rfl,h10 5 _ rfl,h10 6 _ rfl⟩
structure ClC(W:World)(b o:Nat)(c:ClM)(da:Option Addr)(dc:Nat):Prop where
 cond:XAt W (In W) c.cond #[Iv c.cond.kind,Iv c.cond.num,.string (bs c.cond.name),.slice da c.cond.kids.length dc]
 blt:b<W.heap.size
 c0:W.cell? ⟨b,o,none⟩=some (Iv c.cond.kind)
 c1:W.cell? ⟨b,o+1,none⟩=some (Iv c.cond.num)
 c2:W.cell? ⟨b,o+2,none⟩=some (.string (bs c.cond.name))
 c3:W.cell? ⟨b,o+3,none⟩=some (.slice da c.cond.kids.length dc)
 c4:W.cell? ⟨b,o+4,none⟩=some (Iv c.action)
 c5:W.cell? ⟨b,o+5,none⟩=some (.string (bs c.reason))
def QdL.get{W:World}{ad:Option Addr}{m cc:Nat}{cs:List ClM}(h:QdL W (.slice ad m cc) cs){i:Nat}{c:ClM}(hi:cs[i]?=some c):∃b o da dc,ad=some ⟨b,o,none⟩/\ClC W b (o+i*6) c da dc:=by
 obtain⟨xA,yA,h1,_,h3⟩:=Qan.get ClX.len h;injection h1 with e1 e2 e3;subst e1;obtain⟨b,o,h4,h5,h6⟩:=h3 (List.ne_nil_of_mem (List.mem_of_getElem? hi));obtain⟨cl,⟨d,h8,h9⟩,h10⟩:=h6 i c hi;obtain⟨da,dc,rfl,_⟩:=h8.form;subst h9;exact⟨b,o,da,dc,h4,h8,h5,h10 0 _ rfl,h10 1 _ rfl,h10 2 _ rfl,h10 3 _ rfl,h10 4 _ rfl,h10 5 _ rfl⟩
def Qbj(w:World)(v:Value)(e:Ending)(w':World):Prop:=e=.returned v/\Below w.heap.size w w'
end Go.Proofs.YtfafpklefknomaaGreatDoor
