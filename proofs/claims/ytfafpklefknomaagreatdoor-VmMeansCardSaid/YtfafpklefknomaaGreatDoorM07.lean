import Derived.Test.YtfafpklefknomaaGreatDoorM06
import Derived.Test.YtfafpklefknomaaGreatDoorM00
import Derived.Test.YtfafpklefknomaaGreatDoorM01
open Nat(le_refl le_trans)
namespace Go.Proofs.YtfafpklefknomaaGreatDoor
open Go.ChangeShapes Go.WideShapes Go.ChangeAt Go.RowKit Go.Lib
open _root_.Go.Proofs.Tryz
set_option linter.all false
set_option maxRecDepth 100000
set_option maxHeartbeats 32000000
def In(W:World)(b:Nat):Prop:=b<W.heap.size
variable{W w0:World}{c:Array Value}
def XAt.up{w:World}{e:Exp}(h:XAt w (In w) e c)(hb:yr w W):XAt W (In W) e c:=
 XAt.keep (λb hP=>hb.block b hP) (λb hP=>Nat.lt_of_lt_of_le hP hb.size) _ _ h
structure UnI(w:World)(rs bx lo:Nat)(k n:Int)(s:By)(W:World)(l:List An)(V:Value):Prop where
 own:W.ownsRow lo 127 5 V l.length (Qdb l)
 nil:l=[]->V=Nl
 ats:∀a∈l,a.At W
 fts:∀b∈Qak l,lo<=b/\b<W.heap.size
 dis:∀g,V.ownBlock=some g->g∉Qak l
 box:W.heap[bx]?=some (.cells (ym k n s 0 V) 127 (0,0))
 res:W.heap[rs]?=some (.cells (yj 0 0 Em 0 Nl) 127 (0,0))
 bel:yr w W
 low:w.heap.size<=rs/\rs<bx/\bx<lo/\lo<=W.heap.size
section
variable {w:World}{rs bx lo:Nat}{k n:Int}{s:By}{W W':World}{l:List An}{V:Value}
def UnI.up(h:UnI w rs bx lo k n s W l V)(hb:yr W W'):UnI w rs bx lo k n s W' l V:=by
 obtain⟨l1,l2,l3,l4⟩:=h.low;have hc:=Chg.of_below hb []
 exact⟨JA h.own hc zq,h.nil,λa ha=>Jct (h.ats a ha) hb,λb hm=>⟨(h.fts b hm).1,Nat.lt_of_lt_of_le (h.fts b hm).2 hb.size⟩,h.dis,(hb.block _ (Jb h.box)).trans h.box,(hb.block _ (Jb h.res)).trans h.res,
  zj,l1,l2,l3,le_trans l4 hb.size⟩
def UnI.step{w1 w6 w7:World}{b:An}{V':Value}{X:Obj}(h:UnI w rs bx lo k n s w1 l V)(hb:yr w1 w6)(TA:b.At w6)(SH:∀q∈foot b,w1.heap.size<=q/\q<w6.heap.size)
  (hown:w7.ownsRow lo 127 5 V' (l++[b]).length (Qdb (l++[b]))) (hgr:(w6.alloc X).grownBy w7 V.ownBlock) (O0:V'.ownBlock=V.ownBlock\/V'.ownBlock=some (w6.alloc X).heap.size):
  UnI w rs bx lo k n s (w7.setCell ⟨bx,4,none⟩ V') (l++[b]) V'/\w7.heap[bx]?=some (.cells (ym k n s 0 V) 127 (0,0)):=by
 have h6:=h.up hb;obtain⟨l1,l2,l3,l4⟩:=h6.low;have hrow:∀g,V.ownBlock=some g->lo<=g/\g<w1.heap.size:=λg hg=>h.own.lt g hg
 have I4:=JP hgr;have X4:w7.heap[bx]?=some (.cells (ym k n s 0 V) 127 (0,0)):=I4.heap_some (λhm=>by have:=(hrow bx (by simpa using hm)).1;omega) h6.box;have hst:Chg [bx] w7 (w7.setCell ⟨bx,4,none⟩ V'):=(Chg.refl _ _).setCell (.inl (by simp:bx∈[bx])) (p:=⟨bx,4,none⟩) V';have F4:∀q,q<w6.heap.size->V.ownBlock≠some q->q≠bx->(w7.setCell ⟨bx,4,none⟩ V').heap[q]?=w6.heap[q]?:=λq hq hn hne=>(hst.block q (Nat.lt_of_lt_of_le hq I4.size) (by simpa using hne)).trans (I4.block q hq (by simpa using hn))
 have hsz:w6.heap.size<=(w7.setCell ⟨bx,4,none⟩ V').heap.size:=le_trans I4.size hst.size;have yA:=hb.size
 have M4:∀q∈Qak (l++[b]),lo<=q/\q<w6.heap.size:=by
  intro q hq;rw[Vw]at hq
  rcases List.mem_append.1 hq with hq|hq
  ·exact h6.fts q hq
  ·have h1:=SH q hq;have:=h.low;exact⟨by omega,h1.2⟩
 have xA:∀q∈Qak (l++[b]),V.ownBlock≠some q:=by
  intro q hq e;rw[Vw]at hq
  rcases List.mem_append.1 hq with hq|hq
  ·exact h.dis q e hq
  ·have h1:=(hrow q e).2;have h2:=(SH q hq).1;omega
 refine⟨⟨JA hown hst zr,λe=>by simp at e,λa ha=>?_,λq hq=>?_,λg hg hm=>?_,?_,?_,?_,l1,l2,l3,le_trans l4 hsz⟩,X4⟩
 ·have d8:a.At w6:=by
   rcases List.mem_append.1 ha with ha'|ha'
   ·exact h6.ats a ha'
   ·obtain rfl:a=b:=by simpa using ha'
    exact TA
  exact JK a d8 λq hq=>F4 q (M4 q (JC ha q hq)).2 (xA q (JC ha q hq)) (zu ((M4 q (JC ha q hq)).1))
 ·have:=M4 q hq;omega
 ·have h1:=M4 g hm
  rcases O0 with e|e
  ·exact xA g hm (e.symm.trans hg)
  ·rw[e]at hg;simp at hg;omega
 ·exact Jm X4 4 V'
 ·exact(F4 _ (Jb h6.res) (λe1=>by have h1:=(hrow _ e1).1;omega) zo).trans h6.res
 ·have zA:w.heap.size<=w6.heap.size:=h6.bel.size;exact QjC
def UtP(w:World)(x:Exp)(e:Ending)(w':World):Prop:=∃a:An,e=.returned (.agg (Qaa a))/\a.nd=utN x/\a.At w'/\(∀b∈foot a,w.heap.size<=b/\b<w'.heap.size)/\yr w w'
def UnI.fin{L:List Exp}(h:UnI w rs bx lo k n s W l V)(hl:ndL l=utL L):UtP w (.mk k n s L) (.returned (.agg (ym k n s 0 V))) (put5 W rs (Iv k) (Iv n) (Sv s) (Iv 0) V):=by
 obtain⟨l1,l2,l3,l4⟩:=h.low;have hst:=Kj (S:=[rs]) (W:=W) (Iv k) (Iv n) (Sv s) (Iv 0) V (by simp:rs∈[rs]);have hsz:=hst.size;have i6:yr w (put5 W rs (Iv k) (Iv n) (Sv s) (Iv 0) V):=((((h.bel.setCell l1 _).setCell l1 _).setCell l1 _).setCell l1 _).setCell l1 _;have xA:∀g c,(An.mk k n s 0 g c l).nd=utN (.mk k n s L):=λg c=>by unfold An.nd;rw[utN,hl]
 by_cases EB:l=[]
 ·subst EB;obtain rfl:=h.nil rfl;refine⟨.mk k n s 0 0 0 [],rfl,xA 0 0,?_,?_,i6⟩
  ·unfold An.At AtL;exact⟨λh=>absurd rfl h,trivial⟩
  ·intro b hb;rw[KQ,if_pos rfl]at hb
   cases hb
 ·rcases h.own.2 with⟨_,e⟩|⟨g,c,cur,rfl,hg,EC,hn,hm,hs,ht⟩
  ·exact absurd (List.eq_nil_of_length_eq_zero e) EB
  have hlt:=Jb EC;have hrow:=hst.heap_some (k:=g) zr EC;refine⟨.mk k n s 0 g c l,?_,xA g c,?_,?_,i6⟩
  ·show _=Ending.returned (.agg #[_,_,_,_,Qaz g c l])
   unfold Qaz;rw[if_neg EB]
  ·unfold An.At;refine⟨λ_ j=>Jc hrow j,KN l 0 (λj u hu=>?_) λa ha=>?_⟩
   ·rw[Nat.zero_mul,Nat.zero_add,Ja hrow];rw[<-ht,List.getElem?_take]at hu;split at hu
    ·simpa using hu
    ·cases hu
   ·exact JK a (h.ats a ha) λb hb=>by
     have:=h.fts b (JC ha b hb);exact hst.block b this.2 zr
  ·intro b hb;rw[KQ,if_neg EB]at hb
   rcases List.mem_cons.1 hb with rfl|hb
   ·omega
   ·have:=h.fts b hb;omega
end
def Jmm(l:List Exp)(a:Exp):utL (l++[a])=utL l++[utN a]:=by
 induction l with
 |nil=>simp[utL]
 |cons x r ih=>simp[utL,ih]
def JhM(l:List Exp):utL l=l.map utN:=by
 induction l with
 |nil=>rw[utL];rfl
 |cons a l ih=>rw[utL,ih];rfl
variable{l:List Exp}
def K6{y:Exp}(h:y∈l):siz (utN y)<=Qbd (utL l):=JeK (by rw[JhM];exact List.mem_map.2 ⟨y,h,rfl⟩)
def JhN(l:List Exp):l.length<=Qbd (utL l):=by have:=JeL (utL l);rw[Jz]at this;exact this
def QeF(w:World)(ad:Option Addr)(l:List Exp):Prop:=l≠[]->∃b o,ad=some ⟨b,o,none⟩/\b<w.heap.size/\∀i e,l[i]?=some e->∃d,XAt w (In w) e d/\∀j u,d[j]?=some u->w.cell? ⟨b,o+i*4+j,none⟩=some u
variable{b i rb:Nat}
def QeF.at'{w:World}{ad:Option Addr}(h:QeF w ad l)(hb:yr w W){y:Exp}(hi:l[i]?=some y):
  ∃b o da dc,ad=some ⟨b,o,none⟩/\XAt W (In W) y (zg y.kind y.num y.name da y.kids.length dc)/\W.cell? ⟨b,o+i*4,none⟩=some (Iv y.kind)/\
   W.cell? ⟨b,o+i*4+1,none⟩=some (Iv y.num)/\W.cell? ⟨b,o+i*4+2,none⟩=some (Sv y.name)/\W.cell? ⟨b,o+i*4+3,none⟩=some (.slice da y.kids.length dc):=by
 obtain⟨b,o,h1,h2,h3⟩:=h (List.ne_nil_of_mem (List.mem_of_getElem? hi));obtain⟨d,h4,h5⟩:=h3 i y hi;obtain⟨da,dc,rfl,_⟩:=h4.form;have hc:∀j u,_->W.cell? ⟨b,o+i*4+j,none⟩=some u:=λj u hu=>(World.cell?_of_block (a:=⟨b,o+i*4+j,none⟩) (hb.block b h2)).trans (h5 j u hu)
 exact⟨b,o,da,dc,h1,h4.up hb,hc 0 _ rfl,hc 1 _ rfl,hc 2 _ rfl,hc 3 _ rfl⟩
def XAt.kids{w:World}{k n:Int}{s:By}(h:XAt w (In w) (.mk k n s l) c):∃ad cc,c=(zg k n s ad l.length cc)/\l.length<=cc/\QeF w ad l:=by
 obtain⟨ad,cc,h1,h2,h3⟩:=h.kid;exact⟨ad,cc,h1,h2,h3⟩
def QiB{P:Prop}(h:P:=by
  try simp only[Act.put,ZA,ZB,ZC]
  refine ZS 7 rfl (λK hK=>?_);have R0:=N2.o;have b3:=Ja R0 4;have f3:=Jc R0 4;have T9:=Jb R0;simp only[ZD,ZE,ZF]at b3;go_simp;clear b3 R0 f3 T9 N2;refine hK.out _ _ trivial (λhH=>?_);clear hK K
  try simp only[Act.put,ZA,ZB,ZC]
  refine wpAnyH_done (by kernel_rfl) ?_ _;have T7:Hi (yr w (w7.setCell ⟨bx,4,none⟩ (.slice a7 m7 c7))):=D2.o.bel;go_wp2;go_roundg (l.length-(i+1))
  case measure=>have:=HG.o;omega
  case rel=>exact⟨i+1,by omega,by go_num,⟨Q++[yb],_,by rw[Vf,TH.o];exact i7.o,by rw[List.length_append,HKL.o];rfl,D2.o⟩,T7⟩):P:=h
def zAs{P:Prop}(h:P:=by
  refine zU hK trivial λhH=>?_;clear hK K
  try simp only[zX]
  refine ZS 4 rfl λK hK=>?_;go_simp;refine zU hK trivial λhH=>?_;replace N2:Hi ((w6.alloc (.cells (za yb.kind yb.num yb.name yb.off ca cn cm) 127)).heap[bx]?=some (.cells (za k nn s 0 va vn vc) 127 (0,0))):=Jf N2.o;clear hK K
  try simp only[zX]
  refine ZS 5 rfl λK hK=>?_
  (refine Km (w6.alloc (.cells (za yb.kind yb.num yb.name yb.off ca cn cm) 127)) zt (.tmp 21) (.tmp 24) zt lo (.slice va vn vc) Q yb zt HOW.o w6.heap.size zt (by rw[<-dA.o];exact R3.o) hA.o Q2 ?_;intro v7 w7 N1 P3 O3)
  obtain⟨a7,m7,c7,rfl⟩:=Jk N1;have hst:=UnI.step (V':=.slice a7 m7 c7) zA.o U7.o cA.o MA.o N1 P3 O3;replace N2:=Zh hst.2;have D2:=Zh hst.1;clear N1 P3 O3 hst HOW R3 Q2;refine zU hK trivial λhH=>?_;clear hK K
  try simp only[zX]
  refine zK 6 ?_
  exact QiB):P:=h
def zAt{P:Prop}(h:P:=by
  try simp only[zX]
  refine ZS 3 rfl λK hK=>?_;have ci:=iA.o y _ _ kA.o eA.o
  (go_simp;go_at_call 58;refine ci.mono ?_;intro e w6 h6)
  clear ci;obtain⟨yb,rfl,bA,xA,yA,M2⟩:=h6;obtain⟨ca,cn,cm,uA⟩:=Jg yb;have TH:=Zh bA;have U7:=Zh M2;have dA:=Zh uA;have cA:=Zh xA;have MA:=Zh yA;replace A0:=Zh ((M2.block _ (Jb A0.o)).trans A0.o);have vA:=Zh (zA.o.up M2);have HOW:Hi ((w6.alloc (.cells (Qaa yb) 127)).ownsRow lo 127 5 (.slice va vn vc) Q.length (Qdb Q)):=vA.o.own.alloc _;have R3:Hi ((w6.alloc (.cells (Qaa yb) 127)).heap[w6.heap.size]?=some (.cells (Qaa yb) 127 (0,0))):=zQ _ _;have Q2:lo<=(w6.alloc (.cells (Qaa yb) 127)).heap.size:=by have:=vA.o.low;rw[World.size_alloc];omega
  have N2:=Zh vA.o.box;rw[uA]at HOW Q2 |-;clear bA xA yA M2 uA;exact zAs):P:=h
def JdZ(n:Nat)(IH:∀(y:Exp)(d:Array Value)(W:World),siz (utN y)<=n->XAt W (In W) y d->Calls prog 58 #[.agg d] W (UtP W y))(k nn:Int)(s:By)(l:List Exp)(ad:Option Addr)(cc:Nat)(w:World)(hn:Qbd (utL l)<=n)(hb:n<=100000000)(hK:QeF w ad l):
  Calls prog 58 #[.agg (zg k nn s ad l.length cc)] w (UtP w (.mk k nn s l)):=by
 obtain⟨R,hR⟩:=yt (UtP w (.mk k nn s l))
 rw[hR];have HR:Hi (R=UtP w (.mk k nn s l)):=hR.symm;have nA:yr w (((w.alloc (.cells (zg k nn s ad l.length cc) 37)).alloc (.cells (yj 0 0 Em 0 Nl) 127)).alloc (.cells (ym k nn s 0 Nl) 127)):=((zO.alloc (Nat.le_refl _) _).alloc zq _).alloc zr _
 have mA:Hi (UnI w (w.heap.size+1) (w.heap.size+1+1) (w.heap.size+1+1+1) k nn s (((w.alloc (.cells (zg k nn s ad l.length cc) 37)).alloc (.cells (yj 0 0 Em 0 Nl) 127)).alloc (.cells (ym k nn s 0 Nl) 127)) [] Nl):=by
  have e1:=zQ (w.alloc (.cells (zg k nn s ad l.length cc) 37)) (.cells (yj 0 0 Em 0 Nl) 127);have e2:=zQ ((w.alloc (.cells (zg k nn s ad l.length cc) 37)).alloc (.cells (yj 0 0 Em 0 Nl) 127)) (.cells (ym k nn s 0 Nl) 127);simp only[World.size_alloc]at e1 e2;exact⟨World.ownsRow_nil _ _ _ _,λ_=>rfl,by simp,by simp[Qak],by simp[Qak],e2,Jf e1,nA,by omega,by omega,by omega,by simp⟩
 have T2:Hi ((((w.alloc (.cells (zg k nn s ad l.length cc) 37)).alloc (.cells (yj 0 0 Em 0 Nl) 127)).alloc (.cells (ym k nn s 0 Nl) 127)).heap[w.heap.size]?=some (.cells (zg k nn s ad l.length cc) 37 (0,0))):=Jf (Jf (zQ _ _));have O2:=Zh hK;have iA:=Zh IH;have sA:l.length<=100000000:=by have:=JhN l;omega
 have Q6:=Zh hn;clear hR nA IH hK hn;go_enter func58,ntmps58;go_wp2_with fail;generalize World.alloc (World.alloc (World.alloc w _) _) _=w1 at*;generalize w.heap.size+1+1+1=lo at*;generalize w.heap.size+1+1=bx at*;generalize w.heap.size+1=rs at*;have tA:Hi (w.heap.size<w1.heap.size):=Jb T2.o;have n4:=Ja T2.o 3;simp only[zW]at n4;go_wp2_with fail;clear n4;go_loopg [16] l.length λg v16 wr=>∃i:Nat,g+i=l.length/\v16=Iv i/\Hi (∃Q V,ndL Q=utL (l.take i)/\Q.length=i/\UnI w rs bx lo k nn s wr Q V)/\Hi (yr w wr)
 case atStart=>exact⟨0,rfl,rfl,⟨[],_,by simp[ndL,utL],rfl,mA.o⟩,mA.o.bel⟩
 case round=>
 clear mA T2;obtain⟨wl,rfl⟩:=zJ wr;obtain⟨i,hg,rfl,aA,G1⟩:=hrel;obtain⟨Q,V,gA,jA,pA⟩:=aA.o;clear aA;have aA:=pA;clear pA;obtain⟨va,vn,vc,rfl⟩:=Jk aA.own
 by_cases hi:i<l.length
 ·have hil:(i:Int)<(l.length:Int):=zo;obtain⟨y,hy⟩:∃y,l[i]?=some y:=⟨l[i],List.getElem?_eq_getElem hi⟩
  have hmem:=List.mem_of_getElem? hy;obtain⟨b,o,da,dc,rA,hxy,c0,c1,c2,c3⟩:=O2.o.at' G1.o hy;have wk:=zI i;have I0:yr wl (wl.alloc (.cells (zg y.kind y.num y.name da y.kids.length dc) 37)):=zO.alloc (Nat.le_refl _) _;have zA:=Zh (aA.up I0);have eA:=Zh (hxy.up I0);have A0:=Zh (zQ wl (.cells (zg y.kind y.num y.name da y.kids.length dc) 37));have i7:Hi (ndL Q++[utN y]=utL (l.take (i+1))):=by rw[Hi,gA,List.take_add_one,hy];show _=utL (_++[y]);rw[Jmm]
  have hA:Hi (Q.length<=100000000):=by rw[Hi];omega
  have kA:Hi (siz (utN y)<=n):=by have:=K6 hmem;have:=Q6.o;rw[Hi];omega
  have HKL:=Zh jA;have HG:=Zh hg;subst rA;clear I0 aA hy hmem hg hxy G1 gA jA;go_upto_region 5 with fail;clear c0 c1 c2 c3;generalize World.alloc wl _=wk0 at*;generalize wl.heap.size=cb at*;refine wp_region_held_drew (S:=λ_=>True) zk (trivial) λhH=>?_;have hD:yr wk0 wk0.drew:=(Below.refl wk0.heap.size wk0).drew;replace zA:=Zh (zA.o.up hD);replace eA:=Zh (eA.o.up hD);replace A0:=Zh ((hD.block _ (Jb A0.o)).trans A0.o);clear hD;generalize wk0.drew=wk1 at*;refine zK 0 ?_
  try simp only[zX]
  refine ZR (rs:=[1,2]) (AllReadyH.cons rfl (λK hK=>?_) (AllReadyH.cons rfl (λK hK=>?_) AllReadyH.nil))
  ·have R0:=zA.o.box;have b3:=Ja R0 4;simp only[zW]at b3;go_simp;clear b3 R0;refine zU hK trivial λhH=>?_;clear hK K
   try simp only[zX]
   refine ZS 2 rfl λK hK=>?_;have R0:=A0.o;have p0:=Ja R0 0;have p1:=Ja R0 1;have p2:=Ja R0 2;have p3:=Ja R0 3;simp only[zW]at p0 p1 p2 p3;go_simp;clear p0 p1 p2 p3 R0;refine zU hK trivial λhH=>?_;clear hK K
   exact zAt
  ·have R0:=A0.o;have p0:=Ja R0 0;have p1:=Ja R0 1;have p2:=Ja R0 2;have p3:=Ja R0 3;simp only[zW]at p0 p1 p2 p3;go_simp;clear p0 p1 p2 p3 R0;refine zU hK trivial λhH=>?_;clear hK K
   try simp only[zX]
   refine ZR (rs:=[1,3]) (AllReadyH.cons rfl (λK hK=>?_) (AllReadyH.cons rfl (λK hK=>?_) AllReadyH.nil))
   ·have R0:=zA.o.box;have b3:=Ja R0 4;simp only[zW]at b3;go_simp;clear b3 R0;refine zU hK trivial λhH=>?_;clear hK K
    exact zAt
   ·have ci:=iA.o y _ _ kA.o eA.o
    (go_simp;go_at_call 58;refine ci.mono ?_;intro e w6 h6)
    clear ci;obtain⟨yb,rfl,bA,xA,yA,M2⟩:=h6;obtain⟨ca,cn,cm,uA⟩:=Jg yb;have TH:=Zh bA;have U7:=Zh M2;have dA:=Zh uA;have cA:=Zh xA;have MA:=Zh yA;replace A0:=Zh ((M2.block _ (Jb A0.o)).trans A0.o);have vA:=Zh (zA.o.up M2);have HOW:Hi ((w6.alloc (.cells (Qaa yb) 127)).ownsRow lo 127 5 (.slice va vn vc) Q.length (Qdb Q)):=vA.o.own.alloc _;have R3:Hi ((w6.alloc (.cells (Qaa yb) 127)).heap[w6.heap.size]?=some (.cells (Qaa yb) 127 (0,0))):=zQ _ _;have Q2:lo<=(w6.alloc (.cells (Qaa yb) 127)).heap.size:=by have:=vA.o.low;rw[World.size_alloc];omega
    have N2:=Zh vA.o.box;rw[uA]at HOW Q2 |-;clear bA xA yA M2 uA;refine zU hK trivial λhH=>?_;clear hK K
    try simp only[zX]
    refine ZR (rs:=[1,4]) (AllReadyH.cons rfl (λK hK=>?_) (AllReadyH.cons rfl (λK hK=>?_) AllReadyH.nil))
    ·have R0:=N2.o;have b3:=Ja R0 4;simp only[zW]at b3;go_simp;clear b3 R0;exact zAs
    ·go_simp;refine zU hK trivial λhH=>?_;replace N2:Hi ((w6.alloc (.cells (za yb.kind yb.num yb.name yb.off ca cn cm) 127)).heap[bx]?=some (.cells (za k nn s 0 va vn vc) 127 (0,0))):=Jf N2.o;clear hK K
     try simp only[zX]
     refine ZS 1 rfl λK hK=>?_;have R0:=N2.o;have b3:=Ja R0 4;simp only[zW]at b3;go_simp;clear b3 R0;refine zU hK trivial λhH=>?_;clear hK K
     try simp only[zX]
     refine ZS 5 rfl λK hK=>?_
     (refine Km (w6.alloc (.cells (za yb.kind yb.num yb.name yb.off ca cn cm) 127)) zt (.tmp 21) (.tmp 24) zt lo (.slice va vn vc) Q yb zt HOW.o w6.heap.size zt (by rw[<-dA.o];exact R3.o) hA.o Q2 ?_;intro v7 w7 N1 P3 O3)
     obtain⟨a7,m7,c7,rfl⟩:=Jk N1;have hst:=UnI.step (V':=.slice a7 m7 c7) zA.o U7.o cA.o MA.o N1 P3 O3;replace N2:=Zh hst.2;have D2:=Zh hst.1;clear N1 P3 O3 hst HOW R3 Q2;refine zU hK trivial λhH=>?_;clear hK K
     try simp only[zX]
     refine zK 6 ?_
     exact QiB
 ·have hil:¬(i:Int)<(l.length:Int):=zo;obtain rfl:i=l.length:=zo;rw[List.take_length]at gA;have qA:=Zh gA;have zA:=Zh aA;have R0:=aA.box;have M1:=aA.res;have b0:=Ja R0 0;have b1:=Ja R0 1;have b2:=Ja R0 2;have b3:=Ja R0 3;have b4:=Ja R0 4;have z0:=Ja M1 0;have z1:=Ja M1 1;have z2:=Ja M1 2;have z3:=Ja M1 3;have z4:=Ja M1 4;simp only[zW]at b0 b1 b2 b3 b4 z0 z1 z2 z3 z4;have y0:=Jc M1 0;have y1:=Jc M1 1;have y2:=Jc M1 2;have y3:=Jc M1 3;have y4:=Jc M1 4;clear hi hg aA R0 M1 gA jA;go_wp2;refine bodyPost_ret (v:=.agg (za k nn s 0 va vn vc)) (results_cell_row rfl _ _ rs 127 _ (0,0) _ rfl (Qcv _ _ _ _ _ zA.o.res) underlying127 rfl Qau) rfl ?_;rw[HR.o];exact zA.o.fin qA.o
def YV:∀n,n<=100000000->∀(y:Exp)(d:Array Value)(W:World),siz (utN y)<=n->XAt W (In W) y d->Calls prog 58 #[.agg d] W (UtP W y)
 |0,_,y,d,W,h,_=>by have:=Vh (utN y);omega
 |n+1,hn,.mk k nn s l,d,W,h,hx=>by
  rw[utN,JD]at h;obtain⟨ad,cc,rfl,_,hK⟩:=hx.kids;exact JdZ n (YV n zo) k nn s l ad cc W zo zo hK
def In.up{w:World}(hb:yr w W)(h:In w b):In W b:=Nat.lt_of_lt_of_le h hb.size
variable{v:Value}
def QbR.up{w:World}{l:List Int}(h:QbR w (In w) l v)(hb:yr w W):QbR W (In W) l v:=QbR.keep (λb hP=>hb.block b hP) (λb hP=>In.up hb hP) h
def QbR.form{P:Nat->Prop}{l:List Int}(h:QbR W P l v):∃ad cc,v=.slice ad l.length cc/\l.length<=cc:=by
 obtain⟨ad,cc,h1,h2,_⟩:=h;exact⟨ad,cc,h1,h2⟩
def QbR.get{l:List Int}{ad:Option Addr}{m cc:Nat}(h:QbR W (In W) l (.slice ad m cc)){n:Int}(hi:l[i]?=some n):∃b o,ad=some ⟨b,o,none⟩/\b<W.heap.size/\W.cell? ⟨b,o+i,none⟩=some (Iv n):=by
 obtain⟨xA,yA,h1,_,h3⟩:=h;injection h1 with e1 e2 e3;subst e1
 rcases h3 with h|⟨b,o,h4,h5,h6⟩
 ·rw[h]at hi
  cases hi
 ·exact⟨b,o,h4,h5,h6 i n hi⟩
def Qcy(W:World)(v:Value)(fs:List FnM):Prop:=Qan W (In W) (FnX W (In W)) fs v
def QdL(W:World)(v:Value)(cs:List ClM):Prop:=Qan W (In W) (ClX W (In W)) cs v
variable{fs:List FnM}
def Qcy.up{w:World}(h:Qcy w v fs)(hb:yr w W):Qcy W v fs:=Qan.keep (λb hP=>hb.block b hP) (λb hP=>In.up hb hP) (FnX.keep (λb hP=>hb.block b hP) λb hP=>In.up hb hP) h
variable{cs:List ClM}
def QdL.up{w:World}(h:QdL w v cs)(hb:yr w W):QdL W v cs:=Qan.keep (λb hP=>hb.block b hP) (λb hP=>In.up hb hP) (ClX.keep (λb hP=>hb.block b hP) λb hP=>In.up hb hP) h
def Qcy.form(h:Qcy W v fs):∃ad cc,v=.slice ad fs.length cc/\fs.length<=cc:=by
 obtain⟨ad,cc,h1,h2,_⟩:=Qan.get FnX.len h;exact⟨ad,cc,h1,h2⟩
def QdL.form(h:QdL W v cs):∃ad cc,v=.slice ad cs.length cc/\cs.length<=cc:=by
 obtain⟨ad,cc,h1,h2,_⟩:=Qan.get ClX.len h;exact⟨ad,cc,h1,h2⟩
structure FnC(W:World)(b o:Nat)(f:FnM)(pa:Option Addr)(pc:Nat)(da:Option Addr)(dc:Nat):Prop where
 nums:QbR W (In W) f.params (.slice pa f.params.length pc)
 ple:f.params.length<=pc
 body:XAt W (In W) f.body (zg f.body.kind f.body.num f.body.name da f.body.kids.length dc)
 blt:b<W.heap.size
 c0:W.cell? ⟨b,o,none⟩=some (Sv f.name)
 c1:W.cell? ⟨b,o+1,none⟩=some (.slice pa f.params.length pc)
 c2:W.cell? ⟨b,o+2,none⟩=some (Iv f.result)
 c3:W.cell? ⟨b,o+3,none⟩=some (Iv f.body.kind)
 c4:W.cell? ⟨b,o+4,none⟩=some (Iv f.body.num)
 c5:W.cell? ⟨b,o+5,none⟩=some (Sv f.body.name)
 c6:W.cell? ⟨b,o+6,none⟩=some (.slice da f.body.kids.length dc)
variable{f:FnM}
def Qcy.get{ad:Option Addr}{m cc:Nat}(h:Qcy W (.slice ad m cc) fs)(hi:fs[i]?=some f):∃b o pa pc da dc,ad=some ⟨b,o,none⟩/\FnC W b (o+i*7) f pa pc da dc:=by
 obtain⟨xA,yA,h1,_,h3⟩:=Qan.get FnX.len h;injection h1 with e1 e2 e3;subst e1;obtain⟨b,o,h4,h5,h6⟩:=h3 (List.ne_nil_of_mem (List.mem_of_getElem? hi));obtain⟨c,⟨v,d,h7,h8,h9⟩,C2⟩:=h6 i f hi;obtain⟨pa,pc,rfl,hp⟩:=h7.form;obtain⟨da,dc,rfl,_⟩:=h8.form;subst h9;exact⟨b,o,pa,pc,da,dc,h4,h7,hp,h8,h5,C2 0 _ rfl,C2 1 _ rfl,C2 2 _ rfl,C2 3 _ rfl,C2 4 _ rfl,C2 5 _ rfl,C2 6 _ rfl⟩
structure ClC(W:World)(b o:Nat)(c:ClM)(da:Option Addr)(dc:Nat):Prop where
 cond:XAt W (In W) c.cond (zg c.cond.kind c.cond.num c.cond.name da c.cond.kids.length dc)
 blt:b<W.heap.size
 c0:W.cell? ⟨b,o,none⟩=some (Iv c.cond.kind)
 c1:W.cell? ⟨b,o+1,none⟩=some (Iv c.cond.num)
 c2:W.cell? ⟨b,o+2,none⟩=some (Sv c.cond.name)
 c3:W.cell? ⟨b,o+3,none⟩=some (.slice da c.cond.kids.length dc)
 c4:W.cell? ⟨b,o+4,none⟩=some (Iv c.action)
 c5:W.cell? ⟨b,o+5,none⟩=some (Sv c.reason)
def QdL.get{ad:Option Addr}{m cc:Nat}(h:QdL W (.slice ad m cc) cs){c:ClM}(hi:cs[i]?=some c):∃b o da dc,ad=some ⟨b,o,none⟩/\ClC W b (o+i*6) c da dc:=by
 obtain⟨xA,yA,h1,_,h3⟩:=Qan.get ClX.len h;injection h1 with e1 e2 e3;subst e1;obtain⟨b,o,h4,h5,h6⟩:=h3 (List.ne_nil_of_mem (List.mem_of_getElem? hi));obtain⟨cl,⟨d,h8,h9⟩,C2⟩:=h6 i c hi;obtain⟨da,dc,rfl,_⟩:=h8.form;subst h9;exact⟨b,o,da,dc,h4,h8,h5,C2 0 _ rfl,C2 1 _ rfl,C2 2 _ rfl,C2 3 _ rfl,C2 4 _ rfl,C2 5 _ rfl⟩
def Qbj(w:World)(v:Value)(e:Ending)(w':World):Prop:=e=.returned v/\yr w w'
def Qgu{P:Prop}(h:P:=by
  rw[hq];clear hq;go_enter func25,ntmps25;go_wp2;go_ret
  exact⟨rfl,rfl⟩):P:=h
def Z8(n:Int)(w:World):Calls prog 25 #[Iv n] w (Qei (.bool (QdR n)) w):=by
 by_cases h0:0<=n
 ·have d0:decide (0<=n)=true:=zG h0
  by_cases h3:n<=3
  ·have d3:decide (n<=3)=true:=zG h3;have hq:QdR n=true:=by unfold QdR;rw[d0,d3];rfl
   exact Qgu
  ·have d3:decide (n<=3)=false:=zH h3;have hq:QdR n=false:=by unfold QdR;rw[d0,d3];rfl
   exact Qgu
 ·have d0:decide (0<=n)=false:=zH h0;have hq:QdR n=false:=by unfold QdR;rw[d0];rfl
  exact Qgu
def txB(c:UInt8):Bool:=decide (32<=c.toNat)&&decide (c.toNat<=126)&&c !=34&&c !=92
def Jkc(s:By):QcD s=(s.all txB&&decide (s.length<=24)):=rfl
def Jmn(m:Nat)(c:UInt8)(hc:c.toNat=m):txB c=true↔32<=m/\m<=126/\m≠34/\m≠92:=by
 subst hc;have xA:c=34↔c.toNat=34:=⟨λh=>by rw[h];rfl,λh=>UInt8.toNat_inj.1 h⟩
 have yA:c=92↔c.toNat=92:=⟨λh=>by rw[h];rfl,λh=>UInt8.toNat_inj.1 h⟩
 unfold txB;simp only[Bool.and_eq_true,decide_eq_true_eq,bne_iff_ne,ne_eq,xA,yA,and_assoc]
def zAx{P:Prop}(h:P:=by
  clear hwo;go_wp2;go_ret;exact⟨rfl,rfl⟩):P:=h
def JcG(s:By)(w:World)(hs:s.length<=9223372036854775807):Calls prog 26 #[Sv s] w (Qei (.bool (QcD s)) w):=by
 have z1:=JJ s;obtain⟨n,hn⟩:=yt s.length
 obtain⟨q,hq⟩:=yt (QcD s)
 have hI:=Jkc s;rw[hq]at hI |-;rw[hn]at hI z1 hs;have HI:=Zh hI;have HN:=Zh hn;have HS:=Zh hs;clear hI hn hq hs;go_enter func26,ntmps26;go_wp2;go_loop [6] (λv=>∃k:Nat,v=Iv k/\k<=n/\Hi ((s.take k).all txB=true)) λv=>n-(intOf v).toNat
 case atStart=>exact⟨0,rfl,Nat.zero_le _,by unfold Hi;rfl⟩
 case round=>
  obtain⟨k,rfl,hk,hz⟩:=hrel
  by_cases hkn:k<n
  ·have wk:IntKind.i64.wrap ((k:Int)+1)=(k:Int)+1:=IntWalk.i64_in _ (zu HS.o);have dk:decide ((k:Int)<(n:Int))=true:=zG zo;have bA:decide (k<n)=true:=zG hkn;have bk:(k:Int)<(n:Int):=zo;obtain⟨c,hc⟩:∃c,s[k]?=some c:=⟨_,List.getElem?_eq_getElem (zu HN.o)⟩
   obtain⟨m,hm⟩:=yt c.toNat
   have uA:m<256:=by rw[<-hm];exact c.toNat_lt
   have hg:∀h,((bs s)[k]'h).toNat=m:=λh=>by
    obtain⟨_,h2⟩:=List.getElem?_eq_some_iff.1 hc;rw[<-hm,<-h2];rfl
   have hw:=Jmn m c hm
   by_cases hwo:32<=m/\m<=126/\m≠34/\m≠92
   ·have QF:=Zh (JeE hz.o hc (hw.2 hwo));clear hz hc hm hw;obtain⟨g1,g2,g3,g4⟩:=hwo;have a1:decide ((m:Int)<32)=false:=zH zo;have vA:decide (m<32)=false:=zH zo;have a2:decide (126<(m:Int))=false:=zH zo;have aA:decide (126<m)=false:=zH zo;have e1:((m:Int)==34)=false:=zM zo;have cA:(m==34)=false:=zM zo;have e2:((m:Int)==92)=false:=zM zo;have dA:(m==92)=false:=zM zo;clear g1 g2 g3 g4;exact Qis
   ·have hb:txB c=false:=by cases h:txB c with|false=>rfl|true=>exact absurd (hw.1 h) hwo
    have A3:q=false:=by rw[HI.o,JgR hc hb];rfl
    subst A3;clear hz hc hm hw hb HI
    by_cases l1:m<32
    ·have a1:decide ((m:Int)<32)=true:=zG zo;have vA:decide (m<32)=true:=zG zo;exact zAx
    by_cases l2:126<m
    ·have a1:decide ((m:Int)<32)=false:=zH zo;have vA:decide (m<32)=false:=zH zo;have a2:decide (126<(m:Int))=true:=zG zo;have aA:decide (126<m)=true:=zG zo;clear l1;exact zAx
    by_cases l3:m=34
    ·subst l3;clear l1 l2;exact zAx
    have l4:m=92:=zo;subst l4;clear l1 l2 l3;exact zAx
  ·have dk:decide ((k:Int)<(n:Int))=false:=zH zo;have bA:decide (k<n)=false:=zH hkn
   have xA:s.all txB=true:=by
    have:=hz.o
    rwa [List.take_of_length_le (zu HN.o)]at this
   have yA:=HI.o;rw[xA]at yA;simp only[Bool.true_and]at yA
   by_cases P9:n<=24
   ·have d1:decide ((n:Int)<=24)=true:=zG zo;have zA:decide (n<=24)=true:=zG P9;have A3:q=true:=by rw[yA,zA]
    subst A3;clear hz xA yA HI P9 hk hkn;go_wp2;go_ret;exact⟨rfl,rfl⟩
   ·have d1:decide ((n:Int)<=24)=false:=zH zo;have zA:decide (n<=24)=false:=zH P9;have A3:q=false:=by rw[yA,zA]
    subst A3;clear hz xA yA HI P9 hk hkn;go_wp2;go_ret;exact⟨rfl,rfl⟩
def JhO(s:By)(w:World)(hs:s.length<=9223372036854775807):Calls prog 24 #[Sv s] w (Qei (.bool (Qbr s)) w):=by
 by_cases h:s.length<=1000000
 ·exact Jca s w h
 cases s with
 |nil=>simp at h
 |cons c0 r0=>
  have hq:Qbr (c0::r0)=false:=by
   unfold Qbr;rw[zH (show ¬(c0::r0).length<=24 by omega)];simp
  rw[hq];have u1:=Jj (c0::r0);have z1:=JJ (c0::r0);have e0:((c0::r0)==[])=false:=rfl;have yA:(c0::r0).isEmpty=false:=rfl;obtain⟨n,hn⟩:=yt ((c0::r0).length)
  generalize c0::r0=s at*;rw[hn]at z1 h hs;have d1:decide (24<(n:Int))=true:=zG zo;have xA:decide (24<n)=true:=zG zo;clear hn hq h;exact QgT
def QfQ{P:Prop}(h:P:=by
  go_enter func113,ntmps113;go_wp2;go_ret
  exact⟨rfl,HB.o⟩):P:=h
def Jea(fs:List FnM)(fa:Option Addr)(fl fc:Nat)(k n:Int)(s:By)(ad:Option Addr)(m cc:Nat)(w:World)(T3:k≠20):
  Calls prog 113 #[.slice fa fl fc,.agg (zg k n s ad m cc)] w (Qbj w (Iv (QaM (fs.map (·.params.length)) k n))):=by
 have HB:Hi (yr w (w.alloc (.cells (zg k n s ad m cc) 37))):=zO.alloc zP _
 by_cases h5:k=0\/k=1\/k=2\/k=3\/k=4\/k=5
 ·have hq:QaM (fs.map (·.params.length)) k n=0:=by unfold QaM;rw[if_pos h5]
  rw[hq];clear hq T3
  rcases h5 with rfl|rfl|rfl|rfl|rfl|rfl
  all_goals
   exact QfQ
 by_cases wF:k=6\/k=7
 ·have hq:QaM (fs.map (·.params.length)) k n=1:=by unfold QaM;rw[if_neg h5,if_pos wF]
  rw[hq];clear hq h5 T3
  rcases wF with rfl|rfl
  all_goals
   exact QfQ
 by_cases C6:k=18
 ·subst C6;exact QfQ
 have hq:QaM (fs.map (·.params.length)) k n=2:=by unfold QaM;rw[if_neg h5,if_neg wF,if_neg C6,if_neg T3]
 rw[hq];have e0:(k==0)=false:=zM zo;have e1:(k==1)=false:=zM zo;have e2:(k==2)=false:=zM zo;have e3:(k==3)=false:=zM zo;have e4:(k==4)=false:=zM zo;have e5:(k==5)=false:=zM zo;have e6:(k==6)=false:=zM zo;have e7:(k==7)=false:=zM zo;have yA:(k==18)=false:=zM zo;have xA:(k==20)=false:=zM zo;clear hq h5 wF C6 T3;exact QfQ
def Jgb(fs:List FnM)(fa:Option Addr)(fc:Nat)(n:Int)(s:By)(ad:Option Addr)(m cc:Nat)(w:World)(hF:Qcy w (.slice fa fs.length fc) fs)(hn:0<=n/\n<(fs.length:Int)):
  Calls prog 113 #[.slice fa fs.length fc,.agg (zg 20 n s ad m cc)] w (Qbj w (Iv (QaM (fs.map (·.params.length)) 20 n))):=by
 obtain⟨i,rfl⟩:∃i:Nat,n=i:=⟨n.toNat,by omega⟩
 have hi:i<fs.length:=zo;have hil:(i:Int)<(fs.length:Int):=zo;obtain⟨f,hf⟩:∃f,fs[i]?=some f:=⟨fs[i],List.getElem?_eq_getElem hi⟩
 have hq:QaM (fs.map (·.params.length)) 20 (i:Int)=f.params.length:=by
  unfold QaM;rw[if_neg zp,if_neg zp,if_neg zp,if_pos rfl,List.getD_eq_getElem?_getD,List.getElem?_map,Int.toNat_natCast,hf];rfl
 rw[hq];have HB:Hi (yr w (w.alloc (.cells (zg 20 i s ad m cc) 37))):=zO.alloc zP _;obtain⟨b,o,pa,pc,da,dc,rfl,hC⟩:=(hF.up HB.o).get hf;have A0:=Zh (zQ w (.cells (zg 20 i s ad m cc) 37));have c1:=hC.c1;clear hq hf hF hC hn;go_enter func113,ntmps113;go_upto_region 1 with fail;generalize World.alloc w _=w1 at*;have b0:=Ja A0.o 0;have b1:=Ja A0.o 1;simp only[zW]at b0 b1;go_wp2;go_ret;exact⟨rfl,HB.o⟩
def JcH(fs:List FnM)(v:Value)(k n:Int)(s:By)(ad:Option Addr)(m cc:Nat)(w:World)(hF:Qcy w v fs)(hn:k=20->0<=n/\n<(fs.length:Int)):
  Calls prog 113 #[v,.agg (zg k n s ad m cc)] w (Qbj w (Iv (QaM (fs.map (·.params.length)) k n))):=by
 obtain⟨fa,fc,rfl,_⟩:=hF.form
 by_cases h:k=20
 ·subst h;exact Jgb fs fa fc n s ad m cc w hF (hn rfl)
 ·exact Jea fs fa _ fc k n s ad m cc w h
def ux3{P:Prop}(h:P:=by
  clear hq;go_enter func112,ntmps112;go_upto_region 1 with fail;generalize World.alloc w _=w1 at*;have b0:=Ja A0.o 0;have b1:=Ja A0.o 1;have b2:=Ja A0.o 2;simp only[ZD,ZE,ZF]at b0 b1 b2;go_region;go_wp2;go_ret
  exact⟨rfl,HB.o⟩):P:=h
def QgP{P:Prop}(h:P:=by
  cases s with
  |nil=>
   have es:(([]:By)==[])=true:=rfl;obtain rfl:q=true:=by rw[<-hq];simp[*]
   exact ux3
  |cons c0 r0=>
   have es:((c0::r0)==[])=false:=rfl;have es2:(c0::r0).isEmpty=false:=rfl;have es3:¬(c0::r0)=[]:=by simp
   generalize c0::r0=s at*;obtain rfl:q=false:=by rw[<-hq];simp[*]
   exact ux3):P:=h
section
variable (fa:Option Addr)(nf fc M0:Nat)(n:Int)(s:By)(ad:Option Addr)(m cc:Nat)(w:World)(hs:s.length<=9223372036854775807)
include fa nf fc M0 n s ad m cc w hs
def zAu{P:Prop}(h:P:=by
  obtain rfl:q=false:=by rw[<-hq];simp[*]
  exact ux3):P:=h
theorem Jkd :
  Calls prog 112 #[.slice fa nf fc,.agg (zg 0 n s ad m cc),Iv M0] w (Qbj w (.bool (Qam nf M0 0 n s))):=by
 obtain⟨q,hq⟩:=yt (Qam nf M0 0 n s)
 rw[hq];have A0:=Zh (zQ w (.cells (zg 0 n s ad m cc) 37));have HB:Hi (yr w (w.alloc (.cells (zg 0 n s ad m cc) 37)).drew):=(zO.alloc zP _).drew;have u1:=Jj s;unfold Qam at hq
 by_cases h1:0<=n
 ·by_cases h2:n<=1125899906842624
  ·have d1:decide (0<=n)=true:=zG zo;have d2:decide (n<=1125899906842624)=true:=zG zo;exact QgP
  ·have d1:decide (0<=n)=true:=zG zo;have d2:decide (n<=1125899906842624)=false:=zH zo;exact zAu
 ·have d1:decide (0<=n)=false:=zH zo;exact zAu
theorem Jke :
  Calls prog 112 #[.slice fa nf fc,.agg (zg 1 n s ad m cc),Iv M0] w (Qbj w (.bool (Qam nf M0 1 n s))):=by
 obtain⟨q,hq⟩:=yt (Qam nf M0 1 n s)
 rw[hq];have A0:=Zh (zQ w (.cells (zg 1 n s ad m cc) 37));have HB:Hi (yr w (w.alloc (.cells (zg 1 n s ad m cc) 37)).drew):=(zO.alloc zP _).drew;have u1:=Jj s;unfold Qam at hq
 by_cases h1:n=0
 ·subst h1;exact QgP
 ·have e0:(n==0)=false:=zM h1
  by_cases h2:n=1
  ·subst h2;exact QgP
  ·have e1:(n==1)=false:=zM h2;exact zAu
theorem Jkf :
  Calls prog 112 #[.slice fa nf fc,.agg (zg 2 n s ad m cc),Iv M0] w (Qbj w (.bool (Qam nf M0 2 n s))):=by
 obtain⟨q,hq⟩:=yt (Qam nf M0 2 n s)
 rw[hq];have A0:=Zh (zQ w (.cells (zg 2 n s ad m cc) 37));have HB:Hi (yr w (w.alloc (.cells (zg 2 n s ad m cc) 37)).drew):=(zO.alloc zP _).drew;have u1:=Jj s;unfold Qam at hq
 by_cases h1:0<=n
 ·by_cases h2:n<(M0:Int)
  ·have d1:decide (0<=n)=true:=zG zo;have d2:decide (n<(M0:Int))=true:=zG zo;exact QgP
  ·have d1:decide (0<=n)=true:=zG zo;have d2:decide (n<(M0:Int))=false:=zH zo;exact zAu
 ·have d1:decide (0<=n)=false:=zH zo;exact zAu
theorem JhP :
  Calls prog 112 #[.slice fa nf fc,.agg (zg 19 n s ad m cc),Iv M0] w (Qbj w (.bool (Qam nf M0 19 n s))):=by
 obtain⟨q,hq⟩:=yt (Qam nf M0 19 n s)
 rw[hq];have A0:=Zh (zQ w (.cells (zg 19 n s ad m cc) 37));have HB:Hi (yr w (w.alloc (.cells (zg 19 n s ad m cc) 37)).drew):=(zO.alloc zP _).drew;have u1:=Jj s;unfold Qam at hq
 by_cases h1:n=(M0:Int)
 ·have e1:(n==(M0:Int))=true:=zN h1;rw[e1]at hq;have HH:=Zh h1;clear h1;exact QgP
 ·have e1:(n==(M0:Int))=false:=zM h1;exact zAu
theorem JhQ :
  Calls prog 112 #[.slice fa nf fc,.agg (zg 20 n s ad m cc),Iv M0] w (Qbj w (.bool (Qam nf M0 20 n s))):=by
 obtain⟨q,hq⟩:=yt (Qam nf M0 20 n s)
 rw[hq];have A0:=Zh (zQ w (.cells (zg 20 n s ad m cc) 37));have HB:Hi (yr w (w.alloc (.cells (zg 20 n s ad m cc) 37)).drew):=(zO.alloc zP _).drew;have u1:=Jj s;unfold Qam at hq
 by_cases h1:0<=n
 ·by_cases h2:n<(nf:Int)
  ·have d1:decide (0<=n)=true:=zG zo;have d2:decide (n<(nf:Int))=true:=zG zo;exact QgP
  ·have d1:decide (0<=n)=true:=zG zo;have d2:decide (n<(nf:Int))=false:=zH zo;exact zAu
 ·have d1:decide (0<=n)=false:=zH zo;exact zAu
end
def QiA{P:Prop}(h:P:=by
  clear hq;go_enter func112,ntmps112;go_upto_region 1 with fail;generalize World.alloc w _=w1 at*;have b0:=Ja A0.o 0;have b1:=Ja A0.o 1;have b2:=Ja A0.o 2;simp only[ZD,ZE,ZF]at b0 b1 b2;go_region;go_wp2_with fail;refine(cf _).mono ?_;rintro e w3 ⟨rfl,rfl⟩;go_wp2;go_ret
  exact⟨rfl,HB.o⟩):P:=h
def zA1{P:Prop}(h:P:=by
  obtain rfl:q=false:=by rw[<-hq];simp[*]
  exact QiA):P:=h
def Jkg(fa:Option Addr)(nf fc M0:Nat)(n:Int)(s:By)(ad:Option Addr)(m cc:Nat)(w:World)(hs:s.length<=9223372036854775807):
  Calls prog 112 #[.slice fa nf fc,.agg (zg 3 n s ad m cc),Iv M0] w (Qbj w (.bool (Qam nf M0 3 n s))):=by
 obtain⟨q,hq⟩:=yt (Qam nf M0 3 n s)
 rw[hq];have A0:=Zh (zQ w (.cells (zg 3 n s ad m cc) 37));have HB:Hi (yr w (w.alloc (.cells (zg 3 n s ad m cc) 37)).drew):=(zO.alloc zP _).drew;have u1:=Jj s;unfold Qam at hq;have cf:=λW=>Zi s W
 obtain⟨x,hx⟩:=yt ((QaU s).isSome)
 obtain⟨y,hy⟩:=yt ((QaU s).getD 0)
 rw[hx,hy]at cf;rw[hx]at hq;clear hx hy
 by_cases h1:n=0
 ·subst h1
  cases x with
  |true=>
   obtain rfl:q=true:=by rw[<-hq];simp[*]
   exact QiA
  |false=>
   exact zA1
 ·have e0:(n==0)=false:=zM h1
  cases x with
  |true=>
   exact zA1
  |false=>
   exact zA1
def QiC{P:Prop}(h:P:=by
  clear hq;go_enter func112,ntmps112;go_upto_region 1 with fail;generalize World.alloc w _=w1 at*;have b0:=Ja A0.o 0;have b1:=Ja A0.o 1;have b2:=Ja A0.o 2;simp only[ZD,ZE,ZF]at b0 b1 b2;go_region;go_wp2_with fail;refine(ct _).mono ?_;rintro e w3 ⟨rfl,rfl⟩;go_wp2;go_ret
  exact⟨rfl,HB.o⟩):P:=h
def QjV{P:Prop}(h:P:=by
  have u1:=Jj s;unfold Qam at hq;have ct:=λW=>JcG s W hs
  obtain⟨x,hx⟩:=yt (QcD s)
  rw[hx]at ct hq;clear hx
  by_cases h1:n=0
  ·subst h1
   cases x with
   |true=>
    obtain rfl:q=true:=by rw[<-hq];simp[*]
    exact QiC
   |false=>
    obtain rfl:q=false:=by rw[<-hq];simp[*]
    exact QiC
  ·have e0:(n==0)=false:=zM h1
   cases x with
   |true=>
    obtain rfl:q=false:=by rw[<-hq];simp[*]
    exact QiC
   |false=>
    obtain rfl:q=false:=by rw[<-hq];simp[*]
    exact QiC):P:=h
def Jkh(fa:Option Addr)(nf fc M0:Nat)(n:Int)(s:By)(ad:Option Addr)(m cc:Nat)(w:World)(hs:s.length<=9223372036854775807):
  Calls prog 112 #[.slice fa nf fc,.agg (zg 4 n s ad m cc),Iv M0] w (Qbj w (.bool (Qam nf M0 4 n s))):=by
 obtain⟨q,hq⟩:=yt (Qam nf M0 4 n s)
 rw[hq];have A0:=Zh (zQ w (.cells (zg 4 n s ad m cc) 37));have HB:Hi (yr w (w.alloc (.cells (zg 4 n s ad m cc) 37)).drew):=(zO.alloc zP _).drew;exact QjV
def Jki(fa:Option Addr)(nf fc M0:Nat)(n:Int)(s:By)(ad:Option Addr)(m cc:Nat)(w:World)(hs:s.length<=9223372036854775807):
  Calls prog 112 #[.slice fa nf fc,.agg (zg 5 n s ad m cc),Iv M0] w (Qbj w (.bool (Qam nf M0 5 n s))):=by
 obtain⟨q,hq⟩:=yt (Qam nf M0 5 n s)
 rw[hq];have A0:=Zh (zQ w (.cells (zg 5 n s ad m cc) 37));have HB:Hi (yr w (w.alloc (.cells (zg 5 n s ad m cc) 37)).drew):=(zO.alloc zP _).drew;exact QjV
def JcI(fa:Option Addr)(nf fc M0:Nat)(k n:Int)(s:By)(ad:Option Addr)(m cc:Nat)(w:World)(hs:s.length<=9223372036854775807)
  (h0:k≠0) (h1:k≠1) (h2:k≠2) (h3:k≠3) (h4:k≠4) (h5:k≠5) (M3:k≠19) (T3:k≠20):
  Calls prog 112 #[.slice fa nf fc,.agg (zg k n s ad m cc),Iv M0] w (Qbj w (.bool (Qam nf M0 k n s))):=by
 obtain⟨q,hq⟩:=yt (Qam nf M0 k n s)
 rw[hq];have A0:=Zh (zQ w (.cells (zg k n s ad m cc) 37));have HB:Hi (yr w (w.alloc (.cells (zg k n s ad m cc) 37)).drew):=(zO.alloc zP _).drew;have u1:=Jj s;unfold Qam at hq;rw[if_neg h0,if_neg h1,if_neg h2,if_neg M3,if_neg T3,if_neg h3,if_neg zo]at hq;have f0:(k==0)=false:=zM h0;have f1:(k==1)=false:=zM h1;have f2:(k==2)=false:=zM h2;have f3:(k==3)=false:=zM h3;have f4:(k==4)=false:=zM h4;have f5:(k==5)=false:=zM h5;have xA:(k==19)=false:=zM M3;have yA:(k==20)=false:=zM T3;clear h0 h1 h2 h3 h4 h5 M3 T3
 by_cases h1:n=0
 ·subst h1
  cases s with
  |nil=>
   have es:(([]:By)==[])=true:=rfl
   by_cases g1:0<=k
   ·have d1:decide (0<=k)=true:=zG zo
    by_cases g2:k<21
    ·have d2:decide (k<21)=true:=zG zo;obtain rfl:q=true:=by rw[<-hq];simp[*]
     exact ux3
    ·have d2:decide (k<21)=false:=zH zo;exact zAu
   ·have d1:decide (0<=k)=false:=zH zo;exact zAu
  |cons c0 r0=>
   have es:((c0::r0)==[])=false:=rfl;have es2:(c0::r0).isEmpty=false:=rfl;have es3:¬(c0::r0)=[]:=zq;generalize c0::r0=s at*;exact zAu
 ·have e0:(n==0)=false:=zM h1;exact zAu
def YW(v:Value)(fs:List FnM)(M0:Nat)(k n:Int)(s:By)(ad:Option Addr)(m cc:Nat)(w:World)(hs:s.length<=9223372036854775807)(hF:Qcy w v fs):
  Calls prog 112 #[v,.agg (zg k n s ad m cc),Iv M0] w (Qbj w (.bool (Qam fs.length M0 k n s))):=by
 obtain⟨fa,fc,rfl,_⟩:=hF.form
 by_cases h0:k=0
 ·subst h0;exact Jkd fa _ fc M0 n s ad m cc w hs
 by_cases h1:k=1
 ·subst h1;exact Jke fa _ fc M0 n s ad m cc w hs
 by_cases h2:k=2
 ·subst h2;exact Jkf fa _ fc M0 n s ad m cc w hs
 by_cases h3:k=3
 ·subst h3;exact Jkg fa _ fc M0 n s ad m cc w hs
 by_cases h4:k=4
 ·subst h4;exact Jkh fa _ fc M0 n s ad m cc w hs
 by_cases h5:k=5
 ·subst h5;exact Jki fa _ fc M0 n s ad m cc w hs
 by_cases M3:k=19
 ·subst M3;exact JhP fa _ fc M0 n s ad m cc w hs
 by_cases T3:k=20
 ·subst T3;exact JhQ fa _ fc M0 n s ad m cc w hs
 exact JcI fa _ fc M0 k n s ad m cc w hs h0 h1 h2 h3 h4 h5 M3 T3
def zb{P:Prop}(h:P:=by exact ⟨((Below.refl w1.heap.size w1).drew).trans (xA.mono ((Below.refl w1.heap.size w1).drew).size),FF.o _ (((Below.refl w1.heap.size w1).drew).trans (xA.mono ((Below.refl w1.heap.size w1).drew).size))⟩):P:=h
def zi{P:Prop}(h:P:=by exact ⟨(Below.refl w1.heap.size w1).drew,FF.o _ (Below.refl w1.heap.size w1).drew⟩):P:=h
def yG{P:Prop}(h:P:=by exact ⟨(hH.1).trans (yA.mono (hH.1).size),FF.o _ ((hH.1).trans (yA.mono (hH.1).size))⟩):P:=h
mutual
def NmN:Exp->Prop
 |.mk k n s l=>s.length<=9223372036854775807/\NmL l
def NmL:List Exp->Prop
 |[]=>True
 |a::l=>NmN a/\NmL l
end
def JhR(h:NmL l):∀a∈l,NmN a:=by
 induction l with
 |nil=>intro a ha;cases ha
 |cons x r ih=>
  unfold NmL at h;exact Qgt
def Bel(w W:World):Prop:=Below w.heap.size w W
def Qdr(k:Int)(i M0:Nat):Nat:=if k=19/\i=1 then M0+1 else M0
def JaR(pa:List Nat)(M0 Qag:Nat)(k:Int):∀(l:List Exp)(i:Nat)(a:Exp),QaB pa M0 Qag k i (l++[a])=(QaB pa M0 Qag k i l&&QaK pa (Qdr k (i+l.length) M0) Qag a)
 |[],i,a=>by rw[List.nil_append,QaB,QaB,QaB];simp[Qdr]
 |x::l,i,a=>by
  rw[List.cons_append,QaB,QaB,JaR pa M0 Qag k l (i+1) a,Bool.and_assoc,List.length_cons,show i+1+l.length=i+(l.length+1) by omega]
def Z9(pa:List Nat)(M0 Qag:Nat)(k:Int):∀(l:List Exp)(i j:Nat)(a:Exp),l[j]?=some a->QaK pa (Qdr k (i+j) M0) Qag a=false->QaB pa M0 Qag k i l=false
 |[],i,j,a,h,_=>by simp at h
 |x::l,i,0,a,h,hf=>by
  obtain rfl:x=a:=by simpa using h
  rw[QaB];have:QaK pa (if k=19/\i=1 then M0+1 else M0) Qag x=false:=hf;rw[this];rfl
 |x::l,i,j+1,a,h,hf=>by
  rw[QaB,Z9 pa M0 Qag k l (i+1) j a (by simpa using h) (by rw[show i+1+j=i+(j+1) by omega];exact hf)];simp
def QiQ{P:Prop}(h:P:=by
  go_wp2_with fail;refine ci.mono ?_;rintro e w7 ⟨rfl,r8⟩;have T7:=Zh (Jd N2.o r8);clear ci r8 b0 b1 b2 b3 c0 c1 c2 c3 N2
  cases x with
  |true=>
   have P8:Hi (QaB pa M0 dn k 0 (l.take (i+1))=true):=by rw[Hi,List.take_add_one,HY.o];show QaB _ _ _ _ _ (_++[y])=true;rw[JaR,M4.o,Nat.zero_add,List.length_take_of_le (Nat.le_of_lt A5.o),HX.o];rfl
   clear M4;go_wp2;go_roundg (l.length-(i+1))
   case measure=>have:=HG.o;have:=A5.o;omega
   case rel=>exact⟨i+1,by have:=A5.o;omega,by go_num,T7,P8⟩
  |false=>
   have A3:q=false:=by rw[<-H9.o];exact Z9 pa M0 dn k l 0 i y HY.o (by rw[Nat.zero_add];exact HX.o)
   subst A3;have UE:=Zh (O2.o _ T7.o);clear M4 T7;go_wp2;go_ret
   exact⟨rfl,UE.o⟩):P:=h
def QiJ{P:Prop}(h:P:=by
  try simp only[Act.put,ZA,ZB,ZC]
  refine wpAnyH_done (by kernel_rfl) ?_ _;have R7:=Zh hH.1;clear hH b0 b1 b2 b3;go_wp2;go_ret
  exact⟨rfl,O2.o _ R7.o⟩):P:=h
def Qit{P:Prop}(h:P:=by
  intro W hW;have hh:=(hW.block _ I9.o).trans A0.o
  refine⟨?_,?_,?_,?_⟩<;>(rw[Ja hh];rfl)):P:=h
def zAv{P:Prop}(h:P:=by
  try simp only[zX]
  refine zK 8 ?_;try simp only[zX]
  refine zK 9 ?_;try simp only[zX]
  refine zL 10 ?_
  try simp only[zX]
  refine zL 11 ?_
  try simp only[zX]
  refine zL 12 ?_
  try simp only[zX]
  refine zL 13 ?_
  try simp only[zX]
  refine zL 14 ?_
  try simp only[zX]
  refine zL 15 ?_
  try simp only[zX]
  refine zL 16 ?_
  try simp only[zX]
  refine zK 17 ?_
  exact QiJ):P:=h
def JhS(fs:List FnM)(n:Nat)(IH:∀(y:Exp)(d:Array Value)(v:Value)(M0 Qag:Nat)(W:World),siz (utN y)<=n->NmN y->M0+siz (utN y)<=4000000000->Qag<=4000000000->XAt W (In W) y d->Qcy W v fs->
  Calls prog 56 #[v,.agg d,Iv M0,Iv Qag] W (Qbj W (.bool (QaK (fs.map (·.params.length)) M0 Qag y))))
  (k nn:Int) (s:By) (l:List Exp) (ad:Option Addr) (cc:Nat) (v:Value) (M0 Qag:Nat) (w:World) (hs:s.length<=9223372036854775807) (hl:NmL l) (hn:Qbd (utL l)<=n) (hv:M0+Qbd (utL l)+1<=4000000000) (hne:Qag<=4000000000) (hK:QeF w ad l) (hF:Qcy w v fs):
  Calls prog 56 #[v,.agg #[Iv k,Iv nn,Sv s,.slice ad l.length cc],Iv M0,Iv Qag] w (Qbj w (.bool (QaK (fs.map (·.params.length)) M0 Qag (.mk k nn s l)))):=by
 obtain⟨q,hq⟩:∃q,QaK (fs.map (·.params.length)) M0 Qag (.mk k nn s l)=q:=⟨_,rfl⟩
 rw[hq,];rw[QaK]at hq;have gA:(fs.map (·.params.length)).length=fs.length:=zq;rw[gA]at hq;generalize rA:fs.map (·.params.length)=pa at*;obtain⟨fa,fc,rfl,_⟩:=hF.form;have mA:Below w.heap.size w (w.alloc (.cells #[Iv k,Iv nn,Sv s,.slice ad l.length cc] 37)):=zO.alloc (Nat.le_refl _) _;have A0:=Zh (zQ w (.cells #[Iv k,Iv nn,Sv s,.slice ad l.length cc] 37));have O2:Hi (∀W,Below (w.alloc (.cells #[Iv k,Iv nn,Sv s,.slice ad l.length cc] 37)).heap.size (w.alloc (.cells #[Iv k,Iv nn,Sv s,.slice ad l.length cc] 37)) W->Bel w W):=λW hW=>Jd mA hW
 have eB:=Zh hK;have vA:=Zh hF;have zB:=Zh IH;have sA:=Zh rA;have yB:=Zh hl;have hB:l.length<=4000000000:=by have:=JhN l;omega
 have Q6:=Zh hn;have l8:=Zh hv;clear mA hK hF IH rA hl gA hn hv
 by_cases h1:1<=Qag
 ·have d1:decide ((Qag:Int)<1)=false:=zH zo;have dB:decide (Qag<1)=false:=zH zo;obtain⟨dn,uB⟩:∃dn,Qag=dn+1:=⟨Qag-1,by omega⟩
  have wn:IntKind.i64.wrap ((Qag:Int)-1)=(dn:Int):=by rw[IntWalk.i64_in _ zo];omega
  have tA:Qag-1=dn:=zo;rw[tA,zG h1,Bool.true_and]at hq;have vB:Hi (dn<=4000000000):=by unfold Hi;omega
  clear uB h1 tA hne;obtain⟨fb,dA⟩:∃fb,Qam fs.length M0 k nn s=fb:=⟨_,rfl⟩
  have A1:=Zh dA;rw[dA]at hq;clear dA
  cases fb with
  |false=>
   obtain rfl:q=false:=by rw[<-hq];rfl
   clear hq wn;go_enter func56,ntmps56;go_upto_region 1 with fail;have I9:Hi (w.heap.size<(w.alloc (.cells #[Iv k,Iv nn,Sv s,.slice ad l.length cc] 37)).heap.size):=Jb A0.o;generalize World.alloc w _=w1 at*;generalize w.heap.size=eb at*
   have FF:Hi (∀W,Below w1.heap.size w1 W->W.cell? ⟨eb,0,none⟩=some (Iv k)/\W.cell? ⟨eb,1,none⟩=some (Iv nn)/\W.cell? ⟨eb,2,none⟩=some (Sv s)/\W.cell? ⟨eb,3,none⟩=some (.slice ad l.length cc)):=by
    exact Qit
   obtain⟨b0,b1,b2,b3⟩:=FF.o _ zO;refine wp_region_held_drew (S:=(λW=>Below w1.heap.size w1 W/\W.cell? ⟨eb,0,none⟩=some (Iv k)/\W.cell? ⟨eb,1,none⟩=some (Iv nn)/\W.cell? ⟨eb,2,none⟩=some (Sv s)/\W.cell? ⟨eb,3,none⟩=some (.slice ad l.length cc))) zk zi λhH=>?_;refine zK 0 ?_
   try simp only[zX]
   refine zK 1 ?_;try simp only[zX]
   refine zK 2 ?_;try simp only[zX]
   refine zK 3 ?_;try simp only[zX]
   refine zK 4 ?_;try simp only[zX]
   refine zK 5 ?_;try simp only[zX]
   refine ZS 6 rfl λK hK=>?_;have uA:=YW (.slice fa fs.length fc) fs M0 k nn s ad l.length cc _ hs (vA.o.up (O2.o _ ((Below.refl w1.heap.size w1).drew)));rw[A1.o]at uA
   (go_simp;go_at_call 112;refine uA.mono ?_;rintro e nA ⟨rfl,xA⟩)
   refine zU hK zb λhH=>?_;clear hK K
   try simp only[zX]
   refine zK 7 ?_;exact zAv
  |true=>
  rw[Bool.true_and]at hq
  have T3:k=20->0<=nn/\nn<(fs.length:Int):=by
   intro e;subst e;have:=A1.o;unfold Qam at this;simp at this;exact⟨this.1.1,this.1.2⟩
  have jA:=Zh T3;obtain⟨am,eA⟩:∃am,QaM pa k nn=am:=⟨_,rfl⟩
  have pA:=Zh eA;rw[eA]at hq;clear eA T3
  by_cases hlen:l.length=am
  ·have gB:=Zh hlen;have xB:QaB pa M0 dn k 0 l=q:=by rw[<-hq,hlen];simp
   have H9:=Zh xB;have ea:((l.length:Int)==(am:Int))=true:=zN zo;have kA:((l.length:Int) !=(am:Int))=false:=by rw[bne,ea];rfl
   clear hlen hq xB;go_enter func56,ntmps56;go_upto_region 1 with fail;have I9:Hi (w.heap.size<(w.alloc (.cells #[Iv k,Iv nn,Sv s,.slice ad l.length cc] 37)).heap.size):=Jb A0.o;generalize World.alloc w _=w1 at*;generalize w.heap.size=eb at*
   have FF:Hi (∀W,Below w1.heap.size w1 W->W.cell? ⟨eb,0,none⟩=some (Iv k)/\W.cell? ⟨eb,1,none⟩=some (Iv nn)/\W.cell? ⟨eb,2,none⟩=some (Sv s)/\W.cell? ⟨eb,3,none⟩=some (.slice ad l.length cc)):=by
    exact Qit
   obtain⟨b0,b1,b2,b3⟩:=FF.o _ zO;refine wp_region_held_drew (S:=(λW=>Below w1.heap.size w1 W/\W.cell? ⟨eb,0,none⟩=some (Iv k)/\W.cell? ⟨eb,1,none⟩=some (Iv nn)/\W.cell? ⟨eb,2,none⟩=some (Sv s)/\W.cell? ⟨eb,3,none⟩=some (.slice ad l.length cc))) zk zi λhH=>?_;refine zK 0 ?_
   try simp only[zX]
   refine zK 1 ?_;try simp only[zX]
   refine zK 2 ?_;try simp only[zX]
   refine zK 3 ?_;try simp only[zX]
   refine zK 4 ?_;try simp only[zX]
   refine zK 5 ?_;try simp only[zX]
   refine ZS 6 rfl λK hK=>?_;have uA:=YW (.slice fa fs.length fc) fs M0 k nn s ad l.length cc _ hs (vA.o.up (O2.o _ ((Below.refl w1.heap.size w1).drew)));rw[A1.o]at uA
   (go_simp;go_at_call 112;refine uA.mono ?_;rintro e nA ⟨rfl,xA⟩)
   refine zU hK zb λhH=>?_;clear hK K
   try simp only[zX]
   refine zK 7 ?_;try simp only[zX]
   refine zK 8 ?_;try simp only[zX]
   refine zK 9 ?_;try simp only[zX]
   refine zK 10 ?_;try simp only[zX]
   refine zK 11 ?_;try simp only[zX]
   refine zK 12 ?_;try simp only[zX]
   refine zK 13 ?_;try simp only[zX]
   refine zK 14 ?_;try simp only[zX]
   refine ZS 15 rfl λK hK=>?_;have aA:=JcH fs (.slice fa fs.length fc) k nn s ad l.length cc _ (vA.o.up (O2.o _ (hH.1))) jA.o;rw[sA.o,pA.o]at aA
   (go_simp;go_at_call 113;refine aA.mono ?_;rintro e iA ⟨rfl,yA⟩)
   refine zU hK yG λhH=>?_;clear hK K
   try simp only[zX]
   refine zK 16 ?_;try simp only[zX]
   refine zK 17 ?_;try simp only[zX]
   refine wpAnyH_done zk ?_ _;have R7:=Zh hH.1;have qA:=FF.o _ hH.1;clear b0 b1 b2 b3 hH;clear uA aA xA yA;obtain⟨w3,hA⟩:∃w3,w3=iA:=⟨_,rfl⟩
   rw[<-hA]at R7 qA |-;clear hA;obtain⟨b0,b1,b2,b3⟩:=qA;go_wp2_with fail;clear b0 b1 b2 b3 ea kA;go_loopg [33] l.length λg v33 wr=>∃i:Nat,g+i=l.length/\v33=Iv i/\Hi (Below w1.heap.size w1 wr)/\Hi (QaB pa M0 dn k 0 (l.take i)=true)
   case atStart=>exact⟨0,rfl,rfl,R7,by unfold Hi;rw[List.take_zero,QaB]⟩
   case round=>
   clear R7;obtain⟨wl,rfl⟩:=zJ wr;obtain⟨i,hg,rfl,G1,M4⟩:=hrel
   by_cases hi:i<l.length
   ·have hil:(i:Int)<(l.length:Int):=zo;obtain⟨y,hy⟩:∃y,l[i]?=some y:=⟨l[i],List.getElem?_eq_getElem hi⟩
    have hmem:=List.mem_of_getElem? hy;obtain⟨b,o,da,dc,aB,hxy,c0,c1,c2,c3⟩:=eB.o.at' (O2.o _ G1.o) hy;have wk:=zI i;have I0:Below wl.heap.size wl (wl.alloc (.cells #[Iv y.kind,Iv y.num,.string (bs y.name),.slice da y.kids.length dc] 37)):=zO.alloc (Nat.le_refl _) _;have R0:Below w1.heap.size w1 (wl.alloc (.cells #[Iv y.kind,Iv y.num,.string (bs y.name),.slice da y.kids.length dc] 37)):=Jd G1.o I0;have ci:=zB.o y _ (.slice fa fs.length fc) (Qdr k i M0) dn (wl.alloc (.cells #[Iv y.kind,Iv y.num,.string (bs y.name),.slice da y.kids.length dc] 37)) (zv (K6 hmem) Q6.o) (JhR yB.o y hmem) (by have:=K6 hmem;have:=l8.o;unfold Qdr;split<;>omega) vB.o (hxy.up I0) (vA.o.up (O2.o _ R0));obtain⟨x,hx⟩:∃x,QaK pa (Qdr k i M0) dn y=x:=⟨_,rfl⟩
    rw[hx]at ci;have HX:=Zh hx;have HY:=Zh hy;have N2:=Zh R0;have HG:=Zh hg;have A5:=Zh hi;obtain⟨b0,b1,b2,b3⟩:=FF.o _ R0;subst aB;clear I0 R0 hmem hxy G1 hx hy hi hg;have zA:Qdr k i M0=if k=19/\i=1 then M0+1 else M0:=rfl
    by_cases e19:k=19
    ·have cB:(k==19)=true:=zN e19
     by_cases e1:i=1
     ·rw[if_pos ⟨e19,e1⟩]at zA;have bB:((i:Int)==1)=true:=zN zo;have cA:(i==1)=true:=zN e1;have wv:IntKind.i64.wrap ((M0:Int)+1)=((M0+1:Nat):Int):=by rw[IntWalk.i64_in _ (zu l8.o)];omega
      rw[zA]at ci HX;rw[Int.natCast_add,Int.natCast_one]at ci wv;have B0:Hi (QaK pa (Qdr k i M0) dn y=x):=by unfold Hi;rw[zA];exact HX.o
      clear HX;have HX:=B0;clear B0 zA e19 e1;exact QiQ
     ·rw[if_neg λh=>e1 h.2]at zA;have bB:((i:Int)==1)=false:=zM zo;have cA:(i==1)=false:=zM e1;rw[zA]at ci;clear zA e19 e1;exact QiQ
    ·have cB:(k==19)=false:=zM e19;rw[if_neg λh=>e19 h.1]at zA;rw[zA]at ci;clear zA e19;exact QiQ
   ·have hil:¬(i:Int)<(l.length:Int):=zo;obtain rfl:i=l.length:=zo;have bA:=M4.o;rw[List.take_length,H9.o]at bA;subst bA;have U2:=Zh (O2.o _ G1.o);clear hi hg M4 G1;go_wp2;go_ret;exact⟨rfl,U2.o⟩
  ·have gB:=Zh hlen;have A3:q=false:=by rw[<-hq,zM hlen];rfl
   subst A3;have ea:((l.length:Int)==(am:Int))=false:=zM zo;have kA:((l.length:Int) !=(am:Int))=true:=by rw[bne,ea];rfl
   clear hlen hq wn;go_enter func56,ntmps56;go_upto_region 1 with fail;have I9:Hi (w.heap.size<(w.alloc (.cells #[Iv k,Iv nn,Sv s,.slice ad l.length cc] 37)).heap.size):=Jb A0.o;generalize World.alloc w _=w1 at*;generalize w.heap.size=eb at*
   have FF:Hi (∀W,Below w1.heap.size w1 W->W.cell? ⟨eb,0,none⟩=some (Iv k)/\W.cell? ⟨eb,1,none⟩=some (Iv nn)/\W.cell? ⟨eb,2,none⟩=some (Sv s)/\W.cell? ⟨eb,3,none⟩=some (.slice ad l.length cc)):=by
    exact Qit
   obtain⟨b0,b1,b2,b3⟩:=FF.o _ zO;refine wp_region_held_drew (S:=(λW=>Below w1.heap.size w1 W/\W.cell? ⟨eb,0,none⟩=some (Iv k)/\W.cell? ⟨eb,1,none⟩=some (Iv nn)/\W.cell? ⟨eb,2,none⟩=some (Sv s)/\W.cell? ⟨eb,3,none⟩=some (.slice ad l.length cc))) zk zi λhH=>?_;refine zK 0 ?_
   try simp only[zX]
   refine zK 1 ?_;try simp only[zX]
   refine zK 2 ?_;try simp only[zX]
   refine zK 3 ?_;try simp only[zX]
   refine zK 4 ?_;try simp only[zX]
   refine zK 5 ?_;try simp only[zX]
   refine ZS 6 rfl λK hK=>?_;have uA:=YW (.slice fa fs.length fc) fs M0 k nn s ad l.length cc _ hs (vA.o.up (O2.o _ ((Below.refl w1.heap.size w1).drew)));rw[A1.o]at uA
   (go_simp;go_at_call 112;refine uA.mono ?_;rintro e nA ⟨rfl,xA⟩)
   refine zU hK zb λhH=>?_;clear hK K
   try simp only[zX]
   refine zK 7 ?_;try simp only[zX]
   refine zK 8 ?_;try simp only[zX]
   refine zK 9 ?_;try simp only[zX]
   refine zK 10 ?_;try simp only[zX]
   refine zK 11 ?_;try simp only[zX]
   refine zK 12 ?_;try simp only[zX]
   refine zK 13 ?_;try simp only[zX]
   refine zK 14 ?_;try simp only[zX]
   refine ZS 15 rfl λK hK=>?_;have aA:=JcH fs (.slice fa fs.length fc) k nn s ad l.length cc _ (vA.o.up (O2.o _ (hH.1))) jA.o;rw[sA.o,pA.o]at aA
   (go_simp;go_at_call 113;refine aA.mono ?_;rintro e iA ⟨rfl,yA⟩)
   refine zU hK yG λhH=>?_;clear hK K
   try simp only[zX]
   refine zK 16 ?_;try simp only[zX]
   refine zK 17 ?_
   exact QiJ
 ·have d1:decide ((Qag:Int)<1)=true:=zG zo;have dB:decide (Qag<1)=true:=zG zo;have A3:q=false:=by rw[<-hq,zH h1];rfl
  subst A3;clear hq h1;go_enter func56,ntmps56;go_upto_region 1 with fail;have I9:Hi (w.heap.size<(w.alloc (.cells #[Iv k,Iv nn,Sv s,.slice ad l.length cc] 37)).heap.size):=Jb A0.o;generalize World.alloc w _=w1 at*;generalize w.heap.size=eb at*
  have FF:Hi (∀W,Below w1.heap.size w1 W->W.cell? ⟨eb,0,none⟩=some (Iv k)/\W.cell? ⟨eb,1,none⟩=some (Iv nn)/\W.cell? ⟨eb,2,none⟩=some (Sv s)/\W.cell? ⟨eb,3,none⟩=some (.slice ad l.length cc)):=by
   exact Qit
  obtain⟨b0,b1,b2,b3⟩:=FF.o _ zO;refine wp_region_held_drew (S:=(λW=>Below w1.heap.size w1 W/\W.cell? ⟨eb,0,none⟩=some (Iv k)/\W.cell? ⟨eb,1,none⟩=some (Iv nn)/\W.cell? ⟨eb,2,none⟩=some (Sv s)/\W.cell? ⟨eb,3,none⟩=some (.slice ad l.length cc))) zk zi λhH=>?_;refine zK 0 ?_
  try simp only[zX]
  refine zK 1 ?_;try simp only[zX]
  refine zK 2 ?_;try simp only[zX]
  refine zL 3 ?_
  try simp only[zX]
  refine zL 4 ?_
  try simp only[zX]
  refine zL 5 ?_
  try simp only[zX]
  refine zL 6 ?_
  try simp only[zX]
  refine zL 7 ?_
  exact zAv
def Jfb(fs:List FnM):∀n,∀(y:Exp)(d:Array Value)(v:Value)(M0 Qag:Nat)(W:World),siz (utN y)<=n->NmN y->M0+siz (utN y)<=4000000000->Qag<=4000000000->XAt W (In W) y d->Qcy W v fs->
  Calls prog 56 #[v,.agg d,Iv M0,Iv Qag] W (Qbj W (.bool (QaK (fs.map (·.params.length)) M0 Qag y)))
 |0,y,d,v,M0,Qag,W,h,_,_,_,_,_=>by have:=Vh (utN y);omega
 |n+1,.mk k nn s l,d,v,M0,Qag,W,h,hN,hv,hne,hx,hF=>by
  rw[utN,JD]at h hv;unfold NmN at hN;obtain⟨ad,cc,rfl,_,hK⟩:=hx.kids;exact JhS fs n (Jfb fs n) k nn s l ad cc v M0 Qag W hN.1 hN.2 zo zo hne hK hF
def Jfc(fs:List FnM)(y:Exp)(d:Array Value)(v:Value)(M0 Qag:Nat)(W:World)(hN:NmN y)(hv:M0+siz (utN y)<=4000000000)(hne:Qag<=4000000000)(hx:XAt W (In W) y d)(hF:Qcy W v fs):
  Calls prog 56 #[v,.agg d,Iv M0,Iv Qag] W (Qbj W (.bool (QaK (fs.map (·.params.length)) M0 Qag y))):=
 Jfb fs _ y d v M0 Qag W (Nat.le_refl _) hN hv hne hx hF
variable{α:Type}
def Vc{p:α->Bool}{l:List α}{a:α}(h:(l.take i).all p=true)(hi:l[i]?=some a)(hp:p a=true):(l.take (i+1)).all p=true:=by
 rw[List.take_add_one,hi,List.all_append,h];simp[hp]
def Vk{p:α->Bool}{l:List α}{a:α}(hi:l[i]?=some a)(hp:p a=false):l.all p=false:=by
 cases h:l.all p with
 |false=>rfl
 |true=>
  have:=List.all_eq_true.1 h a (List.mem_of_getElem? hi);rw[hp]at this
  cases this
structure RSz(r:Qah):Prop where
 nf:r.funcs.length<=1000000
 nc:r.clauses.length<=1000000
 fn:∀f∈r.funcs,f.name.length<=9223372036854775807/\f.params.length<=1000000/\NmN f.body/\siz (utN f.body)<=1000000
 cl:∀c∈r.clauses,NmN c.cond/\siz (utN c.cond)<=1000000/\c.reason.length<=9223372036854775807
variable{r:Qah}
def QaV.parts(h:QaV W (In W) r c):∃fa fc ca cc,c=(zY fa r.funcs.length fc ca r.clauses.length cc r.action)/\Qcy W (.slice fa r.funcs.length fc) r.funcs/\QdL W (.slice ca r.clauses.length cc) r.clauses:=by
 obtain⟨fv,cv,h1,h2,h3⟩:=h;have h2':Qcy W fv r.funcs:=h2;have xA:QdL W cv r.clauses:=h3;obtain⟨fa,fc,rfl,_⟩:=h2'.form;obtain⟨ca,cc,rfl,_⟩:=xA.form;exact⟨fa,fc,ca,cc,h1,h2',xA⟩
def trF(r:Qah)(f:FnM):Bool:=QaK r.pa f.params.length 40 f.body
def trC(r:Qah)(c:ClM):Bool:=QaK r.pa 0 40 c.cond
def Jkj(r:Qah):Qbq r=(r.funcs.all (trF r)&&r.clauses.all (trC r)):=rfl
variable{w:World}
def QaV.up(h:QaV w (In w) r c)(hb:yr w W):QaV W (In W) r c:=by
 obtain⟨fv,cv,h1,h2,h3⟩:=h;exact⟨fv,cv,h1,Qcy.up h2 hb,QdL.up h3 hb⟩
def zAz{P:Prop}(h:P:=by
  refine⟨?_,?_,?_⟩<;>(rw[Ja hh];rfl)):P:=h
def zA2{P:Prop}(h:P:=by
  subst A3;have UE:=Zh (O2.o _ T7.o);clear M4 T7;go_wp2;go_ret;exact⟨rfl,UE.o⟩):P:=h
def JhT(r:Qah)(c:Array Value)(w:World)(hx:QaV w (In w) r c)(hz:RSz r):Calls prog 27 #[.agg c] w (Qbj w (.bool (Qbq r))):=by
 obtain⟨fa,fc,ca,cc,rfl,hF,hC⟩:=hx.parts;obtain⟨q,hq⟩:=yt (Qbq r)
 rw[hq];rw[Jkj]at hq;have HQ:=Zh hq;have dA:yr w (w.alloc (.cells (zY fa r.funcs.length fc ca r.clauses.length cc r.action) 25)):=zO.alloc (Nat.le_refl _) _;have A0:=Zh (zQ w (.cells (zY fa r.funcs.length fc ca r.clauses.length cc r.action) 25));have O2:Hi (∀W,Below (w.alloc (.cells (zY fa r.funcs.length fc ca r.clauses.length cc r.action) 25)).heap.size (w.alloc (.cells (zY fa r.funcs.length fc ca r.clauses.length cc r.action) 25)) W->Bel w W):=λW hW=>Jd dA hW
 have aA:=Zh hF;have cA:=Zh hC;have HZ:=Zh hz;have nA:=hz.nf;have mA:=hz.nc;obtain⟨fl,hfl⟩:=yt r.funcs.length
 obtain⟨cl,hcl⟩:=yt r.clauses.length
 rw[hfl]at nA;rw[hcl]at mA;have eA:=Zh hfl;have hA:=Zh hcl;have bA:Hi (Below (w.alloc (.cells (zY fa r.funcs.length fc ca r.clauses.length cc r.action) 25)).heap.size (w.alloc (.cells (zY fa r.funcs.length fc ca r.clauses.length cc r.action) 25)) (w.alloc (.cells (zY fa r.funcs.length fc ca r.clauses.length cc r.action) 25))):=zO;simp only[hfl,hcl]at A0 O2 aA cA bA |-;clear dA hx hF hC hz hq hfl hcl;go_enter func27,ntmps27;go_upto_region 1 with fail;have I9:Hi (w.heap.size<(w.alloc (.cells (zY fa fl fc ca cl cc r.action) 25)).heap.size):=Jb A0.o;generalize World.alloc w _=w1 at*;generalize w.heap.size=eb at*
 have FF:Hi (∀W,yr w1 W->yY W eb (.slice fa fl fc) (.slice ca cl cc) (Iv r.action)):=by
  intro W hW;have hh:=(hW.block _ I9.o).trans A0.o;exact zAz
 obtain⟨b0,b1,b2⟩:=FF.o _ zO;go_wp2_with fail;clear b0 b1 b2;go_loopg [10] fl λg v10 wr=>∃i:Nat,g+i=fl/\v10=Iv i/\Hi (yr w1 wr)/\Hi ((r.funcs.take i).all (trF r)=true)
 case atStart=>exact⟨0,rfl,rfl,bA,rfl⟩
 case round=>
 clear bA;obtain⟨wl,rfl⟩:=zJ wr;obtain⟨i,hg,rfl,G1,M4⟩:=hrel
 by_cases hi:i<fl
 ·have hil:(i:Int)<(fl:Int):=zo;obtain⟨f,hf⟩:∃f,r.funcs[i]?=some f:=⟨r.funcs[i]'(by rw[eA.o];exact hi),List.getElem?_eq_getElem _⟩
  have hmem:=List.mem_of_getElem? hf;have zA:=aA.o.up (O2.o _ G1.o);obtain⟨b,o,pa,pc,da,dc,rfl,xA⟩:=zA.get hf;obtain⟨_,vA,T4,hsz⟩:=HZ.o.fn f hmem;have c0:=xA.c0;have c1:=xA.c1;have c2:=xA.c2;have c3:=xA.c3;have c4:=xA.c4;have c5:=xA.c5;have c6:=xA.c6;have wk:=zI i;have I0:yr wl (wl.alloc (.cells (zZ f.name pa f.params.length pc f.result f.body.kind f.body.num f.body.name da f.body.kids.length dc) 41)):=zO.alloc (Nat.le_refl _) _;have R0:yr w1 (wl.alloc (.cells (zZ f.name pa f.params.length pc f.result f.body.kind f.body.num f.body.name da f.body.kids.length dc) 41)):=Jd G1.o I0;have ci:=Jfc r.funcs f.body _ (.slice (some ⟨b,o,none⟩) fl fc) f.params.length 40 (wl.alloc (.cells (zZ f.name pa f.params.length pc f.result f.body.kind f.body.num f.body.name da f.body.kids.length dc) 41)) T4 zo zp (xA.body.up I0) (zA.up I0);obtain⟨x,hx⟩:=yt (trF r f)
  have uA:QaK (r.funcs.map (·.params.length)) f.params.length 40 f.body=x:=hx;rw[uA]at ci;rw[show ((40:Nat):Int)=40 from rfl]at ci;have HX:=Zh hx;have HY:=Zh hf;have N2:=Zh R0;have HG:=Zh hg;have A5:=Zh hi;obtain⟨b0,b1,b2⟩:=FF.o _ R0;clear I0 R0 hmem xA G1 hx uA hf hi hg zA T4 hsz vA;go_wp2_with fail;refine ci.mono ?_;rintro e w7 ⟨rfl,r8⟩;have T7:=Zh (Jd N2.o r8);clear ci r8 b0 b1 b2 c0 c1 c2 c3 c4 c5 c6 N2
  cases x with
  |true=>
   have P8:Hi ((r.funcs.take (i+1)).all (trF r)=true):=Vc M4.o HY.o HX.o;clear M4;go_wp2;go_roundg (fl-(i+1))
   case measure=>have:=HG.o;have:=A5.o;omega
   case rel=>exact⟨i+1,by have:=A5.o;omega,by go_num,T7,P8⟩
  |false=>
   have A3:q=false:=by rw[<-HQ.o,Vk HY.o HX.o];rfl
   exact zA2
 have hil:¬(i:Int)<(fl:Int):=zo;obtain rfl:i=fl:=zo;have yA:=M4.o;rw[<-eA.o,List.take_length]at yA;have H9:Hi (r.clauses.all (trC r)=q):=by rw[Hi,<-HQ.o,yA];rfl
 obtain⟨b0,b1,b2⟩:=FF.o _ G1.o;have U2:=Zh G1.o;clear M4 yA hg hi HQ G1;go_wp2_with fail;clear b0 b1 b2 hil;go_loopg [27] cl λg v27 wr=>∃j:Nat,g+j=cl/\v27=Iv j/\Hi (yr w1 wr)/\Hi ((r.clauses.take j).all (trC r)=true)
 case atStart=>exact⟨0,rfl,rfl,U2,rfl⟩
 case round=>
 clear U2;obtain⟨wm,rfl⟩:=zJ wr;obtain⟨j,hg,rfl,G1,M4⟩:=hrel
 by_cases hj:j<cl
 ·have jA:(j:Int)<(cl:Int):=zo;obtain⟨m,hm⟩:∃m,r.clauses[j]?=some m:=⟨r.clauses[j]'(by rw[hA.o];exact hj),List.getElem?_eq_getElem _⟩
  have hmem:=List.mem_of_getElem? hm;have zA:=aA.o.up (O2.o _ G1.o);have gA:=cA.o.up (O2.o _ G1.o);obtain⟨b,o,da,dc,rfl,xA⟩:=gA.get hm;obtain⟨T4,hsz,kA⟩:=HZ.o.cl m hmem;have c0:=xA.c0;have c1:=xA.c1;have c2:=xA.c2;have c3:=xA.c3;have c4:=xA.c4;have c5:=xA.c5;have wk:=zI j;have I0:yr wm (wm.alloc (.cells (yg m.cond.kind m.cond.num m.cond.name da m.cond.kids.length dc m.action m.reason) 39)):=zO.alloc (Nat.le_refl _) _;have R0:yr w1 (wm.alloc (.cells (yg m.cond.kind m.cond.num m.cond.name da m.cond.kids.length dc m.action m.reason) 39)):=Jd G1.o I0;have ci:=Jfc r.funcs m.cond _ (.slice fa i fc) 0 40 (wm.alloc (.cells (yg m.cond.kind m.cond.num m.cond.name da m.cond.kids.length dc m.action m.reason) 39)) T4 zo zp (xA.cond.up I0) (zA.up I0);obtain⟨x,hx⟩:=yt (trC r m)
  have uA:QaK (r.funcs.map (·.params.length)) 0 40 m.cond=x:=hx;rw[uA]at ci;rw[show ((40:Nat):Int)=40 from rfl,show ((0:Nat):Int)=0 from rfl]at ci;have HX:=Zh hx;have HY:=Zh hm;have N2:=Zh R0;have HG:=Zh hg;have A5:=Zh hj;obtain⟨b0,b1,b2⟩:=FF.o _ R0;clear I0 R0 hmem xA G1 hx uA hm hj hg zA gA T4 hsz kA;go_wp2_with fail;refine ci.mono ?_;rintro e w7 ⟨rfl,r8⟩;have T7:=Zh (Jd N2.o r8);clear ci r8 b0 b1 b2 c0 c1 c2 c3 c4 c5 N2
  cases x with
  |true=>
   have P8:Hi ((r.clauses.take (j+1)).all (trC r)=true):=Vc M4.o HY.o HX.o;clear M4;go_wp2;go_roundg (cl-(j+1))
   case measure=>have:=HG.o;have:=A5.o;omega
   case rel=>exact⟨j+1,by have:=A5.o;omega,by go_num,T7,P8⟩
  |false=>
   have A3:q=false:=by rw[<-H9.o,Vk HY.o HX.o]
   exact zA2
 have jA:¬(j:Int)<(cl:Int):=zo;obtain rfl:j=cl:=zo;have yA:=M4.o;rw[<-hA.o,List.take_length]at yA;have iA:q=true:=by rw[<-H9.o,yA]
 subst iA;have U2:=Zh (O2.o _ G1.o);clear M4 yA hg hj H9 G1;go_wp2;go_ret;exact⟨rfl,U2.o⟩
def IntsX.away{l:List Int}(h:QbR w (In w) l v)(hb:Bel w W)(hr:w.heap.size<=rb):Qbo W rb v l:=by
 obtain⟨ad,cc,rfl,h2,h3⟩:=h
 rcases h3 with h5|⟨b,o,h4,h5,h6⟩
 ·subst h5;exact .inl ⟨rfl,ad,cc,rfl⟩
 ·subst h4;have hlt:b<w.heap.size:=h5;have hs:w.heap.size<=W.heap.size:=hb.size;exact .inr ⟨b,o,cc,rfl,h2,by omega,by omega,λi n hi=>(hb.cell (p:=⟨b,o+i,none⟩) hlt).trans (h6 i n hi)⟩
def QiT(f:FnM):QaN:=⟨f.params,f.result⟩
def Jeb(h:Qcy w v fs)(hb:Bel w W)(hr:w.heap.size<=rb):Qdh W rb v (fs.map QiT):=by
 obtain⟨ad,cc,rfl,_⟩:=h.form;refine⟨ad,cc,by rw[List.length_map],λhne=>?_⟩
 have xA:0<fs.length:=by
  cases fs with
  |nil=>exact absurd rfl hne
  |cons a l=>simp
 obtain⟨g,o,pa,pc,da,dc,yA,uA⟩:=h.get (i:=0) (List.getElem?_eq_getElem xA);refine⟨g,o,yA,by have:=uA.blt;omega,λi s hs=>?_⟩;rw[List.getElem?_map]at hs;obtain⟨f,hf,rfl⟩:=Option.map_eq_some_iff.1 hs;obtain⟨g',o',vA,aA,zA,bA,X3,hc⟩:=h.get hf;rw[yA]at X3;injection X3 with X3;injection X3 with e1 e2 e3;subst e1 e2;refine⟨bs f.name,.slice vA f.params.length aA,f.body.kind,f.body.num,bs f.body.name,zA,f.body.kids.length,bA,IntsX.away hc.nums hb hr,λj u hj=>?_⟩;have hlt:=hc.blt;have hk:∀j u,w.cell? ⟨g,o+i*7+j,none⟩=some u->W.cell? ⟨g,o+i*7+j,none⟩=some u:=λj u hu=>(hb.cell (p:=⟨g,o+i*7+j,none⟩) hlt).trans hu
 match j,hj with
 |0,hj=>obtain rfl:=Option.some.inj hj;exact hk 0 _ hc.c0
 |1,hj=>obtain rfl:=Option.some.inj hj;exact hk 1 _ hc.c1
 |2,hj=>obtain rfl:=Option.some.inj hj;exact hk 2 _ hc.c2
 |3,hj=>obtain rfl:=Option.some.inj hj;exact hk 3 _ hc.c3
 |4,hj=>obtain rfl:=Option.some.inj hj;exact hk 4 _ hc.c4
 |5,hj=>obtain rfl:=Option.some.inj hj;exact hk 5 _ hc.c5
 |6,hj=>obtain rfl:=Option.some.inj hj;exact hk 6 _ hc.c6
 |j+7,hj=>cases hj
def tyF(r:Qah)(f:FnM):List Int:=QbF r.sigs f.params f.result (utN f.body)
def tyC(r:Qah)(c:ClM):List Int:=QbF r.sigs [] 1 (utN c.cond)
def QdX(r:Qah)(i:Nat):List Int:=((r.funcs.take i).map (tyF r)).flatten
def QeK(r:Qah)(i:Nat):List Int:=((r.clauses.take i).map (tyC r)).flatten
def JhU(h:r.funcs[i]?=some f):QdX r (i+1)=QdX r i++tyF r f:=by unfold QdX;rw[J1 h];simp
def JhV{f:ClM}(h:r.clauses[i]?=some f):QeK r (i+1)=QeK r i++tyC r f:=by unfold QeK;rw[J1 h];simp
def Jec(x:Option Int)(l:List Int):(QaG x l).isSome=(x.isSome||!l.isEmpty):=by
 induction l generalizing x with
 |nil=>simp[QaG]
 |cons a l ih=>
  have:QaG x (a::l)=QaG (addF x a) l:=rfl;rw[this,ih];simp[addF]
def Jkk(r:Qah):Qbz r=!(QaG none (QdX r r.funcs.length++QeK r r.clauses.length)).isSome:=by
 rw[Jec];unfold QdX QeK Qbz;rw[List.take_length,List.take_length];simp only[Option.isSome_none,Bool.false_or,Bool.not_not];have e1:∀f,QcT r.sigs f.params f.result (utN f.body)=tyF r f:=λ_=>rfl
 have e2:∀c,QcT r.sigs [] 1 (utN c.cond)=tyC r c:=λ_=>rfl
 simp only[e1,e2];rw[Bool.eq_iff_iff];simp[List.all_eq_true,List.flatten_eq_nil_iff]
def Qfb{W':World}(hb:Bel w W)(hr:w.heap.size<=rb)(hc:Chg [rb] W W'):Bel w W':=
 Kr hb hc.os hc.tape hc.output hc.size λk hk=>hc.block k (Nat.lt_of_lt_of_le hk hb.size) zr
def JhW(r:Qah)(c:Array Value)(w:World)(hx:QaV w (In w) r c)(hz:RSz r)(ht:Qbq r=true):Calls prog 28 #[.agg c] w (Qbj w (.bool (Qbz r))):=by
 obtain⟨fa,fc,ca,cc,rfl,hF,hC⟩:=hx.parts;have hq:Qbz r=!(QaG none (QdX r r.funcs.length++QeK r r.clauses.length)).isSome:=Jkk r;rw[hq]
 have uB:∀f∈r.funcs,QdK r.sigs.length f.params.length (utN f.body)/\WfN (utN f.body):=by
  intro f hf;unfold Qbq at ht;simp only[Bool.and_eq_true,List.all_eq_true]at ht;have:=Yz f.body _ _ (ht.1 f hf);rw[show r.pa.length=r.sigs.length by simp[Qah.pa,Qah.sigs]]at this;exact this
 have vB:∀c∈r.clauses,QdK r.sigs.length 0 (utN c.cond)/\WfN (utN c.cond):=by
  intro c hc;unfold Qbq at ht;simp only[Bool.and_eq_true,List.all_eq_true]at ht;have:=Yz c.cond _ _ (ht.2 c hc);rw[show r.pa.length=r.sigs.length by simp[Qah.pa,Qah.sigs]]at this;exact this
 have hB:∀s∈r.sigs,s.params.length<=1000000000:=by
  intro s hs;unfold Qah.sigs at hs;obtain⟨f,hf,rfl⟩:=List.mem_map.1 hs;have:=(hz.fn f hf).2.1
  show f.params.length<=_
  omega
 have cB:yr w (w.alloc (.cells (zY fa r.funcs.length fc ca r.clauses.length cc r.action) 25)):=zO.alloc zP _;have xB:yr w ((w.alloc (.cells (zY fa r.funcs.length fc ca r.clauses.length cc r.action) 25)).alloc (.cells (yo false 0 fa r.funcs.length fc) 123)):=cB.alloc zq _;have A0:Hi (((w.alloc (.cells (zY fa r.funcs.length fc ca r.clauses.length cc r.action) 25)).alloc (.cells (yo false 0 fa r.funcs.length fc) 123)).heap[w.heap.size]?=some (.cells (zY fa r.funcs.length fc ca r.clauses.length cc r.action) 25 (0,0))):=Jf (zQ w _)
 have mA:QaW ((w.alloc (.cells (zY fa r.funcs.length fc ca r.clauses.length cc r.action) 25)).alloc (.cells (yo false 0 fa r.funcs.length fc) 123)) (w.heap.size+1) 123 none (.slice fa r.funcs.length fc):=by
  have e1:=zQ (w.alloc (.cells (zY fa r.funcs.length fc ca r.clauses.length cc r.action) 25)) (.cells (yo false 0 fa r.funcs.length fc) 123);simp only[World.size_alloc]at e1;exact e1
 have O2:Hi (∀W,Chg [w.heap.size+1] ((w.alloc (.cells (zY fa r.funcs.length fc ca r.clauses.length cc r.action) 25)).alloc (.cells (yo false 0 fa r.funcs.length fc) 123)) W->Bel w W):=λW hW=>Qfb (rb:=w.heap.size+1) xB zo hW
 have aB:Hi (∀W,Chg [w.heap.size+1] ((w.alloc (.cells (zY fa r.funcs.length fc ca r.clauses.length cc r.action) 25)).alloc (.cells (yo false 0 fa r.funcs.length fc) 123)) W->Qdh W (w.heap.size+1) (.slice fa r.funcs.length fc) r.sigs):=λW hW=>Jeb hF (Qfb (rb:=w.heap.size+1) xB zo hW) zo
 have nB:Hi (∀W l v,Bel w W->QbR w (In w) l v->Qbo W (w.heap.size+1) v l):=λW l v hb hn=>IntsX.away hn hb zo
 have dB:Hi (QaW ((w.alloc (.cells (zY fa r.funcs.length fc ca r.clauses.length cc r.action) 25)).alloc (.cells (yo false 0 fa r.funcs.length fc) 123)) (w.heap.size+1) 123 (QaG none (QdX r 0)) (.slice fa r.funcs.length fc)):=mA;have bB:=Zh hF;have jB:=Zh hC;have HZ:=Zh hz;have rB:=Zh uB;have qB:=Zh vB;have L4:=Zh hB;have aC:=hz.nf;have uC:=hz.nc;have yC:Hi (w.heap.size≠w.heap.size+1/\w.heap.size+1<((w.alloc (.cells (zY fa r.funcs.length fc ca r.clauses.length cc r.action) 25)).alloc (.cells (yo false 0 fa r.funcs.length fc) 123)).heap.size):=⟨by omega,by simp⟩
 clear cB xB hx hF hC hz hq mA ht uB vB hB;go_enter func28,ntmps28;go_upto_region 1 with fail;have b0:(w.alloc (.cells (zY fa r.funcs.length fc ca r.clauses.length cc r.action) 25)).cell? ⟨w.heap.size,0,none⟩=some (.slice fa r.funcs.length fc):=by rw[Ja (zQ w (.cells (zY fa r.funcs.length fc ca r.clauses.length cc r.action) 25))];rfl
 go_upto_region 2 with fail;clear b0
 (try simp only[World.size_alloc])
 generalize World.alloc (World.alloc w _) _=w2 at*;generalize w.heap.size+1=rb at*;generalize w.heap.size=eb at*
 have FF:Hi (∀W,Chg [rb] w2 W->yY W eb (.slice fa r.funcs.length fc) (.slice ca r.clauses.length cc) (Iv r.action)):=by
  intro W hW;have hh:=hW.heap_some (by simp;exact yC.o.1) A0.o;exact zAz
 obtain⟨b0,b1,b2⟩:=FF.o _ (Chg.refl _ _);go_wp2_with fail;clear b0 b1 b2;go_loopg [15] r.funcs.length λg v15 wr=>∃i:Nat,g+i=r.funcs.length/\v15=Iv i/\Hi (Chg [rb] w2 wr)/\Hi (QaW wr rb 123 (QaG none (QdX r i)) (.slice fa r.funcs.length fc))
 case atStart=>exact⟨0,rfl,rfl,Chg.refl _ _,dB⟩
 case round=>
 clear dB;obtain⟨wl,rfl⟩:=zJ wr;obtain⟨i,hg,rfl,G1,M4⟩:=hrel
 by_cases hi:i<r.funcs.length
 ·have hil:(i:Int)<(r.funcs.length:Int):=zo;obtain⟨f,hf⟩:∃f,r.funcs[i]?=some f:=⟨r.funcs[i],List.getElem?_eq_getElem hi⟩
  have hmem:=List.mem_of_getElem? hf;have eB:=bB.o.up (O2.o _ G1.o);obtain⟨b,o,pa,pc,da,dc,pA,xA⟩:=eB.get hf
  have aA:QbR w (In w) f.params (.slice pa f.params.length pc):=by
   obtain⟨b9,o9,vC,bC,dC,zC,jA,bA⟩:=bB.o.get hf;rw[pA]at jA;injection jA with e9;injection e9 with e1 e2;subst e1 e2;have hlt:b<w.heap.size:=bA.blt;have h1:=xA.c1;have h2:wl.cell? _=_:=((O2.o _ G1.o).cell (p:=⟨b,o+i*7+1,none⟩) hlt).trans bA.c1;rw[h1]at h2;injection h2 with h2;rw[h2];exact bA.nums
  obtain⟨_,hA,T4,hsz⟩:=HZ.o.fn f hmem;have c0:=xA.c0;have c1:=xA.c1;have c2:=xA.c2;have c3:=xA.c3;have c4:=xA.c4;have c5:=xA.c5;have c6:=xA.c6;have wk:=zI i;have I0:yr wl (wl.alloc (.cells (zZ f.name pa f.params.length pc f.result f.body.kind f.body.num f.body.name da f.body.kids.length dc) 41)):=zO.alloc zP _;have R0:Chg [rb] w2 (wl.alloc (.cells (zZ f.name pa f.params.length pc f.result f.body.kind f.body.num f.body.name da f.body.kids.length dc) 41)):=G1.o.trans (Chg.of_below I0 [rb]);have T2:=Zh (zQ wl (.cells (zZ f.name pa f.params.length pc f.result f.body.kind f.body.num f.body.name da f.body.kids.length dc) 41));have xC:Hi (∀W,Bel (wl.alloc (.cells (zZ f.name pa f.params.length pc f.result f.body.kind f.body.num f.body.name da f.body.kids.length dc) 41)) W->XAt W (In W) f.body (zg f.body.kind f.body.num f.body.name da f.body.kids.length dc)):=λW hW=>(xA.body.up I0).up hW
  have P8:Hi (QaW (wl.alloc (.cells (zZ f.name pa f.params.length pc f.result f.body.kind f.body.num f.body.name da f.body.kids.length dc) 41)) rb 123 (QaG none (QdX r i)) (.slice fa r.funcs.length fc)):=(I0.block _ (Jb M4.o)).trans M4.o;obtain⟨gA,hwf⟩:=rB.o f hmem;have tA:=Zh gA;have sA:=Zh hwf;have HS:Hi (siz (utN f.body)<=1000000/\f.params.length<=1000000):=⟨hsz,hA⟩
  have sB:=Zh aA;have HY:=Zh (JhU hf);have Y6:=Zh R0;have HG:=Zh hg;have A5:=Zh hi;have mB:Hi (rb<wl.heap.size):=Jb M4.o;have tB:=Zh pA;subst pA;clear I0 R0 hmem xA G1 hf hi hg eB T4 hsz hA M4 gA hwf aA tB;go_upto_region 5 with fail;clear c0 c1 c2 c3 c4 c5 c6;generalize World.alloc wl _=w3 at*;generalize C3:wl.heap.size=cb at*
  have F3:Hi (∀W,Chg [rb] w3 W->W.cell? ⟨cb,1,none⟩=some (.slice pa f.params.length pc)/\W.cell? ⟨cb,2,none⟩=some (Iv f.result)/\W.cell? ⟨cb,3,none⟩=some (Iv f.body.kind)/\W.cell? ⟨cb,4,none⟩=some (Iv f.body.num)/\W.cell? ⟨cb,5,none⟩=some (Sv f.body.name)/\W.cell? ⟨cb,6,none⟩=some (.slice da f.body.kids.length dc)):=by
   intro W hW;have hh:=hW.heap_some (by simp;have:=mB.o;omega) T2.o;refine⟨?_,?_,?_,?_,?_,?_⟩<;>(rw[Ja hh];rfl)
  clear C3;have rA:Chg [rb] w3 w3.drew:=Chg.of_below (Below.refl w3.heap.size w3).drew [rb];refine wp_region_held_drew (S:=(λW=>Chg [rb] w3 W/\W.cell? ⟨cb,1,none⟩=some (.slice pa f.params.length pc)/\W.cell? ⟨cb,2,none⟩=some (Iv f.result)/\W.cell? ⟨cb,3,none⟩=some (Iv f.body.kind)/\W.cell? ⟨cb,4,none⟩=some (Iv f.body.num)/\W.cell? ⟨cb,5,none⟩=some (Sv f.body.name)/\W.cell? ⟨cb,6,none⟩=some (.slice da f.body.kids.length dc))) zk (⟨rA,F3.o _ rA⟩) λhH=>?_;refine zK 0 ?_
  refine zK 1 ?_;refine zK 2 ?_;refine zK 4 ?_;refine zK 5 ?_;refine zK 6 ?_;refine zK 7 ?_;try simp only[zX]
  refine ZS 3 rfl λK hK=>?_;have cu:=YV (siz (utN f.body)) (zu HS.o.1) f.body _ w3.drew zP (xC.o _ (Below.refl w3.heap.size w3).drew)
  (go_simp;go_at_call 58;refine cu.mono ?_;rintro e w6 ⟨yb,rfl,zA,yA,vA,M2⟩)
  clear cu;have O1:Chg [rb] w3 w6:=rA.trans (Chg.of_below M2 [rb]);have nA:yr w3 w6:=Jd (Below.refl w3.heap.size w3).drew M2;have uA:QaW w6 rb 123 (QaG none (QdX r i)) (.slice (some ⟨b,o,none⟩) r.funcs.length fc):=(nA.block _ (Jb P8.o)).trans P8.o;have cA:=Jb P8.o;have eA:=Zh O1;have cn:=JH r.sigs rb (.slice (some ⟨b,o,none⟩) r.funcs.length fc) yb f.params (.slice pa f.params.length pc) (QaG none (QdX r i)) f.result w6 ⟨yA,λhm=>by have:=(vA _ hm).1;have h9:w3.heap.size<=w3.drew.heap.size:=le_refl _;omega,uA,aB.o _ (Y6.o.trans O1),nB.o _ _ _ (O2.o _ (Y6.o.trans O1)) sB.o,by rw[zA];exact tA.o,by rw[zA];exact sA.o⟩ (λW hp=>JcC _ rb _ L4.o (siz yb.nd) yb f.params (.slice pa f.params.length pc) _ W zP (by have:=HS.o;rw[zA];omega) hp);rw[zA]at cn;have yB:QbF r.sigs f.params f.result (utN f.body)=tyF r f:=rfl;rw[yB]at cn;obtain⟨ya,yn,yc,kA⟩:=Jg yb;rw[kA]at cn |-;clear zA yA vA M2 nA uA cA kA;refine zU hK (⟨eA.o,F3.o _ eA.o⟩) λhH=>?_;clear hK K
  try simp only[zX]
  refine ZS 8 rfl λK hK=>?_
  (go_simp;go_at_call 57;refine cn.mono ?_;rintro e w8 ⟨rfl,iA,dA⟩)
  clear cn;refine zU hK (⟨eA.o.trans dA,F3.o _ (eA.o.trans dA)⟩) λhH=>?_;clear hK K
  try simp only[zX]
  refine wpAnyH_done zk ?_ _;have zB:Hi (Chg [rb] w2 w8):=Y6.o.trans (eA.o.trans dA);have qA:Hi (QaW w8 rb 123 (QaG none (QdX r (i+1))) (.slice (some ⟨b,o,none⟩) r.funcs.length fc)):=by rw[Hi,HY.o,Jw];exact iA
  clear hH iA dA Y6 P8;go_wp2;go_roundg (r.funcs.length-(i+1))
  case measure=>have:=HG.o;have:=A5.o;omega
  case rel=>exact⟨i+1,by have:=A5.o;omega,by go_num,zB,qA⟩
 have hil:¬(i:Int)<(r.funcs.length:Int):=zo;obtain rfl:i=r.funcs.length:=zo;obtain⟨b0,b1,b2⟩:=FF.o _ G1.o;have U2:=Zh G1.o;have P8:Hi (QaW wl rb 123 (QaG none (QdX r r.funcs.length++QeK r 0)) (.slice fa r.funcs.length fc)):=by rw[Hi,show QeK r 0=[] from rfl,List.append_nil];exact M4.o
 clear M4 hg hi G1;go_wp2_with fail;clear b0 b1 b2 hil;go_loopg [32] r.clauses.length λg v32 wr=>∃j:Nat,g+j=r.clauses.length/\v32=Iv j/\Hi (Chg [rb] w2 wr)/\Hi (QaW wr rb 123 (QaG none (QdX r r.funcs.length++QeK r j)) (.slice fa r.funcs.length fc))
 case atStart=>exact⟨0,rfl,rfl,U2,P8⟩
 case round=>
 clear U2 P8;obtain⟨wm,rfl⟩:=zJ wr;obtain⟨j,hg,rfl,G1,M4⟩:=hrel
 by_cases hj:j<r.clauses.length
 ·have kB:(j:Int)<(r.clauses.length:Int):=zo;obtain⟨m,hm⟩:∃m,r.clauses[j]?=some m:=⟨r.clauses[j],List.getElem?_eq_getElem hj⟩
  have hmem:=List.mem_of_getElem? hm;have gB:=jB.o.up (O2.o _ G1.o);obtain⟨b,o,da,dc,iB,xA⟩:=gB.get hm;obtain⟨T4,hsz,pB⟩:=HZ.o.cl m hmem;have c0:=xA.c0;have c1:=xA.c1;have c2:=xA.c2;have c3:=xA.c3;have c4:=xA.c4;have c5:=xA.c5;have wk:=zI j;have I0:yr wm (wm.alloc (.cells (yg m.cond.kind m.cond.num m.cond.name da m.cond.kids.length dc m.action m.reason) 39)):=zO.alloc zP _;have R0:Chg [rb] w2 (wm.alloc (.cells (yg m.cond.kind m.cond.num m.cond.name da m.cond.kids.length dc m.action m.reason) 39)):=G1.o.trans (Chg.of_below I0 [rb]);have cu:=YV (siz (utN m.cond)) zo m.cond _ (wm.alloc (.cells (yg m.cond.kind m.cond.num m.cond.name da m.cond.kids.length dc m.action m.reason) 39)) zP (xA.cond.up I0);have P8:Hi (QaW (wm.alloc (.cells (yg m.cond.kind m.cond.num m.cond.name da m.cond.kids.length dc m.action m.reason) 39)) rb 123 (QaG none (QdX r r.funcs.length++QeK r j)) (.slice fa r.funcs.length fc)):=(I0.block _ (Jb M4.o)).trans M4.o;obtain⟨gA,hwf⟩:=qB.o m hmem;have tA:=Zh gA;have sA:=Zh hwf;have HS:=Zh hsz;have HY:=Zh (JhV hm);have Y6:=Zh R0;have HG:=Zh hg;have A5:=Zh hj;subst iB;clear I0 R0 hmem xA G1 hm hj hg gB T4 hsz pB M4 gA hwf;go_wp2_with fail;clear c0 c1 c2 c3 c4 c5;generalize World.alloc wm _=w3 at*;refine cu.mono ?_;rintro e w6 ⟨yb,rfl,zA,yA,vA,M2⟩;clear cu;have G6:Hi (Chg [rb] w2 w6):=Y6.o.trans (Chg.of_below M2 [rb]);have uA:QaW w6 rb 123 (QaG none (QdX r r.funcs.length++QeK r j)) (.slice fa r.funcs.length fc):=(M2.block _ (Jb P8.o)).trans P8.o;have cA:=Jb P8.o;have cn:=JH r.sigs rb (.slice fa r.funcs.length fc) yb [] Nl (QaG none (QdX r r.funcs.length++QeK r j)) 1 w6 ⟨yA,λhm=>by have:=(vA _ hm).1;omega,uA,aB.o _ G6.o,.inl ⟨rfl,none,0,rfl⟩,by rw[zA];exact tA.o,by rw[zA];exact sA.o⟩ (λW hp=>JcC _ rb _ L4.o (siz yb.nd) yb [] Nl _ W zP (by have:=HS.o;have:([]:List Int).length=0:=rfl;rw[zA];omega) hp);rw[zA]at cn;have yB:QbF r.sigs [] 1 (utN m.cond)=tyC r m:=rfl;rw[yB]at cn;obtain⟨ya,yn,yc,kA⟩:=Jg yb;rw[kA]at cn |-;clear zA yA vA M2 uA cA P8 Y6 kA;go_wp2_with fail;refine cn.mono ?_;rintro e w8 ⟨rfl,iA,dA⟩;have zB:Hi (Chg [rb] w2 w8):=G6.o.trans dA;have qA:Hi (QaW w8 rb 123 (QaG none (QdX r r.funcs.length++QeK r (j+1))) (.slice fa r.funcs.length fc)):=by rw[Hi,HY.o,<-List.append_assoc,Jw];exact iA
  clear cn iA dA G6;go_wp2;go_roundg (r.clauses.length-(j+1))
  case measure=>have:=HG.o;have:=A5.o;omega
  case rel=>exact⟨j+1,by have:=A5.o;omega,by go_num,zB,qA⟩
 have kB:¬(j:Int)<(r.clauses.length:Int):=zo;obtain rfl:j=r.clauses.length:=zo;have U2:=Zh (O2.o _ G1.o);have hfl:=M4.o;unfold QaW at hfl;generalize QaG none (QdX r r.funcs.length++QeK r r.clauses.length)=x at*;have b0:=Ja hfl 0;simp only[zW]at b0;clear M4 hg hj G1 hfl
 cases x with
 |none=>
  go_wp2;go_ret;exact⟨rfl,U2.o⟩
 |some z=>
  go_wp2;go_ret;exact⟨rfl,U2.o⟩
def QbJ(w:World)(b n:Nat)(S:List By):Prop:=
 ∃D:DataW Unit,w.ownsMap prog 9 (plainElem prog 4) b n D/\Go.Maps.IsMap D/\
  ∀s:By,s.length<=1000000->D.atKey (.string s) (.lit (.bool false))=.lit (.bool (decide (s∈S)))
def QfL(w:World):(zeroValue 4).run prog w=.ok (.bool false) w:=zk
def JbH{P:Program}{e:TypeId}(he:P.underlying e=some .bool){z:DataW Unit×List MemPlace}(h:plainElem P e v=some z):∃x,v=.bool x/\z=(.lit (.bool x),[]):=by
 unfold plainElem at h;rw[he]at h
 cases v<;>simp at h
 exact⟨_,rfl,h.symm⟩
variable{S:List By}{n:Nat}{s:By}
def QbJ.look(h:QbJ w b n S)(hs:s.length<=1000000):
  (Instr.lookup 70 (.map (some b)) (Sv s) false).run prog w=.ok (.bool (decide (s∈S))) w:=by
 obtain⟨D,ho,hm,hf⟩:=h;obtain⟨v,ps,hrun,hv⟩:=ho.lookup Qcu underlying70 (QfL w) (plainElem_bool underlying4 false) (Zm hs);rw[hrun];rw[hf s hs]at hv;obtain⟨c,rfl,hc⟩:=JbH underlying4 hv;simp only[Prod.mk.injEq,DataW.lit.injEq,Lit.bool.injEq]at hc;rw[<-hc.1]
def QbJ.upd(h:QbJ w b n S)(hn:n<maxLen)(hs:s.length<=1000000):
  ∃w',(Instr.mapUpdate 70 (.map (some b)) (Sv s) (.bool true)).run prog w=.ok () w'/\QbJ w' b (n+1) (S++[s])/\Chg [b] w w':=by
 obtain⟨D,ho,hm,hf⟩:=h;have hk:=Zm hs;obtain⟨w',hrun,yA,hg⟩:=ho.update Qcu underlying70 hn hk (plainElem_bool underlying4 true);refine⟨w',hrun,⟨_,yA,hm.put _ _,λx hx=>?_⟩,Chg.of_grownBy hg⟩
 by_cases e:x=s
 ·subst e;rw[Go.Maps.atKey_put_same hm (Qcu.key hk)];simp
 ·have xA:(Lit.string x)≠Lit.string s:=λh=>e (by injection h)
  rw[Go.Maps.atKey_put_other xA,hf x hx];simp[e]
def QbJ.new(w:World):QbJ (w.alloc (.map #[] 0)) w.heap.size 0 []:=
 ⟨.map [],World.ownsMap_made w _ _ _,Go.Maps.isMap_empty,λ_ _=>rfl⟩
def QbJ.lt(h:QbJ w b n S):b<w.heap.size:=h.choose_spec.1.lt
def QbJ.same{w':World}(h:QbJ w b n S)(hc:w'.heap[b]?=w.heap[b]?):QbJ w' b n S:=by
 obtain⟨D,⟨es,xA,hb,r⟩,q⟩:=h;exact⟨D,⟨es,xA,hc.trans hb,r⟩,q⟩
def JhX(h:Qbr s=true):s.length<=24:=by
 unfold Qbr at h;split at h
 ·cases h
 ·simp only[Bool.and_eq_true,decide_eq_true_eq]at h;exact h.1.1.1.1
def Jgc{l:List FnM}{nm:Bool}(h:QbU ((l.take i).map (·.name)) (l.drop i)=nm)(hi:l[i]?=some f):
  (Qbr f.name&&!decide (f.name∈(l.take i).map (·.name))&&QbY f.result&&f.params.all QbY&&QbU ((l.take (i+1)).map (·.name)) (l.drop (i+1)))=nm:=by
 obtain⟨hlt,he⟩:=List.getElem?_eq_some_iff.1 hi;rw[List.drop_eq_getElem_cons hlt,he,QbU]at h;rw[List.take_add_one,hi,List.map_append];exact h
def JaS{t:Int}(h0:¬t=0)(h1:¬t=1):QbY t=false:=by
 unfold QbY;rw[zM h0,zM h1];rfl
def clB(c:ClM):Bool:=QdR c.action&&QcD c.reason
def JnG(l:List ClM):QgH l=l.all clB:=rfl
def zAw{P:Prop}(h:P:=by
  go_wp2;go_ret;exact⟨rfl,C0.o⟩):P:=h
def zAy{P:Prop}(h:P:=by
  simp only[Bool.false_and]at h1;rw[<-HQ.o,<-h1];rfl):P:=h
def zA0{P:Prop}(h:P:=by
  go_wp2;go_round
  case rel=>exact⟨j+1,by go_num,fF,rA⟩
  case measure=>simp[intOf];omega):P:=h
def KR(r:Qah)(c:Array Value)(w:World)(hx:QaV w (In w) r c)(hz:RSz r):Calls prog 11 #[.agg c] w (Qbj w (.bool (Qat r))):=by
 obtain⟨fa,fc,ca,cc,rfl,hF,hC⟩:=hx.parts;obtain⟨nm,T4⟩:=yt (QbU [] r.funcs)
 obtain⟨q,hq⟩:=yt (Qat r)
 rw[hq];unfold Qat at hq;rw[T4]at hq;have HQ:=Zh hq;have uB:Hi (QbU ((r.funcs.take 0).map (·.name)) (r.funcs.drop 0)=nm):=T4;have zB:yr w (w.alloc (.cells (zY fa r.funcs.length fc ca r.clauses.length cc r.action) 25)):=zO.alloc (Nat.le_refl _) _;have yB:yr w ((w.alloc (.cells (zY fa r.funcs.length fc ca r.clauses.length cc r.action) 25)).alloc (.map #[] 0)):=zB.alloc zq _;have A0:Hi (((w.alloc (.cells (zY fa r.funcs.length fc ca r.clauses.length cc r.action) 25)).alloc (.map #[] 0)).heap[w.heap.size]?=some (.cells (zY fa r.funcs.length fc ca r.clauses.length cc r.action) 25 (0,0))):=Jf (zQ w _)
 have uA:QbJ ((w.alloc (.cells (zY fa r.funcs.length fc ca r.clauses.length cc r.action) 25)).alloc (.map #[] 0)) (w.heap.size+1) 0 ((r.funcs.take 0).map (·.name)):=by
  have e1:=QbJ.new (w.alloc (.cells (zY fa r.funcs.length fc ca r.clauses.length cc r.action) 25));simp only[World.size_alloc]at e1;exact e1
 have eA:=Zh uA;have O2:Hi (∀W,Chg [w.heap.size+1] ((w.alloc (.cells (zY fa r.funcs.length fc ca r.clauses.length cc r.action) 25)).alloc (.map #[] 0)) W->Bel w W):=λW hW=>Qfb (rb:=w.heap.size+1) yB zo hW
 have aB:=Zh hF;have gB:=Zh hC;have N6:=Zh hx;have HZ:=Zh hz;have eC:=hz.nf;have iC:=hz.nc;have sB:Hi (w.heap.size≠w.heap.size+1):=by unfold Hi;omega
 have qB:Hi (∀b,In w b->b≠w.heap.size+1):=by intro b hb e;unfold In at hb;omega
 clear zB yB hx hF hC hz hq T4 uA;have uC:=@run_makeMap prog;go_enter func11,ntmps11;go_upto_region 2 with fail;clear uC
 (try simp only[World.size_alloc])
 generalize World.alloc (World.alloc w _) _=w2 at*;generalize w.heap.size+1=mb at*;generalize w.heap.size=eb at*
 have FF:Hi (∀W,Chg [mb] w2 W->yY W eb (.slice fa r.funcs.length fc) (.slice ca r.clauses.length cc) (Iv r.action)):=by
  intro W hW;have hh:=hW.heap_some (by simp;exact sB.o) A0.o;exact zAz
 obtain⟨b0,b1,b2⟩:=FF.o _ (Chg.refl _ _);go_wp2_with fail;clear b0 b1 b2;go_loopg [14] r.funcs.length λg v14 wr=>∃i:Nat,g+i=r.funcs.length/\v14=Iv i/\Hi (Chg [mb] w2 wr)/\Hi (QbJ wr mb i ((r.funcs.take i).map (·.name)))/\Hi (QbU ((r.funcs.take i).map (·.name)) (r.funcs.drop i)=nm)
 case atStart=>exact⟨0,rfl,rfl,Chg.refl _ _,eA,uB⟩
 case round=>
 clear eA uB;obtain⟨wl,rfl⟩:=zJ wr;obtain⟨i,hg,rfl,G1,uA,jA⟩:=hrel
 by_cases hi:i<r.funcs.length
 ·have hil:(i:Int)<(r.funcs.length:Int):=zo;obtain⟨f,hf⟩:∃f,r.funcs[i]?=some f:=⟨r.funcs[i],List.getElem?_eq_getElem hi⟩
  have hmem:=List.mem_of_getElem? hf;have bB:=aB.o.up (O2.o _ G1.o);obtain⟨b,o,pa,pc,da,dc,xB,xA⟩:=bB.get hf;have vA:=xA.nums
  have eB:Hi (∀{j:Nat}{t:Int},f.params[j]?=some t->∃b8 o8,pa=some ⟨b8,o8,none⟩/\b8≠mb):=by
   intro j t hj;obtain⟨b9,o9,bC,gC,jC,aC,iA,cA⟩:=aB.o.get hf;rw[xB]at iA;injection iA with e9;injection e9 with e1 e2;subst e1 e2;have hlt:b<w.heap.size:=cA.blt;have h1:=xA.c1;have h2:wl.cell? _=_:=((O2.o _ G1.o).cell (p:=⟨b,o+i*7+1,none⟩) hlt).trans cA.c1;rw[h1]at h2;injection h2 with h2;injection h2 with h5 h6 h7;subst h5 h7;obtain⟨b8,o8,g1,g2,_⟩:=cA.nums.get hj;exact⟨b8,o8,g1,λe=>qB.o b8 g2 e⟩
  obtain⟨hnl,qA,_,_⟩:=HZ.o.fn f hmem;have c0:=xA.c0;have c1:=xA.c1;have c2:=xA.c2;have c3:=xA.c3;have c4:=xA.c4;have c5:=xA.c5;have c6:=xA.c6;have wk:=zI i;have I0:yr wl (wl.alloc (.cells (zZ f.name pa f.params.length pc f.result f.body.kind f.body.num f.body.name da f.body.kids.length dc) 41)):=zO.alloc (Nat.le_refl _) _;have R0:Chg [mb] w2 (wl.alloc (.cells (zZ f.name pa f.params.length pc f.result f.body.kind f.body.num f.body.name da f.body.kids.length dc) 41)):=G1.o.trans (Chg.of_below I0 [mb]);have gA:QbJ (wl.alloc (.cells (zZ f.name pa f.params.length pc f.result f.body.kind f.body.num f.body.name da f.body.kids.length dc) 41)) mb i ((r.funcs.take i).map (·.name)):=uA.o.same (I0.block _ uA.o.lt);have T2:=Zh (zQ wl (.cells (zZ f.name pa f.params.length pc f.result f.body.kind f.body.num f.body.name da f.body.kids.length dc) 41));have nB:Hi (QbR (wl.alloc (.cells (zZ f.name pa f.params.length pc f.result f.body.kind f.body.num f.body.name da f.body.kids.length dc) 41)) (In (wl.alloc (.cells (zZ f.name pa f.params.length pc f.result f.body.kind f.body.num f.body.name da f.body.kids.length dc) 41))) f.params (.slice pa f.params.length pc)):=QbR.up vA I0;have yA:=Zh (Jgc jA.o hf);have eA:=Zh gA;have Y6:=Zh R0;have xC:=Zh hf
  have mB:Hi (∀b9 o9,pa=some ⟨b9,o9,none⟩->0<f.params.length->b9≠mb):=by
   intro b9 o9 h1 hp e;obtain⟨b8,o8,h2,h3⟩:=eB.o (List.getElem?_eq_getElem hp);rw[h1]at h2;injection h2 with h2;injection h2 with h4;exact h3 (h4.symm.trans e)
  have HG:=Zh hg;have A5:=Zh hi;have jB:Hi (wl.heap.size≠mb):=by have:=uA.o.lt;unfold Hi;omega
  subst xB;clear I0 R0 hmem xA G1 hg bB uA gA vA jA hf hi;go_upto_region 5 with fail;clear c0 c1 c2 c3 c4 c5 c6;generalize World.alloc wl _=w3 at*;generalize wl.heap.size=cb at*
  have F3:Hi (∀W,Chg [mb] w3 W->yY W cb (Sv f.name) (.slice pa f.params.length pc) (Iv f.result)):=by
   intro W hW;have hh:=hW.heap_some (by simp;exact jB.o) T2.o;exact zAz
  have C0:Hi (Bel w w3):=O2.o _ Y6.o;obtain⟨d0,d1,d2⟩:=F3.o _ (Chg.refl _ _);have ci:=JhO f.name w3 hnl;go_wp2_with fail;refine ci.mono ?_;rintro e w4 ⟨rfl,rfl⟩;clear ci
  cases WE:Qbr f.name with
  |false=>
   have A3:q=false:=by
    have h1:=yA.o;rw[WE]at h1;exact zAy
   subst A3;clear WE;exact zAw
  |true=>
  have iB:=JhX WE;have mA:=eA.o.look (s:=f.name) zo
  replace yA:Hi ((!decide (f.name∈(r.funcs.take i).map (·.name))&&QbY f.result&&f.params.all QbY&&QbU ((r.funcs.take (i+1)).map (·.name)) (r.funcs.drop (i+1)))=nm):=by
   have h1:=yA.o;rw[WE]at h1;simp only[Bool.true_and]at h1;exact h1
  have pB:Hi ((r.funcs.take (i+1)).map (·.name)=(r.funcs.take i).map (·.name)++[f.name] ):=by
   have zC:r.funcs[i]?=some f:=xC.o;rw[Hi,List.take_add_one,zC,List.map_append];rfl
  clear WE
  by_cases hin:f.name∈(r.funcs.take i).map (·.name)
  ·rw[zG hin]at mA
   have A3:q=false:=by
    have h1:=yA.o;rw[zG hin]at h1;simp only[Bool.not_true,Bool.false_and]at h1;rw[<-HQ.o,<-h1];rfl
   subst A3;clear hin;exact zAw
  rw[zH hin]at mA
  replace yA:Hi ((QbY f.result&&f.params.all QbY&&QbU ((r.funcs.take (i+1)).map (·.name)) (r.funcs.drop (i+1)))=nm):=by
   have h1:=yA.o;rw[zH hin]at h1;simp only[Bool.not_false,Bool.true_and]at h1;exact h1
  clear hin
  by_cases ht:f.result=0\/f.result=1
  ·replace yA:Hi ((f.params.all QbY&&QbU ((r.funcs.take (i+1)).map (·.name)) (r.funcs.drop (i+1)))=nm):=by
    have h1:=yA.o;have h2:QbY f.result=true:=by rcases ht with h|h<;>(rw[h];rfl)
    rw[h2]at h1;simp only[Bool.true_and]at h1;exact h1
   obtain⟨w5,vC,hA,S4⟩:=eA.o.upd (by unfold maxLen;omega) (s:=f.name) zo;have zA:Hi (Chg [mb] w2 w5):=Y6.o.trans S4;have hB:Hi (QbJ w5 mb (i+1) ((r.funcs.take (i+1)).map (·.name))):=by rw[Hi,pB.o];exact hA
   obtain⟨e0,e1,e2⟩:=F3.o _ S4;have tA:Hi (Bel w w5):=O2.o _ zA.o
   have kB:Hi (∀j t,f.params[j]?=some t->∃b o,pa=some ⟨b,o,none⟩/\w5.cell? ⟨b,o+j,none⟩=some (Iv t)):=by
    intro j t hj;obtain⟨b9,o9,h1,h2,h3⟩:=nB.o.get hj;exact⟨b9,o9,h1,S4.cell_some (p:=⟨b9,o9+j,none⟩) (by simp;exact mB.o b9 o9 h1 (Nat.lt_of_le_of_lt (Nat.zero_le _) (List.getElem?_eq_some_iff.1 hj).1)) h3⟩
   obtain⟨pl,nA⟩:=yt f.params.length
   have D3:=Zh nA;rw[nA]at d1 e1 qA;have wj:∀j:Nat,j<pl->IntKind.i64.wrap ((j:Int)+1)=(j:Int)+1:=λj hj=>IntWalk.i64_in _ zo
   have yC:=Zh wj;clear hA S4 eA wj nA
   rcases ht with ht|ht
   all_goals
    rw[ht]at d2 e2;clear ht;go_wp2_with fail;clear d0 d1 d2 e0 e1 e2 mA vC;go_loop [44] (λv=>∃j:Nat,v=Iv j/\j<=pl/\Hi ((f.params.take j).all QbY=true)) λv=>pl-(intOf v).toNat
    case atStart=>exact⟨0,rfl,Nat.zero_le _,rfl⟩
    case round=>
    obtain⟨j,rfl,hj,aA⟩:=hrel
    by_cases fF:j<pl
    ·have kA:(j:Int)<(pl:Int):=zo;have dC:=yC.o j fF;obtain⟨t,pA⟩:∃t,f.params[j]?=some t:=⟨f.params[j]'(by rw[D3.o];exact fF),List.getElem?_eq_getElem _⟩
     obtain⟨b9,o9,h1,h2⟩:=kB.o j t pA;have dA:=Zh pA;subst h1;clear pA
     by_cases t0:t=0
     ·have rA:=Zh (Vc aA.o dA.o (by rw[t0];rfl));subst t0;clear aA dA;exact zA0
     have n0:(t !=0)=true:=by rw[bne,zM t0];rfl
     by_cases t1:t=1
     ·have rA:=Zh (Vc aA.o dA.o (by rw[t1];rfl));subst t1;clear aA dA t0;exact zA0
     have n1:(t !=1)=true:=by rw[bne,zM t1];rfl
     have A3:q=false:=by
      have h1:=yA.o;rw[Vk dA.o (JaS t0 t1)]at h1;exact zAy
     subst A3;clear aA dA t0 t1;go_wp2;go_ret;exact⟨rfl,tA.o⟩
    ·have kA:¬(j:Int)<(pl:Int):=zo;obtain rfl:j=pl:=zo
     replace yA:Hi (QbU ((r.funcs.take (i+1)).map (·.name)) (r.funcs.drop (i+1))=nm):=by
      have h1:=yA.o;have h2:=aA.o;rw[<-D3.o,List.take_length]at h2;rw[h2]at h1;simp only[Bool.true_and]at h1;exact h1
     clear aA fF hj;go_wp2;go_roundg (r.funcs.length-(i+1))
     case measure=>have:=HG.o;have:=A5.o;omega
     case rel=>exact⟨i+1,by have:=A5.o;omega,by go_num,zA,hB,yA⟩
  have R4:¬f.result=0:=λh=>ht (.inl h)
  have P4:¬f.result=1:=λh=>ht (.inr h)
  have n0:(f.result !=0)=true:=by rw[bne,zM R4];rfl
  have n1:(f.result !=1)=true:=by rw[bne,zM P4];rfl
  have A3:q=false:=by
   have h1:=yA.o;rw[JaS R4 P4]at h1;exact zAy
  subst A3;clear ht R4 P4;exact zAw
 have hil:¬(i:Int)<(r.funcs.length:Int):=zo;obtain rfl:i=r.funcs.length:=zo;have tB:nm=true:=by rw[<-jA.o,List.drop_length];rfl
 subst tB;obtain⟨b0,b1,b2⟩:=FF.o _ G1.o;have U2:=Zh G1.o;clear hg hi G1 uA jA;go_wp2_with fail;clear b0 b1 b2 hil;go_loopg [59] r.clauses.length λg v59 wr=>∃j:Nat,g+j=r.clauses.length/\v59=Iv j/\Hi (Chg [mb] w2 wr)/\Hi ((r.clauses.take j).all clB=true)
 case atStart=>exact⟨0,rfl,rfl,U2,rfl⟩
 case round=>
 clear U2;obtain⟨wm,rfl⟩:=zJ wr;obtain⟨j,hg,rfl,G1,M4⟩:=hrel
 by_cases hj:j<r.clauses.length
 ·have kA:(j:Int)<(r.clauses.length:Int):=zo;obtain⟨m,hm⟩:∃m,r.clauses[j]?=some m:=⟨r.clauses[j],List.getElem?_eq_getElem hj⟩
  have hmem:=List.mem_of_getElem? hm;have cB:=gB.o.up (O2.o _ G1.o);obtain⟨b,o,da,dc,dB,xA⟩:=cB.get hm;obtain⟨_,_,rB⟩:=HZ.o.cl m hmem;have c0:=xA.c0;have c1:=xA.c1;have c2:=xA.c2;have c3:=xA.c3;have c4:=xA.c4;have c5:=xA.c5;have wk:=zI j;have I0:yr wm (wm.alloc (.cells (yg m.cond.kind m.cond.num m.cond.name da m.cond.kids.length dc m.action m.reason) 39)):=zO.alloc (Nat.le_refl _) _;have Y6:=Zh (G1.o.trans (Chg.of_below I0 [mb]));have sA:=Zh hm;have HG:=Zh hg;have A5:=Zh hj;have ca:=Z8 m.action (wm.alloc (.cells (yg m.cond.kind m.cond.num m.cond.name da m.cond.kids.length dc m.action m.reason) 39));have ct:=JcG m.reason (wm.alloc (.cells (yg m.cond.kind m.cond.num m.cond.name da m.cond.kids.length dc m.action m.reason) 39)) rB;subst dB;clear I0 hmem xA G1 hm hj hg cB;go_wp2_with fail;clear c0 c1 c2 c3 c4 c5;refine ca.mono ?_;rintro e w4 ⟨rfl,rfl⟩;clear ca;have C0:=Zh (O2.o _ Y6.o)
  cases NA:QdR m.action with
  |false=>
   have A3:q=false:=by
    have h1:QgH r.clauses=false:=Vk (p:=clB) sA.o (by unfold clB;rw[NA];rfl);rw[<-HQ.o,h1];rfl
   subst A3;clear NA ct;exact zAw
  |true=>
  go_wp2_with fail;refine ct.mono ?_;rintro e w4 ⟨rfl,rfl⟩;clear ct
  cases GG:QcD m.reason with
  |false=>
   have A3:q=false:=by
    have h1:QgH r.clauses=false:=Vk (p:=clB) sA.o (by unfold clB;rw[GG,Bool.and_false]);rw[<-HQ.o,h1];rfl
   subst A3;clear NA GG;exact zAw
  |true=>
   have P8:Hi ((r.clauses.take (j+1)).all clB=true):=Vc M4.o sA.o (by unfold clB;rw[NA,GG];rfl);clear M4 NA GG C0;go_wp2;go_roundg (r.clauses.length-(j+1))
   case measure=>have:=HG.o;have:=A5.o;omega
   case rel=>exact⟨j+1,by have:=A5.o;omega,by go_num,Y6,P8⟩
 have kA:¬(j:Int)<(r.clauses.length:Int):=zo;obtain rfl:j=r.clauses.length:=zo;have bA:=M4.o;rw[List.take_length]at bA
 replace HQ:Hi ((QdR r.action&&Qbq r&&Qbz r)=q):=by
  have h1:=HQ.o;rw[JnG,bA]at h1;exact h1
 obtain⟨b0,b1,b2⟩:=FF.o _ G1.o;have U2:=Zh G1.o;have ca:=Z8 r.action wm;clear M4 bA hg hj G1;go_wp2_with fail;refine ca.mono ?_;rintro e w4 ⟨rfl,rfl⟩;clear ca
 cases NA:QdR r.action with
 |false=>
  have A3:q=false:=by rw[<-HQ.o,NA];rfl
  subst A3;have C0:=Zh (O2.o _ U2.o);clear NA;exact zAw
 |true=>
 have ct:=JhT r _ wm (N6.o.up (O2.o _ U2.o)) HZ.o;go_wp2_with fail;refine ct.mono ?_;rintro e w5 ⟨rfl,I3⟩;have zA:Hi (Chg [mb] w2 w5):=U2.o.trans (Chg.of_below I3 [mb]);clear ct I3 U2 b0 b1 b2
 cases htr:Qbq r with
 |false=>
  have A3:q=false:=by rw[<-HQ.o,NA,htr];rfl
  subst A3;have C0:=Zh (O2.o _ zA.o);clear NA htr;exact zAw
 |true=>
 obtain⟨b0,b1,b2⟩:=FF.o _ zA.o;have cy:=JhW r _ w5 (N6.o.up (O2.o _ zA.o)) HZ.o htr;go_wp2_with fail;refine cy.mono ?_;rintro e w6 ⟨rfl,M2⟩;have G6:Hi (Chg [mb] w2 w6):=zA.o.trans (Chg.of_below M2 [mb]);have C0:=Zh (O2.o _ G6.o);clear cy M2 zA b0 b1 b2;have vB:Qbz r=q:=by rw[<-HQ.o,NA,htr];rfl
 rw[vB];clear NA htr vB;exact zAw
open Go Go.ChangeShapes Go.WideShapes Go.ChangeAt Go.RowKit Go.Lib
def Qdy(w0:World)(m:Nat)(R:α->List Value->Prop)(l:List α)(ad:Option Addr):Prop:=l≠[]->∃b o,ad=some ⟨b,o,none⟩/\∀i e,l[i]?=some e->∃c,R e c/\∀W,Bel w0 W->∀j u,c[j]?=some u->W.cell? ⟨b,o+i*m+j,none⟩=some u
def Qdy.of{m:Nat}{R:α->List Value->Prop}(hR:∀a c,R a c->c.length=m){l:List α}(h:Qan w0 (In w0) R l v):∃ad cc,v=.slice ad l.length cc/\Qdy w0 m R l ad:=by
 obtain⟨ad,cc,rfl,_,hk⟩:=h.get hR;refine⟨ad,cc,rfl,λhne=>?_⟩;obtain⟨b,o,h1,h2,h3⟩:=hk hne;refine⟨b,o,h1,λi e hi=>?_⟩;obtain⟨c,g1,g2⟩:=h3 i e hi;exact⟨c,g1,λW hW j u hj=>(World.cell?_of_block (w:=w0) (hW.block b h2)).trans (g2 j u hj)⟩
def QcC(w0:World)(e:Exp)(c:List Value):Prop:=XAt w0 (In w0) e c.toArray
def Qdy.kids{k n:Int}(hx:XAt w0 (In w0) (.mk k n s l) c):∃ad cc,c=(zg k n s ad l.length cc)/\Qdy w0 4 (QcC w0) l ad:=by
 obtain⟨ad,cc,rfl,_,hk⟩:=hx.kid;refine⟨ad,cc,rfl,λhne=>?_⟩;obtain⟨b,o,h1,h2,h3⟩:=hk hne;refine⟨b,o,h1,λi e hi=>?_⟩;obtain⟨d,g1,g2⟩:=h3 i e hi;exact⟨d.toList,by unfold QcC;exact g1,λW hW j u hj=>(World.cell?_of_block (w:=w0) (hW.block b h2)).trans (g2 j u (by simpa using hj))⟩
def QcC.form{e:Exp}{c:List Value}(h:QcC w0 e c):∃xa xc,c=[Iv e.kind,Iv e.num,Sv e.name,.slice xa e.kids.length xc]:=by
 unfold QcC at h;obtain⟨xa,xc,h1,_⟩:=h.form;exact⟨xa,xc,by have h2:=congrArg Array.toList h1;simpa using h2⟩
def FnX.form{c:List Value}(h:FnX w0 (In w0) f c):∃pa pc xa xc,c=[Sv f.name,.slice pa f.params.length pc,Iv f.result,Iv f.body.kind,Iv f.body.num,Sv f.body.name,.slice xa f.body.kids.length xc]/\QbR w0 (In w0) f.params (.slice pa f.params.length pc)/\QcC w0 f.body [Iv f.body.kind,Iv f.body.num,Sv f.body.name,.slice xa f.body.kids.length xc]:=by
 obtain⟨v,d,hv,hd,rfl⟩:=h;have xA:=hv;obtain⟨pa,pc,rfl,_,_⟩:=hv;obtain⟨xa,xc,rfl,_⟩:=hd.form;exact⟨pa,pc,xa,xc,rfl,xA,hd⟩
def ClX.form{f:ClM}{c:List Value}(h:ClX w0 (In w0) f c):∃xa xc,c=[Iv f.cond.kind,Iv f.cond.num,Sv f.cond.name,.slice xa f.cond.kids.length xc,Iv f.action,Sv f.reason]/\QcC w0 f.cond [Iv f.cond.kind,Iv f.cond.num,Sv f.cond.name,.slice xa f.cond.kids.length xc]:=by
 obtain⟨d,hd,rfl⟩:=h;obtain⟨xa,xc,rfl,_⟩:=hd.form;exact⟨xa,xc,rfl,hd⟩
def Yc(w:World)(o0 o1:Obj):yr w ((w.alloc o0).alloc o1):=(zO.alloc zP _).alloc zq _
def Jaa(w:World)(o0 o1:Obj):((w.alloc o0).alloc o1).heap[w.heap.size]?=some o0/\((w.alloc o0).alloc o1).heap[w.heap.size+1]?=some o1:=by
 have h0:=zQ w o0;have h1:=zQ (w.alloc o0) o1;simp only[World.size_alloc]at h1;exact⟨Jf h0,h1⟩
def Qay{t:Nat}{a0 a1 a2:Value}{fr:Nat×Nat}(h:W.heap[b]?=some (.cells #[a0,a1,a2] t fr)):
  yY W b a0 a1 a2:=by
 refine⟨?_,?_,?_⟩<;>(rw[Ja h];rfl)
def BxB(T:TypeId)(w1:World)(eb:Nat)(cs:Array Value):Prop:=∀W,yr w1 W->W.heap[eb]?=some (.cells cs T (0,0))
def BxB.of{T:TypeId}{w1:World}{eb:Nat}{cs:Array Value}(h:w1.heap[eb]?=some (.cells cs T (0,0))):BxB T w1 eb cs:=λW hW=>(hW.block _ (Jb h)).trans h
def Qao{t:Nat}{a0 a1 a2 a3:Value}{fr:Nat×Nat}(h:W.heap[b]?=some (.cells #[a0,a1,a2,a3] t fr)):
  yX W b a0 a1 a2 a3:=by
 refine⟨?_,?_,?_,?_⟩<;>(rw[Ja h];rfl)
mutual
def szE(k:Nat):Exp->Nat
 |.mk _ _ _ l=>if 60<k\/300<l.length then 301 else szL k 1 l
termination_by e=>SizeOf.sizeOf e
def szL(k n:Nat):List Exp->Nat
 |[]=>n
 |x::l=>if n<=300 then szL k (n+szE (k+1) x) l else n
termination_by l=>SizeOf.sizeOf l
end
def Jfd(k:Nat)(a b:Int)(s:By)(l:List Exp):szE k (.mk a b s l)=if 60<k\/300<l.length then 301 else szL k 1 l:=by conv=>lhs;unfold szE
def Jab(k n:Nat):szL k n []=n:=by unfold szL;rfl
def VT(k n:Nat)(x:Exp)(l:List Exp):szL k n (x::l)=if n<=300 then szL k (n+szE (k+1) x) l else n:=by conv=>lhs;unfold szL
def Jkl{k n:Nat}(h:¬n<=300):∀l,szL k n l=n
 |[]=>Jab k n
 |x::l=>by rw[VT,if_neg h]
def Jlh{k B:Nat}(hB:∀x,szE (k+1) x<=B):∀(l:List Exp)(n:Nat),n<=300+B->szL k n l<=300+B
 |[],n,h=>by rw[Jab];exact h
 |x::l,n,h=>by
  rw[VT]
  by_cases e:n<=300
  ·rw[if_pos e];have:=hB x;exact Jlh hB l _ zo
  ·rw[if_neg e];exact h
def Jli:∀(d k:Nat)(x:Exp),61<=k+d->szE k x<=301+300*d
 |0,k,.mk a b s l,h=>by rw[Jfd,if_pos (Or.inl zo)];omega
 |d+1,k,.mk a b s l,h=>by
  rw[Jfd]
  by_cases e:60<k\/300<l.length
  ·rw[if_pos e];omega
  ·rw[if_neg e];have:=Jlh (k:=k) (B:=301+300*d) (λx=>Jli d (k+1) x zo) l 1 zo;omega
def JhY(k:Nat)(x:Exp):szE k x<=18601:=by
 have h:szE k x<=301+300*61:=Jli 61 k x zo;omega
def Jlj{k:Nat}:∀(l:List Exp)(n:Nat),n<=szL k n l
 |[],n=>by rw[Jab];exact le_refl _
 |x::l,n=>by
  rw[VT]
  by_cases e:n<=300
  ·rw[if_pos e];exact Nat.le_trans (Nat.le_add_right _ _) (Jlj l _)
  ·rw[if_neg e];exact le_refl _
mutual
def Jed:∀(x:Exp)(k:Nat),szE k x<=300->siz (utN x)=szE k x
 |.mk a b s l,k,h=>by
  rw[Jfd]at h |-
  by_cases e:60<k\/300<l.length
  ·rw[if_pos e]at h;omega
  ·rw[if_neg e]at h |-;rw[utN,JD,JhZ l k 1 h]
def JhZ:∀(l:List Exp)(k n:Nat),szL k n l<=300->Qbd (utL l)+n=szL k n l
 |[],k,n,h=>by rw[Jab,utL,JG];omega
 |x::l,k,n,h=>by
  by_cases e:n<=300
  ·rw[VT,if_pos e]at h |-;have h1:=Jlj (k:=k) l (n+szE (k+1) x);have h2:=Jed x (k+1) (by omega);have h3:=JhZ l k _ h;rw[utL,Ju,h2];omega
  ·rw[VT,if_neg e]at h;exact absurd h e
end
def Jee{α:Type}:∀{l:List α}{i:Nat}{x:α},l[i]?=some x->l.drop i=x::l.drop (i+1)
 |a::l,0,x,h=>by simp at h;simp[h]
 |a::l,i+1,x,h=>by
  have:=Jee (l:=l) (i:=i) (x:=x) (by simpa using h);simpa using this
 |[],i,x,h=>by simp at h
def YA{w0:World}:∀(x:Exp)(k:Nat)(d:List Value)(W:World),k<=61->QcC w0 x d->Bel w0 W->Calls prog 19 #[.agg d.toArray,Iv (k:Int)] W (Qbj W (Iv (szE k x:Nat)))
 |.mk kd nm s l,k,d,W,hk,h1,hb=>by
  obtain⟨a1,c1,e1,g1⟩:=Qdy.kids h1;rw[e1]
  have hel:∀x∈l,∀d W,k+1<=61->QcC w0 x d->Bel w0 W->Calls prog 19 #[.agg d.toArray,Iv ((k+1:Nat):Int)] W (Qbj W (Iv (szE (k+1) x:Nat))):=
   λx hx d W hk h1 hb=>YA x (k+1) d W hk h1 hb
  obtain⟨T,hT⟩:=yt (szE k (.mk kd nm s l))
  rw[hT];rw[Jfd]at hT;obtain⟨m,hm⟩:=yt l.length
  rw[hm]at hT;have HM:=Zh hm;have U6:=Zh hel;have O5:=Zh g1;have xA:=Zh hk;rw[hm];clear e1 h1 hel g1 hm hk;have HX:=Zh (BxB.of (zQ W (.cells (zg kd nm s a1 m c1) 37)));have H5:Hi (Bel W (W.alloc (.cells (zg kd nm s a1 m c1) 37))):=zO.alloc zP _;have U2:=Zh (Jd hb H5.o);clear hb;go_enter func19,ntmps19;go_upto_region 1 with fail;generalize World.alloc W _=w1 at*;generalize W.heap.size=xb at*;have M5:Hi (Bel w1 w1):=zO;obtain⟨x0,x1,x2,x3⟩:=Qao (HX.o _ M5.o)
  by_cases e3:60<k
  ·have q3:decide ((k:Int)>60)=true:=zG zo;have FB:T=301:=by rw[<-hT,if_pos (Or.inl e3)]
   subst FB;clear hT e3;go_wp2;go_ret;exact⟨rfl,Jd H5.o M5.o⟩
  have q3:decide ((k:Int)>60)=false:=zH zo
  by_cases e4:300<m
  ·have q4:decide ((m:Int)>300)=true:=zG zo;have FB:T=301:=by rw[<-hT,if_pos (Or.inr e4)]
   subst FB;clear hT e3 e4;go_wp2;go_ret;exact⟨rfl,Jd H5.o M5.o⟩
  have q4:decide ((m:Int)>300)=false:=zH zo;rw[if_neg zo]at hT;have HT:=Zh hT;have HE:Hi (k<=60/\m<=300):=⟨by omega,by omega⟩
  clear hT e3 e4;go_wp2_with fail;go_loopg [5,6] m λg v5 v6 wr=>∃i N:Nat,g+i=m/\v5=Iv (N:Int)/\v6=Iv (i:Int)/\Hi (Bel w1 wr/\szL k N (l.drop i)=T/\N<=30000)
  case atStart=>exact⟨0,1,rfl,rfl,rfl,M5.o,HT.o,by decide⟩
  case round=>
   clear M5 q3 q4 x0 x1 x2 x3 HT;obtain⟨wl,rfl⟩:=zJ wr;obtain⟨i,N,hg,rfl,rfl,A2⟩:=hrel;have M5:Hi (Bel w1 wl):=A2.o.1;have HT:=Zh A2.o.2.1;have HN:=Zh A2.o.2.2;clear A2;obtain⟨x0,x1,x2,x3⟩:=Qao (HX.o _ M5.o)
   by_cases hi:i<m
   ·have dil:decide ((i:Int)<(m:Int))=true:=zG zo;have diN:decide (i<m)=true:=zG hi
    by_cases hN:N<=300
    ·have dN:decide ((N:Int)<=300)=true:=zG zo;obtain⟨x,hx⟩:∃x,l[i]?=some x:=⟨_,List.getElem?_eq_getElem (by rw[HM.o];exact hi)⟩
     obtain⟨b1,o1,E7,hk1⟩:=O5.o (List.ne_nil_of_mem (List.mem_of_getElem? hx));subst E7;obtain⟨d1,T5,hc1⟩:=hk1 i x hx;have D5:=T5;obtain⟨xa,xc,rfl⟩:=T5.form;have O4:=Zh (Jd U2.o M5.o);obtain⟨z,hz⟩:=yt (szE (k+1) x)
     have FA:=JhY (k+1) x;rw[hz]at FA;have cc:=U6.o x (List.mem_of_getElem? hx) _ wl (zu HE.o) D5 O4.o;rw[hz]at cc
     have XE:szL k (N+z) (l.drop (i+1))=T:=by
      have h:=HT.o;rw[Jee hx,VT,if_pos hN,hz]at h;exact h
     have EA:=Zh XE;have p0:wl.cell? ⟨b1,o1+i*4,none⟩=some (Iv x.kind):=hc1 wl O4.o 0 _ rfl;have p1:wl.cell? ⟨b1,o1+i*4+1,none⟩=some (Iv x.num):=hc1 wl O4.o 1 _ rfl;have p2:wl.cell? ⟨b1,o1+i*4+2,none⟩=some (Sv x.name):=hc1 wl O4.o 2 _ rfl;have p3:wl.cell? ⟨b1,o1+i*4+3,none⟩=some (.slice xa x.kids.length xc):=hc1 wl O4.o 3 _ rfl;have k0:0<=(i:Int):=zo;have k1:(i:Int)<(m:Int):=zo;have wk:IntKind.i64.wrap ((i:Int)+1)=((i+1:Nat):Int):=by have:=HE.o.2;rw[IntWalk.i64_in _ zo];omega
     have wn:IntKind.i64.wrap ((k:Int)+1)=((k+1:Nat):Int):=by have:=HE.o.1;rw[IntWalk.i64_in _ zo];omega
     have wz:IntKind.i64.wrap ((N:Int)+(z:Int))=((N+z:Nat):Int):=by rw[IntWalk.i64_in _ zo];omega
     have HG:Hi (gk+i=m/\i<m/\N+z<=30000):=⟨hg,hi,by omega⟩
     clear hx hk1 T5 D5 hz FA XE hg hi hN HT HN hc1;go_wp2_with fail;refine cc.mono ?_;rintro e w8 ⟨rfl,H7⟩;have IA:Hi (Bel w1 w8):=Jd M5.o H7;clear cc x0 x1 x2 x3 p0 p1 p2 p3 H7;go_wp2;go_roundg (m-(i+1))
     case measure=>have:=HG.o;omega
     case rel=>exact⟨i+1,N+z,by have:=HG.o;omega,rfl,rfl,IA.o,EA.o,HG.o.2.2⟩
    ·have dN:decide ((N:Int)<=300)=false:=zH zo;have FB:T=N:=by rw[<-HT.o];exact Jkl hN _
     subst FB;clear hi hg hN HT;go_wp2;go_ret;exact⟨rfl,Jd H5.o M5.o⟩
   ·have dil:decide ((i:Int)<(m:Int))=false:=zH zo;have diN:decide (i<m)=false:=zH hi
    have FB:T=N:=by
     have h:=HT.o;rw[List.drop_eq_nil_of_le (by rw[HM.o];omega),Jab]at h;exact h.symm
    subst FB;clear hi hg HT;go_wp2;go_ret;exact⟨rfl,Jd H5.o M5.o⟩
termination_by x=>SizeOf.sizeOf x
decreasing_by
 have:=List.sizeOf_lt_of_mem hx;simp only[Exp.mk.sizeOf_spec];omega
structure OpM where
 code:Int
 n:Int
 name:By
deriving DecidableEq
abbrev yu(o:OpM):Array Value:=ye o.code o.n o.name
structure Qaf where
 ops:List OpM
 starts:List Int
 params:List Int
 slots:List Int
deriving DecidableEq
def QcK:Qaf:=⟨[],[],[],[]⟩
def op0(c:Int):OpM:=⟨c,0,[]⟩
def QbT(k:Int):Int:=if k=6\/k=7\/k=8\/k=9\/k=10\/k=11\/k=12\/k=13\/k=14 then k else 15
mutual
def cE:Nat->Exp->List OpM
 |p,.mk k n s l=>
  if k=0\/k=1 then [⟨0,n,[]⟩]
  else if k=2 then [⟨1,n,[]⟩]
  else if k=3 then [⟨3,0,s⟩]
  else if k=4 then [⟨4,0,s⟩]
  else if k=5 then [⟨5,0,s⟩]
  else if k=16 then
   match l with
   |[a,b]=>cE p a++⟨17,((p+(cE p a).length+(cE (p+(cE p a).length+1) b).length+2:Nat):Int),[]⟩::(cE (p+(cE p a).length+1) b ++
     [⟨16,((p+(cE p a).length+(cE (p+(cE p a).length+1) b).length+3:Nat):Int),[]⟩,⟨0,0,[]⟩])
   |_=>[]
  else if k=17 then
   match l with
   |[a,b]=>cE p a++⟨18,((p+(cE p a).length+(cE (p+(cE p a).length+1) b).length+2:Nat):Int),[]⟩::(cE (p+(cE p a).length+1) b ++
     [⟨16,((p+(cE p a).length+(cE (p+(cE p a).length+1) b).length+3:Nat):Int),[]⟩,⟨0,1,[]⟩])
   |_=>[]
  else if k=18 then
   match l with
   |[c,a,b]=>cE p c++⟨17,((p+(cE p c).length+(cE (p+(cE p c).length+1) a).length+2:Nat):Int),[]⟩::(cE (p+(cE p c).length+1) a ++
     ⟨16,((p+(cE p c).length+(cE (p+(cE p c).length+1) a).length+2+(cE (p+(cE p c).length+(cE (p+(cE p c).length+1) a).length+2) b).length:Nat):Int),[]⟩ ::
     cE (p+(cE p c).length+(cE (p+(cE p c).length+1) a).length+2) b)
   |_=>[]
  else if k=19 then
   match l with
   |[a,b]=>cE p a++⟨2,n,[]⟩::cE (p+(cE p a).length+1) b
   |_=>[]
  else cL p l++[if k=20 then⟨19,n,[]⟩ else op0 (QbT k)]
def cL:Nat->List Exp->List OpM
 |_,[]=>[]
 |p,a::l=>cE p a++cL (p+(cE p a).length) l
end
mutual
def QaD:Exp->Int
 |.mk k n s l=>max (if k=19 then n+1 else 0) (QbG l)
def QbG:List Exp->Int
 |[]=>0
 |a::l=>max (QaD a) (QbG l)
end
def cC:Nat->List ClM->List OpM
 |_,[]=>[]
 |p,c::l=>op0 21::(cE (p+1) c.cond++⟨17,((p+(cE (p+1) c.cond).length+3:Nat):Int),[]⟩::⟨22,c.action,c.reason⟩::cC (p+(cE (p+1) c.cond).length+3) l)
def cF:Nat->List FnM->List OpM
 |_,[]=>[]
 |p,f::l=>cE p f.body++op0 20::cF (p+(cE p f.body).length+1) l
def QaC:Nat->List FnM->List Int
 |_,[]=>[]
 |p,f::l=>(p:Int)::QaC (p+(cE p f.body).length+1) l
def Qbv:List ClM->Int
 |[]=>0
 |c::l=>max (QaD c.cond) (Qbv l)
def Qac(r:Qah):Qaf:=
 ⟨cC 0 r.clauses++⟨22,r.action,[]⟩::cF ((cC 0 r.clauses).length+1) r.funcs,QaC ((cC 0 r.clauses).length+1) r.funcs,r.funcs.map λf=>(f.params.length:Int),
  r.funcs.map (λf=>max (f.params.length:Int) (QaD f.body))++[Qbv r.clauses]⟩
def Qai(r:Qah):Qaf:=if Qat r=true then Qac r else QcK
structure StM where
 pc:Nat
 st:List Int
 vars:List Int
 calls:List (Nat×List Int)
 used:Nat
 o:QeD
 fin:Bool
def Qkw:QeD:=⟨0,[],0,0⟩
def StM.fail(s:StM)(e:Int):StM:={s with o:=⟨0,[],0,e⟩,fin:=true}
def StM.go(s:StM)(n:Int):StM:={s with pc:=n.toNat}
def StM.push(s:StM)(v:Int):StM:={s with st:=v::s.st}
def Qbg(c:Qaf)(F:Qaj)(o:OpM)(s:StM):Option StM:=
 if o.code=0 then some (s.push o.n)
 else if o.code=1 then (if 0<=o.n/\o.n<(s.vars.length:Int) then some (s.push (s.vars.getD o.n.toNat 0)) else none)
 else if o.code=2 then
  match s.st with
  |v::l=>if 0<=o.n/\o.n<(s.vars.length:Int) then some {s with st:=l,vars:=s.vars.set o.n.toNat v} else none
  |[]=>none
 else if o.code=3 then some (s.push (QcM F o.name))
 else if o.code=4 then some (s.push (Qcm F.labels o.name))
 else if o.code=5 then some (s.push (QcZ F.words o.name))
 else if o.code=6\/o.code=7 then
  match s.st with
  |a::l=>some {s with st:=(if o.code=6 then clI (0-a) else Qcs (decide (a=0)))::l}
  |[]=>none
 else if o.code<=15/\8<=o.code then
  match s.st with
  |b::a::l=>some (match Qax o.code a b 0 with|.val v _=>{s with st:=v::l}|.fault e _=>StM.fail {s with st:=l} e)
  |_=>none
 else if o.code=16 then some (s.go o.n)
 else if o.code=17 then
  match s.st with
  |v::l=>some (if v=0 then StM.go {s with st:=l} o.n else {s with st:=l})
  |[]=>none
 else if o.code=18 then
  match s.st with
  |v::l=>some (if v=1 then StM.go {s with st:=l} o.n else {s with st:=l})
  |[]=>none
 else if o.code=19 then
  if s.used=10000 then some (s.fail 14)
  else if s.calls.length=100 then some (StM.fail {s with used:=s.used+1} 7)
  else
   let m:=(c.params.getD o.n.toNat 0).toNat
   if 0<=o.n/\o.n<(c.params.length:Int)/\o.n<(c.slots.length:Int)/\o.n<(c.starts.length:Int)/\m<=s.st.length/\(m:Int)<=c.slots.getD o.n.toNat 0 then
    some {s with pc:=(c.starts.getD o.n.toNat 0).toNat,st:=s.st.drop m,vars:=(s.st.take m).reverse++List.replicate ((c.slots.getD o.n.toNat 0).toNat-m) 0,calls:=(s.pc,s.vars)::s.calls,used:=s.used+1}
   else none
 else if o.code=20 then
  match s.calls with
  |(q,vs)::l=>some {s with pc:=q,vars:=vs,calls:=l}
  |[]=>none
 else if o.code=21 then some (if s.used=10000 then s.fail 14 else {s with used:=s.used+1})
 else if o.code=22 then some {s with o:=⟨o.n,o.name,0,0⟩,fin:=true}
 else none
def QbZ(c:Qaf)(F:Qaj)(s:StM):Option StM:=
 if s.fin=true then none
 else match c.ops[s.pc]? with
  |none=>none
  |some o=>Qbg c F o {s with pc:=s.pc+1}
def Qaw(c:Qaf)(F:Qaj):Nat->StM->Option StM
 |0,s=>some s
 |k+1,s=>(QbZ c F s).bind (Qaw c F k)
end Go.Proofs.YtfafpklefknomaaGreatDoor



