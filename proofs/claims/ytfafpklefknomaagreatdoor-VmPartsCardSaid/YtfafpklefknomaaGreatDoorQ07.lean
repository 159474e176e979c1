import Derived.Test.YtfafpklefknomaaGreatDoorQ04
namespace Go.Proofs.YtfafpklefknomaaGreatDoor
open Go Go.ChangeShapes Go.WideShapes Go.ChangeAt Go.RowKit Go.Lib
open _root_.Go.Proofs.Tryz
set_option linter.all false
set_option maxRecDepth 100000
set_option maxHeartbeats 40000000
def QbM.take{α:Type}{R:α->List Value->Prop}{m:Nat}(hR:∀a c,R a c->c.length=m):∀{l:List α}{xs:List Value}(k:Nat),QbM R l xs->QbM R (l.take k) (xs.take (k*m))
 |[],xs,k,h=>by
  obtain rfl:xs=[]:=h;simp[QbM]
 |a::l,xs,0,h=>by simp[QbM]
 |a::l,xs,k+1,⟨c,r,h1,h2,h3⟩=>by
  refine⟨c,r.take (k*m),h1,?_,h3.take hR k⟩;have hl:=hR _ _ h1;rw[h2,List.take_append,hl,List.take_of_length_le (by rw[hl,Nat.add_mul];omega),show (k+1)*m-m=k*m by rw[Nat.add_mul];omega]
def QbM.drop{α:Type}{R:α->List Value->Prop}{m:Nat}(hR:∀a c,R a c->c.length=m):∀{l:List α}{xs:List Value}(k:Nat),QbM R l xs->QbM R (l.drop k) (xs.drop (k*m))
 |[],xs,k,h=>by
  obtain rfl:xs=[]:=h;simp[QbM]
 |a::l,xs,0,h=>by simpa using h
 |a::l,xs,k+1,⟨c,r,h1,h2,h3⟩=>by
  have hl:=hR _ _ h1
  have e1:(c++r).drop ((k+1)*m)=r.drop (k*m):=by
   rw[List.drop_append,hl,List.drop_of_length_le (l:=c) (by rw[hl,Nat.add_mul];omega),List.nil_append,show (k+1)*m-m=k*m by rw[Nat.add_mul];omega]
  rw[List.drop_succ_cons,h2,e1];exact h3.drop hR k
def cutA(ca:Option Addr)(k cc:Nat):Option Addr:=if cc=k then ca else ca.map (·.add (k*6))
variable{W:World}{l:List ClM}
def QdL.take{ca:Option Addr}{n cc k:Nat}(h:QdL W (.slice ca n cc) l)(hk:k<=l.length):QdL W (.slice ca (l.take k).length cc) (l.take k):=by
 obtain⟨ad,c',xs,h1,h2,h3,h4⟩:=h;injection h1 with e1 e2 e3;subst e1 e3;refine⟨_,_,xs.take (k*6),rfl,Nat.le_trans (by rw[List.length_take];omega) h2,h3.take ClX.len k,?_⟩
 rcases h4 with rfl|⟨b,o,h5,h6,h7⟩
 ·exact .inl zq
 ·refine .inr ⟨b,o,h5,h6,λj u hj=>h7 j u ?_⟩;rw[List.getElem?_take]at hj;split at hj
  ·exact hj
  ·simp at hj
def QdL.drop{ca:Option Addr}{n cc k:Nat}(h:QdL W (.slice ca n cc) l)(hk:k<=l.length):QdL W (.slice (cutA ca k cc) (l.drop k).length (cc-k)) (l.drop k):=by
 obtain⟨ad,c',xs,h1,h2,h3,h4⟩:=h;injection h1 with e1 e2 e3;subst e1 e3;refine⟨_,_,xs.drop (k*6),rfl,by rw[List.length_drop];omega,h3.drop ClX.len k,?_⟩
 by_cases hkl:k=l.length
 ·exact .inl (by rw[hkl,List.drop_length])
 rcases h4 with rfl|⟨b,o,h5,h6,h7⟩
 ·exact .inl zq
 ·refine .inr ⟨b,o+k*6,?_,h6,λj u hj=>?_⟩
  ·unfold cutA;rw[if_neg zo,h5];simp only[Option.map_some,Option.some.injEq];unfold Addr.add;split
   ·next e=>simp_all
   ·rfl
  ·rw[List.getElem?_drop]at hj;have:=h7 _ u hj;rw[<-Nat.add_assoc]at this;exact this
def RSz.some{r:Qah}(h:RSz r){a:Int}(hl:∀c∈l,c∈r.clauses)(hn:l.length<=r.clauses.length):RSz ⟨r.funcs,l,a⟩:=
 ⟨h.nf,Nat.le_trans hn h.nc,h.fn,λc hc=>h.cl c (hl c hc)⟩
def addr_add0(a:Addr):a.add 0=a:=by simp[Addr.add]
def run_cut_hi(W:World)(ca:Option Addr)(n cc k:Nat)(hk:k<=cc):(Instr.slice 23 (.slice ca n cc) none (some (Iv (k:Int))) none).run prog W=.ok (.slice ca k cc) W:=by
 have he:prog.elem 23=39:=zk
 have hz:(Go.sizeOf 39).run prog W=.ok 6 W:=zk
 have ht:prog.underlying 23=some (.slice (prog.elem 23)):=zk
 rw[run_slice_h W 23 _ _ _ ht .i64 _ zo zo,he,hz];simp only[Result.andThen,sliced,Nat.zero_mul,Int.toNat_natCast,Nat.sub_zero]
 by_cases h:cc=0
 ·rw[if_pos h]
 ·rw[if_neg h]
  cases ca with
  |none=>rfl
  |some a=>simp only[Option.map_some,addr_add0]
def run_cut_lo(W:World)(ca:Option Addr)(n cc k:Nat)(hk:k<=n):(Instr.slice 23 (.slice ca n cc) (some (Iv (k:Int))) none none).run prog W=.ok (.slice (cutA ca k cc) (n-k) (cc-k)) W:=by
 have he:prog.elem 23=39:=zk
 have hz:(Go.sizeOf 39).run prog W=.ok 6 W:=zk
 have ht:prog.underlying 23=some (.slice (prog.elem 23)):=zk
 rw[run_slice_l W 23 _ _ _ ht .i64 _ zo zo,he,hz];simp only[Result.andThen,sliced,Int.toNat_natCast];rfl
def sC_app(x y:List ClM):sC (x++y)=sC x+sC y:=by unfold sC;rw[List.map_append,List.sum_append]
def sC_take(n:Nat)(l:List ClM):sC (l.take n)<=sC l/\sC (l.drop n)<=sC l:=by
 have h:=sC_app (l.take n) (l.drop n);rw[List.take_append_drop]at h;omega
def few_part{r:Qah}(h:QfZ r=true)(hn:RNm r)(a:Int)(hl:l.length<=r.clauses.length)(hs:sC l<=sC r.clauses)(hm:∀c∈l,c∈r.clauses):RSz ⟨r.funcs,l,a⟩/\(Qac ⟨r.funcs,l,a⟩).ops.length<=40000000:=by
 have h2:QfZ ⟨r.funcs,l,a⟩=true:=by
  unfold QfZ at h |-;simp only[Bool.and_eq_true,decide_eq_true_eq]at h |-;omega
 have:=V0 h2 ⟨hn.nf,Nat.le_trans hl hn.nc,hn.fn,λc hc=>hn.cl c (hm c hc)⟩;exact⟨this.1,this.2.1⟩
structure PartC(w6:World)(X:Qah)(F:Qaj)(cx:Array Value)(lv wv:Value):Prop where
 comp:∀W,Below w6.heap.size w6 W->Calls prog 10 #[.agg cx] W (QfA W (Qai X))
 run:∀W p d,Below w6.heap.size w6 W->p<=W.heap.size->CV W p (Qai X) d->Calls prog 12 #[.agg cx,.agg d,.agg (QaI F lv wv)] W (Qfk W (QdM X F))
def PartC.of{w6:World}{X:Qah}{F:Qaj}{cx:Array Value}{lv wv:Value}(hX:∀W,Below w6.heap.size w6 W->QaV W (In W) X cx)(hz:RSz X)(hl:(Qac X).ops.length<=40000000)(hF:FSz F)(hf:∀W,Below w6.heap.size w6 W->Qbx W lv F.labels/\QaT W wv F.words):PartC w6 X F cx lv wv:=
 ⟨λW hb=>Ki X cx W (hX W hb) hz (λ_=>hl),λW p d hb hp hd=>by
  have h:=KM X F (Qai X) cx d lv wv p W (hX W hb) hz (λ_=>hl) hF (hf W hb).1 (hf W hb).2 hp hd (Ve hz hl);rw[vrunM_self]at h
  exact h⟩
def set4{b t:Nat}{a0 a1 a2 a3:Value}(v0 v1 v2 v3:Value)(h:W.heap[b]?=some (.cells #[a0,a1,a2,a3] t (0,0))):((((W.setCell ⟨b,0,none⟩ v0).setCell ⟨b,1,none⟩ v1).setCell ⟨b,2,none⟩ v2).setCell ⟨b,3,none⟩ v3).heap[b]?=some (.cells #[v0,v1,v2,v3] t (0,0)):=
 Jm (Jm (Jm (Jm h 0 v0) 1 v1) 2 v2) 3 v3
def bl_set4{w1:World}(h:Below w1.heap.size w1 W){b:Nat}(hb:w1.heap.size<=b)(v0 v1 v2 v3:Value):Below w1.heap.size w1 ((((W.setCell ⟨b,0,none⟩ v0).setCell ⟨b,1,none⟩ v1).setCell ⟨b,2,none⟩ v2).setCell ⟨b,3,none⟩ v3):=
 (((h.setCell (p:=⟨b,0,none⟩) hb v0).setCell (p:=⟨b,1,none⟩) hb v1).setCell (p:=⟨b,2,none⟩) hb v2).setCell (p:=⟨b,3,none⟩) hb v3
def bl_up{w1:World}(h:Below w1.heap.size w1 W)(o:Obj):Below w1.heap.size w1 (W.alloc o):=h.alloc h.size o
theorem zAb{P:Prop}(h:P:=by
  generalize wP.drew=wd at*;refine zK 0 ?_
  try simp only[zX]
  refine zK 1 ?_;try simp only[zX]
  refine zK 3 ?_;try simp only[zX]
  have HV:=HD;refine ZR (rs:=[2,5]) (AllReadyH.cons rfl (λK hK=>?_) (AllReadyH.cons rfl (λK hK=>?_) AllReadyH.nil))
  ·(go_simp;go_at_call 10;refine(KC.o _ HV.o).mono ?_;rintro e u ⟨dd,rfl,hcv,hbu⟩)
   have HU:Hi (Below wP.heap.size wP u):=Jd HV.o hbu;refine zU hK (HS.o _ HU.o) (λhH=>?_);clear hK K
   try simp only[zX]
   refine ZR (rs:=[4,5]) (AllReadyH.cons rfl (λK hK=>?_) (AllReadyH.cons rfl (λK hK=>?_) AllReadyH.nil))
   ·(go_simp;go_at_call 12;refine(KR.o _ _ dd HU.o zP hcv).mono ?_;rintro e v ⟨rfl,hbv⟩)
    have HR:Hi (Below wP.heap.size wP v):=Jd HU.o hbv;refine zU hK (HS.o _ HR.o) (λhH=>?_);clear hK K
    try simp only[zX]
    refine ZS 5 rfl (λK hK=>?_);go_simp;refine zU hK (HS.o _ (bl_up HR.o _)) (λhH=>?_);clear hK K
    try simp only[zX]
    refine ZS 6 rfl (λK hK=>?_);go_simp;refine zU hK (HS.o _ (bl_up HR.o _)) (λhH=>?_);clear hK K;refine wpAnyH_done zk ?_ _;go_wp2;go_meet;exact⟨_,rfl,bl_up HR.o _,zQ _ _⟩
   ·go_simp;refine zU hK (HS.o _ (bl_up HU.o _)) (λhH=>?_);clear hK K
    try simp only[zX]
    have HZ0:=Zh (zQ u (.cells #[Iv 0,.string ⟨#[]⟩,Iv 0,Iv 0] 48));have HUA:=Zh (bl_up HU.o (.cells #[Iv 0,.string ⟨#[]⟩,Iv 0,Iv 0] 48));have HLO:Hi (wP.heap.size<=u.heap.size):=HU.o.size;have HLE:Hi (u.heap.size<=(u.alloc (.cells #[Iv 0,.string ⟨#[]⟩,Iv 0,Iv 0] 48)).heap.size):=by rw[Hi,World.size_alloc];omega
    have HCV:=Zh (hcv.up (zO.alloc zP (.cells #[Iv 0,.string ⟨#[]⟩,Iv 0,Iv 0] 48)));generalize World.alloc u _=ua at*;refine ZS 4 rfl (λK hK=>?_)
    (go_simp;go_at_call 12;refine(KR.o _ _ dd HUA.o HLE.o HCV.o).mono ?_;rintro e v ⟨rfl,hbv⟩)
    have HR:Hi (Below wP.heap.size wP v):=Jd HUA.o hbv;refine zU hK (HS.o _ HR.o) (λhH=>?_);clear hK K
    try simp only[zX]
    have HZ:=Zh ((hbv.block _ (Jb HZ0.o)).trans HZ0.o);clear HZ0 hbv;generalize u.heap.size=ob at*;obtain⟨c0,c1,c2,c3⟩:=Qao HZ.o;have f0:=Jc HZ.o 0;have f1:=Jc HZ.o 1;have f2:=Jc HZ.o 2;have f3:=Jc HZ.o 3;refine ZS 6 rfl (λK hK=>?_);go_simp;refine zU hK (HS.o _ (bl_set4 HR.o HLO.o _ _ _ _)) (λhH=>?_);clear hK K c0 c1 c2 c3 f0 f1 f2 f3;refine wpAnyH_done zk ?_ _;go_wp2;go_meet;exact⟨_,rfl,bl_set4 HR.o HLO.o _ _ _ _,set4 _ _ _ _ HZ.o⟩
  ·go_simp;refine zU hK (HS.o _ (bl_up HV.o _)) (λhH=>?_);clear hK K
   try simp only[zX]
   have HZ0:=Zh (zQ wd (.cells #[Iv 0,.string ⟨#[]⟩,Iv 0,Iv 0] 48));have HUA:=Zh (bl_up HV.o (.cells #[Iv 0,.string ⟨#[]⟩,Iv 0,Iv 0] 48));have HLO:Hi (wP.heap.size<=wd.heap.size):=HV.o.size;generalize World.alloc wd _=wa at*;generalize wd.heap.size=ob at*;refine ZS 2 rfl (λK hK=>?_)
   (go_simp;go_at_call 10;refine(KC.o _ HUA.o).mono ?_;rintro e u ⟨dd,rfl,hcv,hbu⟩)
   have HU:Hi (Below wP.heap.size wP u):=Jd HUA.o hbu;refine zU hK (HS.o _ HU.o) (λhH=>?_);clear hK K
   try simp only[zX]
   have HZ1:=Zh ((hbu.block _ (Jb HZ0.o)).trans HZ0.o);clear HZ0 hbu;refine ZS 4 rfl (λK hK=>?_)
   (go_simp;go_at_call 12;refine(KR.o _ _ dd HU.o zP hcv).mono ?_;rintro e v ⟨rfl,hbv⟩)
   have HR:Hi (Below wP.heap.size wP v):=Jd HU.o hbv;refine zU hK (HS.o _ HR.o) (λhH=>?_);clear hK K
   try simp only[zX]
   have HZ:=Zh ((hbv.block _ (Jb HZ1.o)).trans HZ1.o);clear HZ1 hbv;obtain⟨c0,c1,c2,c3⟩:=Qao HZ.o;have f0:=Jc HZ.o 0;have f1:=Jc HZ.o 1;have f2:=Jc HZ.o 2;have f3:=Jc HZ.o 3;refine ZS 6 rfl (λK hK=>?_);go_simp;refine zU hK (HS.o _ (bl_set4 HR.o HLO.o _ _ _ _)) (λhH=>?_);clear hK K c0 c1 c2 c3 f0 f1 f2 f3;refine wpAnyH_done zk ?_ _;go_wp2;go_meet;exact⟨_,rfl,bl_set4 HR.o HLO.o _ _ _ _,set4 _ _ _ _ HZ.o⟩):P:=h
def parts_card(r:Qah)(cr:Array Value)(k:Int)(F:Qaj)(la wa:Option Addr)(lc wc:Nat)(w:World)(hxr:QaV w (In w) r cr)(hnr:RNm r)(hpr:∀f∈r.funcs,f.params.length<=200000000000000)(hF:FSz F)(hlab:Qbx w (.slice la F.labels.length lc) F.labels)(hwd:QaT w (.slice wa F.words.length wc) F.words)(hL:Laid w):
  Calls prog 5 #[.agg cr,Iv k,.agg (QaI F (.slice la F.labels.length lc) (.slice wa F.words.length wc))] w (Qbj w (.bool true)):=by
 obtain⟨R,hR⟩:∃R,Qbj w (.bool true)=R:=⟨_,rfl⟩
 rw[hR];have HR:Hi (Qbj w (.bool true)=R):=hR;obtain⟨fr,gr,cr,dr,rfl,hfx,hcx⟩:=hxr.parts
 have hcc:r.clauses.length<=dr:=by
  obtain⟨_,_,h,hle⟩:=hcx.form;injection h with _ _ h;subst h;exact hle
 obtain⟨nr,hnr1⟩:∃n,r.funcs.length=n:=⟨_,rfl⟩
 obtain⟨mr,hmr1⟩:∃n,r.clauses.length=n:=⟨_,rfl⟩
 obtain⟨ln,hln⟩:∃n,F.labels.length=n:=⟨_,rfl⟩
 obtain⟨wn,hwn⟩:∃n,F.words.length=n:=⟨_,rfl⟩
 rw[hnr1]at hfx;rw[hmr1]at hcx hcc;rw[hnr1,hmr1]at hxr |-;rw[hln]at hlab |-;rw[hwn]at hwd |-;unfold QaI;have hbx:=Jaa w (.cells #[.slice fr nr gr,.slice cr mr dr,Iv r.action] 25) (.cells #[.slice la ln lc,Iv F.likes,Iv F.boosts,Iv F.replies,Iv F.reports,Iv F.age,Iv F.home,Iv F.scope,Iv F.length,.bool F.follows,.bool F.reply,.slice wa wn wc] 45);have HB:=Zh (Yc w (.cells #[.slice fr nr gr,.slice cr mr dr,Iv r.action] 25) (.cells #[.slice la ln lc,Iv F.likes,Iv F.boosts,Iv F.replies,Iv F.reports,Iv F.age,Iv F.home,Iv F.scope,Iv F.length,.bool F.follows,.bool F.reply,.slice wa wn wc] 45));have HXR:=Zh (BxB.of hbx.1);have HXF:=Zh (BxB.of hbx.2);have HRW:=Zh (λW (hb:Bel w W)=>JbS r _ W hxr hb hpr);have HYR:=Zh hxr;have HFX:=Zh hfx;have HCX:=Zh hcx;have HNR:=Zh hnr;have HFZ:=Zh hF;have HLA:=Zh hlab;have HWA:=Zh hwd;have HL:=Zh hL;have HMR:=Zh hmr1;have HCC:=Zh hcc;clear hbx hxr hnr hpr hF hlab hwd hL hnr1 hmr1 hln hwn hR hfx hcx hcc;go_enter func5,ntmps5;go_upto_region 1 with fail
 try simp only[World.size_alloc]
 obtain⟨fb,hfb⟩:∃fb,w.heap.size+1=fb:=⟨_,rfl⟩
 obtain⟨rb,hrb⟩:∃rb,w.heap.size=rb:=⟨_,rfl⟩
 rw[hfb]at HXF |-;rw[hrb]at HXR |-;clear hfb hrb;generalize World.alloc (World.alloc w _) _=w1 at*;go_wp2_with fail;refine(Jdq w1 (HL.o.below HB.o)).mono ?_;rintro e w2 ⟨rfl,hb2⟩;have HW2:Hi (Below w1.heap.size w1 w2):=hb2;clear hb2;obtain⟨q0,q1,q2⟩:=Qay (HXR.o _ HW2.o);have cl:=HRW.o w2 (Jd HB.o HW2.o);go_wp2_with fail;refine cl.mono ?_;rintro e w3 ⟨rfl,hb⟩;have HW3:Hi (Below w1.heap.size w1 w3):=Jd HW2.o hb;clear cl hb q0 q1 q2 HRW
 have HFIN:Hi (∀W,Below w1.heap.size w1 W->R (.returned (.bool true)) W):=λW hW=>by
  rw[<-HR.o];exact⟨rfl,Jd HB.o hW⟩
 clear HR
 cases hr:QfZ r with
 |false=>
  have HT:=HFIN.o _ HW3.o;clear HFIN;go_wp2;exact HT
 |true=>
 have HZR:=Zh (V0 hr HNR.o);have HFE:=Zh hr;clear hr;have RR:=Zh (λW (hb:Below w1.heap.size w1 W)=>HYR.o.up' (Jd HB.o hb));have FR:=Zh (λW (hb:Below w1.heap.size w1 W)=>And.intro (HLA.o.up (Jd HB.o hb)) (HWA.o.up (Jd HB.o hb)));obtain⟨q0,q1,q2⟩:=Qay (HXR.o _ HW3.o);have ch:=KR r _ w3 (RR.o _ HW3.o) HZR.o.1;go_wp2_with fail;refine ch.mono ?_;clear ch q0 q1 q2;rintro e w4 ⟨rfl,hb⟩;have HW4:Hi (Below w1.heap.size w1 w4):=Jd HW3.o hb;clear hb
 cases h1:Qat r with
 |false=>
  have HT:=HFIN.o _ HW4.o;clear HFIN;go_wp2;exact HT
 |true=>
 obtain⟨z0,z1,z2,z3,z4,z5,z6,z7,z8,z9,z10,z11⟩:=wtwelve (HXF.o _ HW4.o);have cf:=Y3 F (.slice la ln lc) (.slice wa wn wc) w4 HFZ.o (FR.o _ HW4.o).1 (FR.o _ HW4.o).2;unfold QaI at cf;go_wp2_with fail;refine cf.mono ?_;clear cf z0 z1 z2 z3 z4 z5 z6 z7 z8 z9 z10 z11;rintro e w5 ⟨rfl,hb⟩;have HW5:Hi (Below w1.heap.size w1 w5):=Jd HW4.o hb;clear hb
 cases h2:QaF F with
 |false=>
  have HT:=HFIN.o _ HW5.o;clear HFIN;go_wp2;exact HT
 |true=>
 obtain⟨q0,q1,q2⟩:=Qay (HXR.o _ HW5.o)
 by_cases hk0:k<0
 ·have dk:decide (k<0)=true:=zG hk0;have HT:=HFIN.o _ HW5.o;clear HFIN hk0;go_wp2;exact HT
 have dk:decide (k<0)=false:=zH hk0
 by_cases hk1:(mr:Int)<k
 ·have dk1:decide (k>(mr:Int))=true:=zG hk1;have dk2:decide ((mr:Int)<k)=true:=zG hk1;have HT:=HFIN.o _ HW5.o;clear HFIN hk0 hk1;go_wp2;exact HT
 have dk1:decide (k>(mr:Int))=false:=zH hk1;have dk2:decide ((mr:Int)<k)=false:=zH hk1;obtain⟨n,rfl⟩:∃n:Nat,k=n:=⟨k.toNat,by omega⟩
 have hkn:n<=mr:=zo
 have dk3:decide (mr<n)=false:=zH zo;have HKN:=Zh hkn;have s1:=λW=>run_cut_hi W cr mr dr n (by have:=HCC.o;omega)
 have s2:=λW=>run_cut_lo W cr mr dr n hkn
 have HPO:=Zh (runM_parts h1 h2 n);have H1:=Zh h1;clear hk0 hk1 hkn h1 h2;go_upto_region 5 with fail;clear q0 q1 q2;obtain⟨q0,q1,q2⟩:=Qay (HXR.o _ (bl_up HW5.o (.cells #[.slice fr nr gr,.slice cr mr dr,Iv r.action] 25)));go_upto_region 7 with fail;clear q0 q1 q2;obtain⟨q0,q1,q2⟩:=Qay (HXR.o _ (bl_up HW5.o (.cells #[.slice fr nr gr,.slice cr n dr,Iv 0] 25)));go_upto_region 8 with fail;clear q0 q1 q2;obtain⟨q0,q1,q2⟩:=Qay (HXR.o _ (bl_up (bl_up HW5.o (.cells #[.slice fr nr gr,.slice cr n dr,Iv 0] 25)) (.cells #[.slice fr nr gr,.slice cr mr dr,Iv r.action] 25)));go_upto_region 10 with fail;clear q0 q1 q2;obtain⟨q0,q1,q2⟩:=Qay (HXR.o _ (bl_up (bl_up HW5.o (.cells #[.slice fr nr gr,.slice cr n dr,Iv 0] 25)) (.cells #[.slice fr nr gr,.slice cr n dr,Iv 3] 25)));go_upto_region 11 with fail;clear q0 q1 q2;obtain⟨q0,q1,q2⟩:=Qay (HXR.o _ (bl_up (bl_up (bl_up HW5.o (.cells #[.slice fr nr gr,.slice cr n dr,Iv 0] 25)) (.cells #[.slice fr nr gr,.slice cr n dr,Iv 3] 25)) (.cells #[.slice fr nr gr,.slice cr mr dr,Iv r.action] 25)));go_upto_region 12 with fail;clear q0 q1 q2 s1 s2 dk dk1 dk2 dk3;have hz:=Joq w5 (.cells #[.slice fr nr gr,.slice cr n dr,Iv 0] 25) (.cells #[.slice fr nr gr,.slice cr n dr,Iv 3] 25) (.cells #[.slice fr nr gr,.slice (cutA cr n dr) (mr-n) (dr-n),Iv r.action] 25);have HXA:=Zh (BxB.of hz.2.1);have HXB:=Zh (BxB.of hz.2.2.1);have HXC:=Zh (BxB.of hz.2.2.2);have HWP:Hi (Below w1.heap.size w1 (((w5.alloc (.cells #[.slice fr nr gr,.slice cr n dr,Iv 0] 25)).alloc (.cells #[.slice fr nr gr,.slice cr n dr,Iv 3] 25)).alloc (.cells #[.slice fr nr gr,.slice (cutA cr n dr) (mr-n) (dr-n),Iv r.action] 25))):=bl_up (bl_up (bl_up HW5.o (.cells #[.slice fr nr gr,.slice cr n dr,Iv 0] 25)) (.cells #[.slice fr nr gr,.slice cr n dr,Iv 3] 25)) (.cells #[.slice fr nr gr,.slice (cutA cr n dr) (mr-n) (dr-n),Iv r.action] 25);clear hz;obtain⟨xc,hxc⟩:∃b,w5.heap.size+1+1=b:=⟨_,rfl⟩
 obtain⟨xb,hxb⟩:∃b,w5.heap.size+1=b:=⟨_,rfl⟩
 obtain⟨xa,hxa⟩:∃b,w5.heap.size=b:=⟨_,rfl⟩
 rw[hxc]at HXC |-;rw[hxb]at HXB |-;rw[hxa]at HXA |-;clear hxa hxb hxc;generalize World.alloc (World.alloc (World.alloc w5 _) _) _=w6 at*;have HR6:=Zh (λW (hb:Below w6.heap.size w6 W)=>HXR.o W (Jd HWP.o hb));have HF6:=Zh (λW (hb:Below w6.heap.size w6 W)=>HXF.o W (Jd HWP.o hb));have HG6:=Zh (λW (hb:Below w6.heap.size w6 W)=>FR.o W (Jd HWP.o hb))
 have hct:QdL w (.slice cr n dr) (r.clauses.take n):=by
  have h:=HCX.o.take (by rw[HMR.o];exact HKN.o);rw[List.length_take,HMR.o,Nat.min_eq_left HKN.o]at h;exact h
 have hcd:QdL w (.slice (cutA cr n dr) (mr-n) (dr-n)) (r.clauses.drop n):=by
  have h:=HCX.o.drop (by rw[HMR.o];exact HKN.o);rw[List.length_drop,HMR.o]at h;exact h
 have bw:=λW (hb:Below w6.heap.size w6 W)=>Jd HB.o (Jd HWP.o hb)
 have PT:=λact=>PartC.of (w6:=w6) (X:=⟨r.funcs,r.clauses.take n,act⟩) (F:=F) (cx:=#[.slice fr nr gr,.slice cr n dr,Iv act]) (lv:=.slice la ln lc) (wv:=.slice wa wn wc) (λW hb=>⟨_,_,rfl,HFX.o.up (bw W hb),hct.up (bw W hb)⟩) (few_part HFE.o HNR.o act (by rw[List.length_take];exact Nat.min_le_right _ _) (sC_take n r.clauses).1 (λc hc=>List.mem_of_mem_take hc)).1 (few_part HFE.o HNR.o act (by rw[List.length_take];exact Nat.min_le_right _ _) (sC_take n r.clauses).1 (λc hc=>List.mem_of_mem_take hc)).2 HFZ.o HG6.o
 have PA:=Zh (PT 0);have PB:=Zh (PT 3);have PC:=Zh (PartC.of (w6:=w6) (X:=⟨r.funcs,r.clauses.drop n,r.action⟩) (F:=F) (cx:=#[.slice fr nr gr,.slice (cutA cr n dr) (mr-n) (dr-n),Iv r.action]) (lv:=.slice la ln lc) (wv:=.slice wa wn wc) (λW hb=>⟨_,_,rfl,HFX.o.up (bw W hb),hcd.up (bw W hb)⟩) (few_part HFE.o HNR.o r.action (by rw[List.length_drop];exact Nat.sub_le _ _) (sC_take n r.clauses).2 (λc hc=>List.mem_of_mem_drop hc)).1 (few_part HFE.o HNR.o r.action (by rw[List.length_drop];exact Nat.sub_le _ _) (sC_take n r.clauses).2 (λc hc=>List.mem_of_mem_drop hc)).2 HFZ.o HG6.o);have PR:=Zh (PartC.of (w6:=w6) (X:=r) (F:=F) (cx:=#[.slice fr nr gr,.slice cr mr dr,Iv r.action]) (lv:=.slice la ln lc) (wv:=.slice wa wn wc) (λW hb=>RR.o W (Jd HWP.o hb)) HZR.o.1 HZR.o.2.1 HFZ.o HG6.o);have HFW:=Zh (λW (hb:Below w6.heap.size w6 W)=>HFIN.o W (Jd HWP.o hb));clear PT bw hct hcd HFX HCX HNR HFZ HLA HWA HL HMR HCC HKN HZR HFE RR FR HYR HXR HXF HG6 HFIN H1;obtain⟨OA,hOA⟩:∃X,QdM ⟨r.funcs,r.clauses.take n,0⟩ F=X:=⟨_,rfl⟩
 obtain⟨OB,hOB⟩:∃X,QdM ⟨r.funcs,r.clauses.take n,3⟩ F=X:=⟨_,rfl⟩
 obtain⟨OC,hOC⟩:∃X,QdM ⟨r.funcs,r.clauses.drop n,r.action⟩ F=X:=⟨_,rfl⟩
 obtain⟨OZ,hOZ⟩:∃X,QdM r F=X:=⟨_,rfl⟩
 rw[hOA,hOB,hOC,hOZ]at HPO;have CA:=Zh PA.o.run;have CB:=Zh PB.o.run;have CC:=Zh PC.o.run;have CR:=Zh PR.o.run;rw[hOA]at CA;rw[hOB]at CB;rw[hOC]at CC;rw[hOZ]at CR;unfold QaI Qfk Qex at CA CB CC CR;clear hOA hOB hOC hOZ;have HP0:=Zh (Below.refl w6.heap.size w6);obtain⟨wP,hwp⟩:∃wP:World,w6=wP:=⟨_,rfl⟩
 have HP:Hi (Below w6.heap.size w6 wP):=by rw[<-hwp];exact HP0.o
 clear HP0;rw[hwp];clear hwp;have HS:=Zh (λW (hb:Below wP.heap.size wP W)=>And.intro (Qay (HXA.o W (Jd HP.o hb))) (wtwelve (HF6.o W (Jd HP.o hb))));have KC:=Zh (λW (hb:Below wP.heap.size wP W)=>PA.o.comp W (Jd HP.o hb));have KR:=Zh (λW p d (hb:Below wP.heap.size wP W)=>CA.o W p d (Jd HP.o hb));go_upto_region 12 with fail;go_cut [11] (λv wx=>∃ob,v=Pt ob/\Hi (Below wP.heap.size wP wx)/\Hi (wx.heap[ob]?=some (.cells #[Iv OA.action,.string (bs OA.reason),Iv OA.used,Iv OA.fault] 48 (0,0))))
 case first=>as_aux_lemma=>
  have HD:Hi (Below wP.heap.size wP wP.drew):=zO.drew;refine wp_region_held_drew (S:=(λW=>cel3 W xa (.slice fr nr gr) (.slice cr n dr) (Iv 0)/\cel12 W fb (.slice la ln lc) (Iv F.likes) (Iv F.boosts) (Iv F.replies) (Iv F.reports) (Iv F.age) (Iv F.home) (Iv F.scope) (Iv F.length) (.bool F.follows) (.bool F.reply) (.slice wa wn wc))) zk (HS.o _ HD.o) (λhH=>?_);exact zAb
 case rest=>as_aux_lemma=>
 obtain⟨ua,rfl,hb,hrow⟩:=hcut;have HUA1:=Zh (BxB.of hrow.o);have HP2:Hi (Below w6.heap.size w6 wc):=Jd HP.o hb.o;have Gv1:=Zh hb.o;clear hb hrow HS KC KR HP;have HP:=HP2;clear HP2;obtain⟨wP,rfl⟩:=zJ wc
 have HS:=Zh (λW (hb:Below wP.heap.size wP W)=>And.intro (Qay (HXB.o W (Jd HP.o hb))) (wtwelve (HF6.o W (Jd HP.o hb))));have KC:=Zh (λW (hb:Below wP.heap.size wP W)=>PB.o.comp W (Jd HP.o hb));have KR:=Zh (λW p d (hb:Below wP.heap.size wP W)=>CB.o W p d (Jd HP.o hb));go_upto_region 13 with fail;go_cut [12] (λv wx=>∃ob,v=Pt ob/\Hi (Below wP.heap.size wP wx)/\Hi (wx.heap[ob]?=some (.cells #[Iv OB.action,.string (bs OB.reason),Iv OB.used,Iv OB.fault] 48 (0,0))))
 case first=>as_aux_lemma=>
  have HD:Hi (Below wP.heap.size wP wP.drew):=zO.drew;refine wp_region_held_drew (S:=(λW=>cel3 W xb (.slice fr nr gr) (.slice cr n dr) (Iv 3)/\cel12 W fb (.slice la ln lc) (Iv F.likes) (Iv F.boosts) (Iv F.replies) (Iv F.reports) (Iv F.age) (Iv F.home) (Iv F.scope) (Iv F.length) (.bool F.follows) (.bool F.reply) (.slice wa wn wc))) zk (HS.o _ HD.o) (λhH=>?_);exact zAb
 case rest=>as_aux_lemma=>
 obtain⟨ub,rfl,hb,hrow⟩:=hcut;have HUB1:=Zh (BxB.of hrow.o);have HP2:Hi (Below w6.heap.size w6 wc):=Jd HP.o hb.o;have Gv2:=Zh hb.o;clear hb hrow HS KC KR HP;have HP:=HP2;clear HP2;obtain⟨wP,rfl⟩:=zJ wc
 have HS:=Zh (λW (hb:Below wP.heap.size wP W)=>And.intro (Qay (HXC.o W (Jd HP.o hb))) (wtwelve (HF6.o W (Jd HP.o hb))));have KC:=Zh (λW (hb:Below wP.heap.size wP W)=>PC.o.comp W (Jd HP.o hb));have KR:=Zh (λW p d (hb:Below wP.heap.size wP W)=>CC.o W p d (Jd HP.o hb));go_upto_region 14 with fail;go_cut [13] (λv wx=>∃ob,v=Pt ob/\Hi (Below wP.heap.size wP wx)/\Hi (wx.heap[ob]?=some (.cells #[Iv OC.action,.string (bs OC.reason),Iv OC.used,Iv OC.fault] 48 (0,0))))
 case first=>as_aux_lemma=>
  have HD:Hi (Below wP.heap.size wP wP.drew):=zO.drew;refine wp_region_held_drew (S:=(λW=>cel3 W xc (.slice fr nr gr) (.slice (cutA cr n dr) (mr-n) (dr-n)) (Iv r.action)/\cel12 W fb (.slice la ln lc) (Iv F.likes) (Iv F.boosts) (Iv F.replies) (Iv F.reports) (Iv F.age) (Iv F.home) (Iv F.scope) (Iv F.length) (.bool F.follows) (.bool F.reply) (.slice wa wn wc))) zk (HS.o _ HD.o) (λhH=>?_);exact zAb
 case rest=>as_aux_lemma=>
 obtain⟨uc,rfl,hb,hrow⟩:=hcut;have HUC1:=Zh (BxB.of hrow.o);have HP2:Hi (Below w6.heap.size w6 wc):=Jd HP.o hb.o;have Gv3:=Zh hb.o;clear hb hrow HS KC KR HP;have HP:=HP2;clear HP2;obtain⟨wP,rfl⟩:=zJ wc
 have HS:=Zh (λW (hb:Below wP.heap.size wP W)=>And.intro (Qay (HR6.o W (Jd HP.o hb))) (wtwelve (HF6.o W (Jd HP.o hb))));have KC:=Zh (λW (hb:Below wP.heap.size wP W)=>PR.o.comp W (Jd HP.o hb));have KR:=Zh (λW p d (hb:Below wP.heap.size wP W)=>CR.o W p d (Jd HP.o hb));go_upto_region 15 with fail;go_cut [14] (λv wx=>∃ob,v=Pt ob/\Hi (Below wP.heap.size wP wx)/\Hi (wx.heap[ob]?=some (.cells #[Iv OZ.action,.string (bs OZ.reason),Iv OZ.used,Iv OZ.fault] 48 (0,0))))
 case first=>as_aux_lemma=>
  have HD:Hi (Below wP.heap.size wP wP.drew):=zO.drew;refine wp_region_held_drew (S:=(λW=>cel3 W rb (.slice fr nr gr) (.slice cr mr dr) (Iv r.action)/\cel12 W fb (.slice la ln lc) (Iv F.likes) (Iv F.boosts) (Iv F.replies) (Iv F.reports) (Iv F.age) (Iv F.home) (Iv F.scope) (Iv F.length) (.bool F.follows) (.bool F.reply) (.slice wa wn wc))) zk (HS.o _ HD.o) (λhH=>?_);exact zAb
 case rest=>as_aux_lemma=>
 obtain⟨uz,rfl,hb,hrow⟩:=hcut;have HUZ1:=Zh (BxB.of hrow.o);have HP2:Hi (Below w6.heap.size w6 wc):=Jd HP.o hb.o;have Gv4:=Zh hb.o;clear hb hrow HS KC KR HP;have HP:=HP2;clear HP2;obtain⟨wP,rfl⟩:=zJ wc
 have HT:=HFW.o _ HP.o;obtain⟨a0,a1,a2,a3⟩:=Qao (HUA1.o _ (Jd Gv2.o (Jd Gv3.o Gv4.o)));obtain⟨b0,b1,b2,b3⟩:=Qao (HUB1.o _ (Jd Gv3.o Gv4.o));obtain⟨y0,y1,y2,y3⟩:=Qao (HUC1.o _ Gv4.o);obtain⟨z0,z1,z2,z3⟩:=Qao (HUZ1.o _ zO);obtain⟨p1,p2,p3,p4,p5⟩:=HPO.o;clear HPO HFW HP Gv1 Gv2 Gv3 Gv4 HUA1 HUB1 HUC1 HUZ1 PA PB PC PR CA CB CC CR HR6 HF6 HXA HXB HXC HWP HW5 HW4 HW3 HW2 HB
 by_cases e1:OA.fault=0
 rotate_left
 ·have d1:(OA.fault !=0)=true:=bne_iff_ne.2 e1;have d2:(OA.fault==0)=false:=zM e1
  have qn:∀W,(binOp .eql 48 (.agg #[Iv OZ.action,.string (bs OZ.reason),Iv OZ.used,Iv OZ.fault]) (.agg #[Iv OA.action,.string (bs OA.reason),Iv OA.used,Iv OA.fault])).run prog W=.ok (.bool true) W:=λW=>by
   have h:=JbT OZ OA W;rw[zG (p1 (.inl e1))]at h;exact h
  clear p1 p2 p3 p4 p5;go_wp2;exact HT
 have d1:(OA.fault !=0)=false:=by rw[e1];rfl
 have d1b:(OA.fault==0)=true:=zN e1
 by_cases e2:OA.action=OB.action
 ·have d2:(OA.action==OB.action)=true:=zN e2;have hz:=p1 (.inr e2);subst hz;clear p1 p2 p3 p4 p5 e1 e2;go_wp2;exact HT
 have d2:(OA.action==OB.action)=false:=zM e2;have wk:IntKind.i64.wrap ((OA.used:Int)+(OC.used:Int))=((OA.used+OC.used:Nat):Int):=by rw[IntWalk.i64_in _ zo];omega
 have p2:=p2 e1 e2;have p3:=p3 e1 e2;have hbs:bs []=⟨#[]⟩:=rfl;obtain⟨us,hus⟩:∃us,OA.used+OC.used=us:=⟨_,rfl⟩
 rw[hus]at wk p2 p3;clear p1 hus e1 e2
 by_cases e3:10000<us
 ·have d3:decide ((us:Int)>10000)=true:=zG zo;have d3b:decide (10000<(us:Int))=true:=zG zo;have d3n:decide (10000<us)=true:=zG e3;have hz:=p2 (.inl e3);subst hz;dsimp only at z0 z1 z2 z3;rw[hbs]at z1;clear p2 p3 p4 p5 e3;go_wp2;exact HT
 have d3:decide ((us:Int)>10000)=false:=zH zo;have d3b:decide (10000<(us:Int))=false:=zH zo;have d3n:decide (10000<us)=false:=zH e3
 by_cases e4:OC.fault=14
 ·have d4:(OC.fault==14)=true:=zN e4;have hz:=p2 (.inr e4);subst hz;dsimp only at z0 z1 z2 z3;rw[hbs]at z1;clear p2 p3 p4 p5 e3 e4;go_wp2;exact HT
 ·have d4:(OC.fault==14)=false:=zM e4;have hz:=p3 zo e4;subst hz;dsimp only at z0 z1 z2 z3;clear p2 p3 p4 p5 e3 e4;go_wp2;exact HT
end Go.Proofs.YtfafpklefknomaaGreatDoor



