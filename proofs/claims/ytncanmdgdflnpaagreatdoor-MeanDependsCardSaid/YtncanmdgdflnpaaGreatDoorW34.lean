import Derived.Deep.OwnRows
import Derived.Test.YtncanmdgdflnpaaGreatDoorW33
namespace Go.Proofs.YtncanmdgdflnpaaGreatDoor
open Go.ChangeShapes Go.WideShapes Go.ChangeAt Go.RowKit Go.Lib
open _root_.Go.Proofs.Tryz
set_option linter.all false
set_option maxRecDepth 100000
set_option maxHeartbeats 32000000
theorem VOk.wf {t v:Int} (h:VOk t v):wf64 v:=by
 unfold wf64
 rcases h with ⟨_,h1,h2⟩ | ⟨_,h | h⟩ <;> omega
theorem Jgd (k:Int) (hk:6≤k∧k≤15) (vs:List Int) (av:Value) (p:Nat) (w:World) (hi:IntsAt w p av vs) (hl:vs.length=ar0 k) (hw:∀ v∈vs,wf64 v) (h7:k=7→vs.getD 0 0=0∨vs.getD 0 0=1) (u:Nat) :
  Calls prog 82 #[.int .i64 k,av] w (MopP w (operI k (vs.getD 0 0) (vs.getD 1 0) u)):=by
 have hpos:1≤vs.length:=by
  rw[hl];unfold ar0;rw[if_neg (by omega)];split
  ·omega
  ·split <;> omega
 rcases hi with ⟨e1,_⟩ | ⟨g,o,cc,hav,_,_,_,hc⟩
 ·rw[e1] at hpos; simp at hpos
 have ha:vs[0]?=some (vs.getD 0 0):=by
  rw[List.getD_eq_getElem?_getD,List.getElem?_eq_getElem (by omega)]; rfl
 have c0:=hc 0 _ ha;rw[Nat.add_zero] at c0;have hwa:=hw _ (List.mem_of_getElem? ha)
 by_cases h6:k=6
 ·subst h6; exact Jjl av g o _ cc _ _ w hav hpos c0 hwa u
 by_cases h7':k=7
 ·subst h7'; exact Jjm av g o _ cc _ _ w hav hpos c0 (h7 rfl) u
 have h2:2≤vs.length:=by rw[hl]; unfold ar0; rw[if_neg (by omega),if_neg (by omega),if_neg (by omega)]; omega
 have hb:vs[1]?=some (vs.getD 1 0):=by
  rw[List.getD_eq_getElem?_getD,List.getElem?_eq_getElem (by omega)]; rfl
 have c1:=hc 1 _ hb;have hwb:=hw _ (List.mem_of_getElem? hb);have hks:k=8∨k=9∨k=10∨k=11∨k=12∨k=13∨k=14∨k=15:=by omega
 rcases hks with rfl | rfl | rfl | rfl | rfl | rfl | rfl | rfl
 ·exact Jjj av g o _ cc _ _ w hav h2 c0 c1 hwa hwb u
 ·exact Jjk av g o _ cc _ _ w hav h2 c0 c1 hwa hwb u
 ·exact JhC av g o _ cc _ _ w hav h2 c0 c1 hwa hwb u
 ·exact JhD av g o _ cc _ _ w hav h2 c0 c1 hwa hwb u
 ·exact JhE av g o _ cc _ _ w hav h2 c0 c1 hwa hwb u
 ·exact JhF av g o _ cc _ _ w hav h2 c0 c1 hwa hwb u
 ·exact JhG av g o _ cc _ _ w hav h2 c0 c1 hwa hwb u
 ·exact JhH av g o _ cc _ _ w hav h2 c0 c1 hwa hwb u
def CallAt (K:RunK) (c d:Nat):Prop:=∀ (n:Int) (args:List Int) (av:Value) (f:SigM) (W:World) (u:Nat),0≤n→K.r.sigs[n.toNat]?=some f→VsOk f.params args→u≤10000→MrAt K W u c→IntsAt W K.p av args→
 Calls prog 81 #[.pointer (some ⟨K.p,0,none⟩),.int .i64 n,av] W (EvP K W c (callD K.r.funcs K.F d n args u))
theorem MrAt.setO {K:RunK} (hk:K.Ok) {W:World} {u c:Nat} (h:MrAt K W u c) {b:Nat} (hb:b≠K.p) (h0:K.w0.heap.size≤b) (j:Nat) (v:Value):MrAt K (W.setCell ⟨b,j,none⟩ v) u c:=
 ⟨Jh h.self (by simpa using hb.symm) _,Below.setCell h.bel h0 _⟩
structure LpI (K:RunK) (c d:Nat) (vars types:List Int) (u:Nat) (l:List Exp) (w1:World) (kb:Nat) (i:Nat) (vs:List Int) (ui:Nat) (W:World):Prop where
 mr:MrAt K W ui c
 chg:Chg [K.p] w1 W
 row:∃ A:Array Value,W.heap[kb]?=some (.cells A 3 (0,0))∧A.size=l.length∧∀ (j:Nat) (v:Int),vs[j]?=some v→A[j]?=some (Value.int .i64 v)
 ev:evKL K d vars u l=(evKL K d vars ui (l.drop i)).bind fun ws u''=>.val (vs++ws) u''
 len:vs.length=i
 ok:∀ (j:Nat) (v:Int) (y:Exp),vs[j]?=some v→l[j]?=some y→VOk (ofN K.r.sigs types (utN y)).1 v
 us:ui≤10000
theorem LpI.ints {K:RunK} {c d:Nat} {vars types:List Int} {u:Nat} {l:List Exp} {w1:World} {kb:Nat} {vs:List Int} {ui:Nat} {W:World} (h:LpI K c d vars types u l w1 kb l.length vs ui W) (hb:kb≠K.p):IntsAt W K.p (.slice (some ⟨kb,0,none⟩) l.length l.length) vs:=by
 obtain ⟨A,h1,h2,h3⟩:=h.row;refine .inr ⟨kb,0,l.length,by rw[h.len],by rw[h.len]; exact Nat.le_refl _,hb,Jb h1,fun j v hj=>?_⟩;rw[Nat.zero_add,Ja h1];exact h3 j v hj
theorem LpI.step {K:RunK} (hk:K.Ok) {c d:Nat} {vars types:List Int} {u:Nat} {l:List Exp} {w1 w5 w6:World} {kb:Nat} {i:Nat} {vs:List Int} {ui:Nat} {W:World} (h:LpI K c d vars types u l w1 kb i vs ui W) (h5:Below W.heap.size W w5) {y:Exp} (hy:l[i]?=some y) {v:Int} {u6:Nat}
  (he:evK K d vars ui y=.val v u6) (hv:VOk (ofN K.r.sigs types (utN y)).1 v) (hu:u6≤10000) (hm:MrAt K w6 u6 c) (hc:Chg [K.p] w5 w6) (hb:kb≠K.p) (hb1:w1.heap.size≤kb) (hb0:K.w0.heap.size≤kb) :
  LpI K c d vars types u l w1 kb (i+1) (vs++[v]) u6 (w6.setCell ⟨kb,i,none⟩ (.int .i64 v)):=by
 obtain ⟨A,g1,g2,g3⟩:=h.row;have hi:i<l.length:=(List.getElem?_eq_some_iff.1 hy).1;have hyi:l[i]=y:=(List.getElem?_eq_some_iff.1 hy).2;have h6:w6.heap[kb]?=some (.cells A 3 (0,0)):=hc.heap_some (by simpa using hb) ((h5.block _ (Jb g1)).trans g1);refine ⟨hm.setO hk hb hb0 _ _,((h.chg.trans (Chg.of_below h5 [K.p])).trans hc).setCell (.inr hb1) _,⟨A.setIfInBounds i (.int .i64 v),?_,by simpa using g2,fun j x hj=>?_⟩,?_,by rw[List.length_append,h.len]; rfl,fun j x z hj hz=>?_,hu⟩
 ·rw[JC h6]
 ·by_cases hji:j<vs.length
  ·rw[List.getElem?_append_left hji] at hj;have:=h.len;rw[Array.getElem?_setIfInBounds_ne (by omega)];exact g3 j x hj
  ·have hlt:=(List.getElem?_eq_some_iff.1 hj).1;rw[List.length_append,List.length_singleton] at hlt;have hje:j=i:=by have:=h.len; omega
   subst hje;rw[List.getElem?_append_right (by omega),h.len,Nat.sub_self] at hj;obtain rfl:v=x:=by simpa using hj
   rw[Array.getElem?_setIfInBounds_self_of_lt (by rw[g2]; exact hi)]
 ·rw[h.ev,List.drop_eq_getElem_cons hi,hyi,Jbp,he];simp only[RN.bind_val]
  cases evKL K d vars u6 (l.drop (i+1)) with
  | fault er u9=>rfl
  | val ws u9=>simp[RN.bind_val]
 ·by_cases hji:j<vs.length
  ·rw[List.getElem?_append_left hji] at hj;exact h.ok j x z hj hz
  ·have hlt:=(List.getElem?_eq_some_iff.1 hj).1;rw[List.length_append,List.length_singleton] at hlt;have hje:j=i:=by have:=h.len; omega
   subst hje;rw[List.getElem?_append_right (by omega),h.len,Nat.sub_self] at hj;obtain rfl:v=x:=by simpa using hj
   rw[hy] at hz;obtain rfl:=Option.some.inj hz;exact hv
theorem LpI.fault {K:RunK} {c d:Nat} {vars types:List Int} {u:Nat} {l:List Exp} {w1:World} {kb:Nat} {i:Nat} {vs:List Int} {ui:Nat} {W:World} (h:LpI K c d vars types u l w1 kb i vs ui W) {y:Exp} (hy:l[i]?=some y) {er:Int} {u6:Nat} (he:evK K d vars ui y=.fault er u6):evKL K d vars u l=.fault er u6:=by
 have hi:i<l.length:=(List.getElem?_eq_some_iff.1 hy).1;have hyi:l[i]=y:=(List.getElem?_eq_some_iff.1 hy).2;rw[h.ev,List.drop_eq_getElem_cons hi,hyi,Jbp,he];rfl
theorem LpI.fin {K:RunK} {c d:Nat} {vars types:List Int} {u:Nat} {l:List Exp} {w1:World} {kb:Nat} {vs:List Int} {ui:Nat} {W:World} (h:LpI K c d vars types u l w1 kb l.length vs ui W):evKL K d vars u l=.val vs ui:=by
 rw[h.ev,List.drop_length,JhL,RN.bind_val,List.append_nil]
theorem madeInt (n:Nat) (hn:n≤1000000000) (W:World):(Instr.makeSlice 55 (.int .i64 (n:Int)) (.int .i64 (n:Int))).run prog W=.ok (.slice (some ⟨W.heap.size,0,none⟩) n n) (W.alloc (.cells (madeCells #[.int .i64 0] n) 3)):=
 run_make_row' 55 3 (.int .i64 0) 8 underlying55 infoIntQ rfl .i64 .i64 n (by omega) (by omega) W
theorem Jef {fs:List SigM} {types:List Int} {k nn:Int} {s:List UInt8} {l:List Exp} {t:Int} (h:ofN fs types (utN (.mk k nn s l))=(t,[])) (h7:k=7):∀ y∈l,(ofN fs types (utN y)).1=1:=by
 subst h7;rw[utN,YX] at h;simp at h;have h2:=Ko h.2;clear h
 induction l with
 | nil=>intro y hy; cases hy
 | cons a l ih=>
  intro y hy;rw[utL,List.length_cons,List.replicate_succ] at h2
  rcases List.mem_cons.1 hy with rfl | hy
  ·rw[h2.1]
  ·exact ih h2.2 y hy
theorem Jeg {fs:List SigM} {types:List Int} {nn:Int} {s:List UInt8} {l:List Exp} {t:Int} (h:ofN fs types (utN (.mk 20 nn s l))=(t,[])):l.length=(fs.getD nn.toNat ⟨[],0⟩).params.length∧∀ (j:Nat) (y:Exp) (p:Int),l[j]?=some y→(fs.getD nn.toNat ⟨[],0⟩).params[j]?=some p→(ofN fs types (utN y)).1=p:=by
 obtain ⟨f,hf⟩:∃ f,fs.getD nn.toNat ⟨[],0⟩=f:=⟨_,rfl⟩
 rw[utN,YX,if_neg (by decide),if_neg (by decide),if_neg (by decide),if_neg (by decide),if_neg (by decide),if_neg (by decide),if_neg (by decide),if_neg (by decide),if_neg (by decide),if_pos rfl] at h;simp only[hf,Prod.mk.injEq,List.append_eq_nil_iff] at h;rw[hf];obtain ⟨_,h1,h2⟩:=h;rw[JR] at h1 h2;generalize f.params=ps at *
 have h1':l.length=ps.length:=by
  split at h1
  ·cases h1
  ·rename_i hc;exact Classical.not_not.1 hc
 refine ⟨h1',?_⟩;have h2':argL fs types true ps (utL l)=[]:=by rw[← h2,h1',beq_self_eq_true]
 have h3:=Jcj (by rw[JR]; exact h1') h2';clear h1 h1' h2 h2'
 induction l generalizing ps with
 | nil=>intro j y p hj; simp at hj
 | cons a l ih=>
  intro j y p hj hp;rw[utL] at h3
  cases ps with
  | nil=>exact h3.elim
  | cons q ps=>
   cases j with
   | zero=>
    obtain rfl:a=y:=by simpa using hj
    obtain rfl:q=p:=by simpa using hp
    rw[h3.1]
   | succ j=>exact ih ps h3.2 j y p (by simpa using hj) (by simpa using hp)
def RN.used {α:Type}:RN α→Nat
 | .fault _ u=>u
 | .val _ u=>u
theorem Jjz {k a b:Int} {u:Nat}:(operI k a b u).used=u:=by
 unfold operI
 repeat' split
 all_goals rfl
theorem Y7 (K:RunK) (hk:K.Ok) (c d n:Nat) (IH:EvAt K c d n) (HCA:CallAt K c d) (k nn:Int) (s:List UInt8) (l:List Exp) (cs:Array Value) (vars types:List Int) (vv:Value) (nest:Nat) (t:Int) (W:World) (u:Nat) (hn:sizL (utL l)≤n) (h:EvH K c (.mk k nn s l) cs vars types vv nest t W u)
  (hkk:(6≤k∧k≤15)∨k=20) :
  Calls prog 42 #[.pointer (some ⟨K.p,0,none⟩),.agg cs,vv] W (EvP K W c (evK K d vars u (.mk k nn s l))):=by
 obtain ⟨ad,cc,rfl,hcc,hK⟩:=h.x.kids;obtain ⟨va,vc,rfl⟩:=h.ints.form';obtain ⟨X,hX⟩:∃ X,evK K d vars u (.mk k nn s l)=X:=⟨_,rfl⟩
 rw[hX];have hEK:(6≤k∧k≤15)→X=(evKL K d vars u l).bind fun vs u'=>operI k (vs.getD 0 0) (vs.getD 1 0) u':=fun h=>by rw[← hX,JhN _ _ _ _ _ _ _ _ h]
 have hEC:k=20→X=(evKL K d vars u l).bind fun vs u'=>callD K.r.funcs K.F d nn vs u':=fun h=>by rw[← hX,h,JhM]
 have HX:=Zh hX;have hb1:Below W.heap.size W (W.alloc (.cells #[.int .i64 k,.int .i64 nn,.string (bs s),.slice ad l.length cc] 50)):=zzb.alloc zzl _;have HM1:=Zh (h.at'.up hb1);have HC1:Hid (Chg [K.p] W (W.alloc (.cells #[.int .i64 k,.int .i64 nn,.string (bs s),.slice ad l.length cc] 50))):=Chg.of_below hb1 [K.p];have HCP:=Zh (zzw W (.cells #[.int .i64 k,.int .i64 nn,.string (bs s),.slice ad l.length cc] 50));have HNE:Hid (W.heap.size≠K.p):=by have:=h.at'.lt; unfold Hid; omega
 have HH:=Zh h;have HKD:=Zh hK;have HIH:=Zh IH;have HN:=Zh hn;have HEK:=Zh hEK;have HEC:=Zh hEC;have HKK:=Zh hkk;have HCL:=Zh HCA;have e0:(k==0)=false:=zzq (by omega);have e1:(k==1)=false:=zzq (by omega);have e2:(k==2)=false:=zzq (by omega);have e3:(k==3)=false:=zzq (by omega);have e4:(k==4)=false:=zzq (by omega);have e5:(k==5)=false:=zzq (by omega);have e16:(k==16)=false:=zzq (by omega);have e17:(k==17)=false:=zzq (by omega);have e18:(k==18)=false:=zzq (by omega);have e19:(k==19)=false:=zzq (by omega);have hll:l.length≤900000000:=by have:=Jfw l; have:=h.sz; rw[utN,JA] at this; omega
 have hmk:=madeInt l.length (by omega);clear hb1 h hK hX IH hn hEK hEC hkk HCA;go_enter func42,ntmps42;go_upto_region 1 with fail;generalize World.alloc W _=w1 at *;generalize W.heap.size=eb at *
 have FF:Hid (∀ W',Chg [K.p] w1 W'→W'.cell? ⟨eb,0,none⟩=some (.int .i64 k)∧W'.cell? ⟨eb,1,none⟩=some (.int .i64 nn)∧W'.cell? ⟨eb,2,none⟩=some (.string (bs s))∧W'.cell? ⟨eb,3,none⟩=some (.slice ad l.length cc)):=by
  exact wx27
 have HKX:Hid (∀ W',Chg [K.p] w1 W'→Bel K.w0 W'):=fun W' hW=>AtMv HM1.out.bel hk.num hW
 obtain ⟨b0,b1,b2,b3⟩:=FF.out _ (Chg.refl _ _);have HW1:Hid (w1.heap.size=w1.heap.size):=rfl;go_upto_region 29 with fail
 have HLP:Hid (LpI K c d vars types u l w1 w1.heap.size 0 [] u (w1.alloc (.cells (madeCells #[.int .i64 0] l.length) 3))):=by
  have hb2:Below w1.heap.size w1 (w1.alloc (.cells (madeCells #[.int .i64 0] l.length) 3)):=zzb.alloc zzl _;refine ⟨HM1.out.up hb2,Chg.of_below hb2 [K.p],⟨_,zzw w1 _,?_,fun j v hj=>by simp at hj⟩,?_,rfl,fun j v y hj=>by simp at hj,HH.out.us⟩
  ·rw[size_madeCells]
  ·rw[List.drop_zero]
   cases evKL K d vars u l with
   | fault er u9=>rfl
   | val ws u9=>simp[RN.bind_val]
 have HKB:Hid (w1.heap.size≠K.p∧w1.heap.size≤w1.heap.size∧K.w0.heap.size≤w1.heap.size):=⟨by have:=HM1.out.lt; omega,Nat.le_refl _,HM1.out.bel.size⟩
 clear b0 b1 b2 b3 hmk HW1;generalize World.alloc w1 _=w2 at *;obtain ⟨kb,hkb⟩:∃ kb,w1.heap.size=kb:=⟨_,rfl⟩
 have HKB2:Hid (kb≠K.p∧w1.heap.size≤kb∧K.w0.heap.size≤kb):=by have:=HKB.out; unfold Hid; omega
 rw[hkb] at HLP ⊢;clear HKB hkb;obtain ⟨b0,b1,b2,b3⟩:=FF.out _ HLP.out.chg;go_wp2_with fail;clear b0 b1 b2 b3;go_loopg [132] l.length (fun g v132 wr=>∃ i:Nat,g+i=l.length∧v132=.int .i64 i∧Hid (∃ vs ui,LpI K c d vars types u l w1 kb i vs ui wr))
 case atStart=>exact ⟨0,rfl,rfl,_,_,HLP.out⟩
 case round=>
 clear HLP;obtain ⟨wl,rfl⟩:∃ wl:World,wl=wr:=⟨_,rfl⟩
 obtain ⟨i,hg,rfl,hlp⟩:=hrel;obtain ⟨vs,ui,hlp2⟩:=hlp.out;clear hlp
 by_cases hi:i<l.length
 ·have hil:(i:Int)<(l.length:Int):=by omega
  obtain ⟨y,hy⟩:∃ y,l[i]?=some y:=⟨l[i],List.getElem?_eq_getElem hi⟩
  obtain ⟨b,o,had,hbl,hkd⟩:=HKD.out.at0 (List.ne_nil_of_mem (List.mem_of_getElem? hy));obtain ⟨dy,cy,hxy,hfy⟩:=hkd i y hy;obtain ⟨k0,k1,k2,k3⟩:=hfy _ (HKX.out _ hlp2.chg);have wk:IntKind.i64.wrap ((i:Int)+1)=(i:Int)+1:=IntWalk.i64_in _ (by omega);have hb5:Below wl.heap.size wl (wl.alloc (.cells #[.int .i64 y.kind,.int .i64 y.num,.string (bs y.name),.slice dy y.kids.length cy] 50)):=zzb.alloc zzl _;have h19:k≠19:=by have:=HKK.out; omega
  have hHy:=HH.out.kid h19 (i:=i) (y:=y) hy hxy (hlp2.mr.up hb5) (HC1.out.trans (hlp2.chg.trans (Chg.of_below hb5 [K.p]))) hlp2.us;have HO:=Zh (hHy.ok hk d);have ci:=HIH.out y _ vars types _ _ _ (wl.alloc (.cells #[.int .i64 y.kind,.int .i64 y.num,.string (bs y.name),.slice dy y.kids.length cy] 50)) ui (by have:=HN.out; have:=KE (l:=l) (y:=y) (List.mem_of_getElem? hy); omega) hHy;have HLP:=Zh hlp2;have HB5:=Zh hb5;have HY:=Zh hy;have HG:=Zh hg;subst had;clear hHy hb5 hlp2 hy hg hxy hfy hkd hbl h19;go_wp2_with fail;refine ci.mono ?_;clear ci k0 k1 k2 k3
  cases hz:evK K d vars ui y with
  | fault er u6=>
   rintro e w6 ⟨rfl,hm6,hc6⟩;refine ⟨rfl,?_⟩;have hf:=HLP.out.fault HY.out hz
   have hfin:X=.fault er u6:=by
    rcases HKK.out with h | h
    ·rw[HEK.out h,hf]; rfl
    ·rw[HEC.out h,hf]; rfl
   rw[hfin];exact ⟨rfl,hm6,HC1.out.trans (HLP.out.chg.trans ((Chg.of_below HB5.out [K.p]).trans hc6))⟩
  | val v u6=>
   rintro e w6 ⟨rfl,hm6,hc6⟩;have hok:=HO.out;rw[hz] at hok;obtain ⟨hu1,hu2,hvo⟩:=hok;have HST:=Zh (HLP.out.step hk HB5.out HY.out hz hvo hu2 hm6 hc6 HKB2.out.1 HKB2.out.2.1 HKB2.out.2.2);obtain ⟨A,g1,g2,g3⟩:=HLP.out.row;have h6:w6.heap[kb]?=some (.cells A 3 (0,0)):=hc6.heap_some (by simpa using HKB2.out.1) ((HB5.out.block _ (Jb g1)).trans g1);have hlt6:=Jb h6;have f6:=Jc h6 i;obtain ⟨xi,q6⟩:∃ xi,w6.cell? ⟨kb,i,none⟩=some xi:=⟨_,(Ja h6 i).trans (Array.getElem?_eq_getElem (by rw[g2]; exact hi))⟩
   have HHI:=Zh hi;clear g1 g2 g3 h6 hu1 hu2 hvo hz hm6 hc6 HO HLP HB5 hi;go_wp2;go_roundg (l.length-(i+1))
   case measure=>have:=HG.out; have:=HHI.out; omega
   case rel=>exact ⟨i+1,by have:=HHI.out; omega,by go_num,_,_,HST.out⟩
 have hil:¬ (i:Int)<(l.length:Int):=by omega
 obtain rfl:i=l.length:=by omega
 have HLP:=Zh hlp2;obtain ⟨b0,b1,b2,b3⟩:=FF.out _ hlp2.chg;clear hi hg hlp2
 by_cases h20:k=20
 ·have e20:(k==20)=true:=beq_iff_eq.2 h20;have hEC:=HEC.out h20;rw[HLP.out.fin,RN.bind_val] at hEC;have HXF:=Zh hEC;have hty:=HH.out.ty;rw[h20] at hty;have hct:=Jeg hty
  have hnn:0≤nn∧nn<(K.r.sigs.length:Int):=by
   obtain ⟨_,hf,_,_⟩:=J6 HH.out.fit;rw[h20] at hf;unfold fieldsB at hf;rw[K6] at hf;simp at hf;exact hf.1
  obtain ⟨f,hf⟩:=Jft hnn.1 hnn.2;have hfd:K.r.sigs.getD nn.toNat ⟨[],0⟩=f:=by rw[List.getD_eq_getElem?_getD,hf]; rfl
  rw[hfd] at hct
  have hvs:VsOk f.params vs:=by
   refine ⟨by rw[HLP.out.len]; exact hct.1.symm,fun j p v hp hv=>?_⟩;have hj:j<l.length:=by rw[hct.1]; exact (List.getElem?_eq_some_iff.1 hp).1
   have:=HLP.out.ok j v l[j] hv (List.getElem?_eq_getElem hj);rw[hct.2 j l[j] p (List.getElem?_eq_getElem hj) hp] at this;exact this
  have cc9:=HCL.out nn vs _ f wl ui hnn.1 hf hvs HLP.out.us HLP.out.mr (HLP.out.ints HKB2.out.1);clear h20 hEC hty hct hnn hf hfd hvs;go_wp2_with fail;refine cc9.mono ?_;clear cc9 b0 b1 b2 b3;intro e w9 h9;rw[← HXF.out] at h9;have h10:=EvP.back (HC1.out.trans HLP.out.chg) h9;clear h9
  cases X with
  | fault er u9=>
   obtain ⟨rfl,h11⟩:=h10;refine ⟨rfl,?_⟩;exact ⟨rfl,h11⟩
  | val v9 u9=>
   obtain ⟨rfl,h11⟩:=h10;have H11:=Zh h11;clear h11;go_wp2;go_ret;exact ⟨rfl,H11.out⟩
 ·have e20:(k==20)=false:=zzq h20;have hko:6≤k∧k≤15:=by have:=HKK.out; omega
  have hEK:=HEK.out hko;rw[HLP.out.fin,RN.bind_val] at hEK;have HXF:=Zh hEK;have hal:l.length=ar0 k:=(Jih HH.out.fit).2 h20;have hty:=HH.out.ty
  have cc9:=Jgd k hko vs _ K.p wl (HLP.out.ints HKB2.out.1) (by rw[HLP.out.len]; exact hal) (fun v hv=>by
   obtain ⟨j,hj⟩:=List.getElem?_of_mem hv;have hjl:j<l.length:=by have:=HLP.out.len; have:=(List.getElem?_eq_some_iff.1 hj).1; omega
   exact (HLP.out.ok j v l[j] hj (List.getElem?_eq_getElem hjl)).wf) (fun h7=>by
   have hl1:l.length=1:=by rw[hal,h7]; rfl
   have hv0:vs[0]?=some (vs.getD 0 0):=by
    rw[List.getD_eq_getElem?_getD,List.getElem?_eq_getElem (by have:=HLP.out.len; omega)]; rfl
   have hy0:l[0]?=some (l[0]'(by omega)):=List.getElem?_eq_getElem _;have:=HLP.out.ok 0 _ _ hv0 hy0;rw[Jef hty h7 _ (List.mem_of_getElem? hy0)] at this
   exact JdT this) ui
  clear h20 hEK hko hty hal;go_wp2_with fail;refine cc9.mono ?_;clear cc9 b0 b1 b2 b3;intro e w9 h9;rw[← HXF.out] at h9;have hui:=Jjz (k:=k) (a:=vs.getD 0 0) (b:=vs.getD 1 0) (u:=ui);rw[← HXF.out] at hui
  cases X with
  | fault er u9=>
   obtain ⟨rfl,h11⟩:=h9;obtain rfl:u9=ui:=hui;refine ⟨rfl,?_⟩;exact ⟨rfl,⟨c,HLP.out.mr.up h11⟩,HC1.out.trans (HLP.out.chg.trans (Chg.of_below h11 [K.p]))⟩
  | val v9 u9=>
   obtain ⟨rfl,h11⟩:=h9;obtain rfl:u9=ui:=hui;have H11:Hid (MrAt K w9 u9 c∧Chg [K.p] W w9):=⟨HLP.out.mr.up h11,HC1.out.trans (HLP.out.chg.trans (Chg.of_below h11 [K.p]))⟩
   clear h11;go_wp2;go_ret;exact ⟨rfl,H11.out⟩
theorem Jge (K:RunK) (hk:K.Ok):CallAt K 100 0:=by
 intro n args av f W u h0 hf hv hu hm hi;obtain ⟨X,hX⟩:∃ X,callD K.r.funcs K.F 0 n args u=X:=⟨_,rfl⟩
 rw[hX];have hq:X=if u=10000 then .fault 14 u else .fault 7 (u+1):=by rw[← hX]; rfl
 have HQ:=Zh hq;have cs:=Y2 K hk W u 100 hm hu;have HM:=Zh hm;clear hX hq hi hv hf hm;go_enter func81,ntmps81;go_wp2_with fail;refine cs.mono ?_;intro e w2 h2;unfold StepP at h2
 by_cases h:u=10000
 ·rw[if_pos h] at h2;obtain ⟨rfl,rfl⟩:=h2;refine ⟨rfl,?_⟩;rw[HQ.out,if_pos h];exact ⟨rfl,⟨100,HM.out⟩,Chg.refl _ _⟩
 ·rw[if_neg h] at h2;have HQ2:Hid (X=.fault 7 (u+1)):=by rw[Hid,HQ.out,if_neg h]
  obtain ⟨rfl,hm2,hc2⟩:=h2;have b16:w2.cell? ⟨K.p,16,none⟩=some (.int .i64 100):=Ja hm2.self 16;have HM2:=Zh hm2;have HC2:=Zh hc2;clear hm2 hc2 cs HQ h;go_wp2;refine ⟨rfl,?_⟩;rw[HQ2.out];exact ⟨rfl,⟨100,HM2.out⟩,HC2.out⟩
theorem Jgf (K:RunK) (hk:K.Ok) (c d:Nat) (hcd:c+(d+1)=100) (IH:∀ n,EvAt K (c+1) d n):CallAt K c (d+1):=by
 intro n args av f W u h0 hf hv hu hm hi;obtain ⟨X,hX⟩:∃ X,callD K.r.funcs K.F (d+1) n args u=X:=⟨_,rfl⟩
 rw[hX];have hq:X=if u=10000 then .fault 14 u else evK K d args (u+1) (K.r.funcs.getD n.toNat noFn).body:=by rw[← hX]; rfl
 obtain ⟨i,rfl⟩:∃ i:Nat,n=i:=⟨n.toNat,by omega⟩
 rw[Int.toNat_natCast] at hf hq;obtain ⟨g,hg,hgm,e1,e2⟩:=Jig hf;have hgd:K.r.funcs.getD i noFn=g:=by rw[List.getD_eq_getElem?_getD,hg]; rfl
 rw[hgd] at hq;rw[e1] at hv;have hil:(i:Int)<(K.r.funcs.length:Int):=by have:=(List.getElem?_eq_some_iff.1 hg).1; omega
 obtain ⟨b,o,pa,pc,da,dc,hfa,hfc⟩:=hk.fns.get hg;obtain ⟨_,hpl,hnm,hsz⟩:=hk.rsz.fn g hgm
 have hev:∀ w',MrAt K w' (u+1) (c+1)→Chg [K.p] W w'→u+1≤10000→EvH K (c+1) g.body #[.int .i64 g.body.kind,.int .i64 g.body.num,.string (bs g.body.name),.slice da g.body.kids.length dc] args g.params av 40 g.result w' (u+1):=fun w' h1 h2 h3=>
  ⟨hnm,by have:=hv.1; omega,hfc.body,JfD hk.tr hgm,Jdc hk.ty hgm,hv,h3,h1,hi.chg h2⟩
 have HEV:=Zh hev;have HQ:=Zh hq;have HIH:=Zh IH;have HFC:=Zh hfc;have hfa2:K.fa=some ⟨b,o,none⟩:=hfa;have HFA:=Zh hfa2;have cs:=Y2 K hk W u c hm hu;have HM:=Zh hm;obtain ⟨va,vc,rfl⟩:=hi.form';clear hX hq hi hv hf hm hg hgm e1 e2 hgd hfa hfc hfa2 hev hnm hsz hpl IH;go_enter func81,ntmps81;go_wp2_with fail;refine cs.mono ?_;intro e w2 h2;unfold StepP at h2
 by_cases h:u=10000
 ·rw[if_pos h] at h2;obtain ⟨rfl,rfl⟩:=h2;refine ⟨rfl,?_⟩;rw[HQ.out,if_pos h];exact ⟨rfl,⟨c,HM.out⟩,Chg.refl _ _⟩
 ·rw[if_neg h] at h2;obtain ⟨rfl,hm2,hc2⟩:=h2;have b16:w2.cell? ⟨K.p,16,none⟩=some (.int .i64 c):=Ja hm2.self 16;have f16:=Jc hm2.self 16;have hlt:=hm2.lt;have e100:((c:Int)==100)=false:=zzq (by omega);have e100N:(c==100)=false:=zzq (by omega);have wc:IntKind.i64.wrap ((c:Int)+1)=(c:Int)+1:=IntWalk.i64_in _ (by omega);have hm3:=hm2.setC hk (c+1);have hc3:Chg [K.p] W (w2.setCell ⟨K.p,16,none⟩ (.int .i64 ((c+1:Nat):Int))):=hc2.setCell (.inl (by simp)) _;rw[Int.natCast_add,Int.natCast_one] at hm3 hc3;have HM3:=Zh hm3;have HC3:=Zh hc3;have hu1:u+1≤10000:=by omega
  have HQ2:Hid (X=evK K d args (u+1) g.body):=by rw[Hid,HQ.out,if_neg h]
  have HU:=Zh hu1;clear hm2 hc2 hm3 hc3 cs HQ h hu1;go_upto_region 5 with fail;clear b16 f16 hlt e100 e100N;generalize World.setCell w2 _ _=w3 at *;have b0:w3.cell? ⟨K.p,0,none⟩=some (.slice K.fa K.r.funcs.length K.fc):=Ja HM3.out.self 0;rw[HFA.out] at b0;have hk7:∀ j u,K.w0.cell? ⟨b,o+i*7+j,none⟩=some u→w3.cell? ⟨b,o+i*7+j,none⟩=some u:=fun j u hu=>(HM3.out.bel.cell (p:=⟨b,o+i*7+j,none⟩) HFC.out.blt).trans hu
  have c3:=hk7 3 _ HFC.out.c3;have c4:=hk7 4 _ HFC.out.c4;have c5:=hk7 5 _ HFC.out.c5;have c6:=hk7 6 _ HFC.out.c6;have hH:=HEV.out w3 HM3.out HC3.out HU.out;have HOK:=Zh (hH.ok hk d);have ci:=HIH.out _ g.body _ args g.params _ _ _ w3 (u+1) zzl hH;clear hk7 hH;go_wp2_with fail;refine ci.mono ?_;clear ci b0 c3 c4 c5 c6;rw[← HQ2.out]
  cases X with
  | fault er u9=>
   rintro e w9 ⟨rfl,hm9,hc9⟩;refine ⟨rfl,?_⟩;exact ⟨rfl,hm9,HC3.out.trans hc9⟩
  | val v9 u9=>
   rintro e w9 ⟨rfl,hm9,hc9⟩;have b16:w9.cell? ⟨K.p,16,none⟩=some (.int .i64 ((c:Int)+1)):=Ja hm9.self 16;have f16:=Jc hm9.self 16;have hlt:=hm9.lt;have wd:IntKind.i64.wrap ((c:Int)+1-1)=(c:Int):=by rw[IntWalk.i64_in _ (by omega)]; omega
   have hcc:(c:Int)+1-1=(c:Int):=by omega
   have HM9:=Zh (hm9.setC hk c);have HC9:Hid (Chg [K.p] W (w9.setCell ⟨K.p,16,none⟩ (.int .i64 c))):=(HC3.out.trans hc9).setCell (.inl (by simp)) _;clear hm9 hc9;go_wp2;go_ret;exact ⟨rfl,HM9.out,HC9.out⟩
theorem Jcs (K:RunK) (hk:K.Ok) (c d:Nat) (HC:CallAt K c d):∀ n,EvAt K c d n
 | 0=>fun e cs vars types vv nest t W u hn h=>by
  have:=KN (utN e);omega
 | n+1=>fun e cs vars types vv nest t W u hn h=>by
  have IH:=Jcs K hk c d HC n;obtain ⟨k,nn,s,l⟩:=e;have hn':sizL (utL l)≤n:=by rw[utN,JA] at hn; omega
  obtain ⟨_,hf,ha,_⟩:=J6 h.fit
  rcases Jbb hf with rfl | rfl | rfl | rfl | rfl | rfl | rfl | rfl | h8 | rfl | rfl | rfl | rfl | rfl | rfl
  ·exact Jjv K hk c d n IH nn s l cs vars types vv nest t W u hn' h
  ·exact JhO K hk c d n IH nn s l cs vars types vv nest t W u hn' h
  ·exact Jjw K hk c d n IH nn s l cs vars types vv nest t W u hn' h
  ·exact JhP K hk c d n IH nn s l cs vars types vv nest t W u hn' h
  ·exact Jgc K hk c d n IH nn s l cs vars types vv nest t W u hn' h
  ·exact JhQ K hk c d n IH nn s l cs vars types vv nest t W u hn' h
  ·exact Y7 K hk c d n IH HC 6 nn s l cs vars types vv nest t W u hn' h (.inl (by decide))
  ·exact Y7 K hk c d n IH HC 7 nn s l cs vars types vv nest t W u hn' h (.inl (by decide))
  ·exact Y7 K hk c d n IH HC k nn s l cs vars types vv nest t W u hn' h (.inl (by omega))
  ·exact Y7 K hk c d n IH HC 15 nn s l cs vars types vv nest t W u hn' h (.inl (by decide))
  ·obtain ⟨a,b,rfl⟩:=KD (show l.length=2 from ha);exact Jjx K hk c d n IH nn s a b cs vars types vv nest t W u hn' h
  ·obtain ⟨a,b,rfl⟩:=KD (show l.length=2 from ha);exact Jkp K hk c d n IH nn s a b cs vars types vv nest t W u hn' h
  ·obtain ⟨z,a,b,rfl⟩:=Zu (show l.length=3 from ha);exact Jkq K hk c d n IH nn s z a b cs vars types vv nest t W u hn' h
  ·obtain ⟨a,b,rfl⟩:=KD (show l.length=2 from ha);exact Jjy K hk c d n IH nn s a b cs vars types vv nest t W u hn' h
  ·exact Y7 K hk c d n IH HC 20 nn s l cs vars types vv nest t W u hn' h (.inr rfl)
theorem Jdl (K:RunK) (hk:K.Ok):∀ d c,c+d=100→CallAt K c d
 | 0,c,h=>by
  obtain rfl:c=100:=by omega
  exact Jge K hk
 | d+1,c,h=>Jgf K hk c d h (Jcs K hk (c+1) d (Jdl K hk d (c+1) (by omega)))
theorem Jgg (K:RunK) (hk:K.Ok) (e:Exp) (cs:Array Value) (vars types:List Int) (vv:Value) (nest:Nat) (t:Int) (W:World) (u:Nat) (h:EvH K 0 e cs vars types vv nest t W u) :
  Calls prog 42 #[.pointer (some ⟨K.p,0,none⟩),.agg cs,vv] W (EvP K W 0 (evN (callD K.r.funcs K.F 100) K.F vars u e)):=
 Jcs K hk 0 100 (Jdl K hk 100 0 rfl) _ e cs vars types vv nest t W u zzl h
theorem idx8 (x0 x1 x2 x3 x4 x5 x6 x7:Int):∀ (i:Nat) (v:Int),[x0,x1,x2,x3,x4,x5,x6,x7][i]?=some v→∀ W:World,(Instr.index 89 (.agg #[.int .i64 x0,.int .i64 x1,.int .i64 x2,.int .i64 x3,.int .i64 x4,.int .i64 x5,.int .i64 x6,.int .i64 x7]) (.int .i64 (i:Int))).run prog W=.ok (.int .i64 v) W
 | 0,v,h,W=>by obtain rfl:=Option.some.inj h; kernel_rfl
 | 1,v,h,W=>by obtain rfl:=Option.some.inj h; kernel_rfl
 | 2,v,h,W=>by obtain rfl:=Option.some.inj h; kernel_rfl
 | 3,v,h,W=>by obtain rfl:=Option.some.inj h; kernel_rfl
 | 4,v,h,W=>by obtain rfl:=Option.some.inj h; kernel_rfl
 | 5,v,h,W=>by obtain rfl:=Option.some.inj h; kernel_rfl
 | 6,v,h,W=>by obtain rfl:=Option.some.inj h; kernel_rfl
 | 7,v,h,W=>by obtain rfl:=Option.some.inj h; kernel_rfl
 | i+8,v,h,W=>by simp at h
def prevL (l:List (List UInt8 × Int)) (i:Nat):Option (List UInt8):=if i=0 then none else (l[i-1]?).map (·.1)
def prevW (l:List (List UInt8)) (i:Nat):Option (List UInt8):=if i=0 then none else l[i-1]?
theorem Jbq (p:Option (List UInt8)) (c:List UInt8 × Int) (l:List (List UInt8 × Int)):labelsB p (c::l)=(decide (1≤c.2)&&decide (c.2≤1125899906842624)&&(match p with | none=>true | some q=>ltB q c.1)&&labelsB (some c.1) l):=by
 cases p <;> rfl
theorem Jct (p:Option (List UInt8)) (c:List UInt8) (l:List (List UInt8)):wordsB p (c::l)=((match p with | none=>true | some q=>ltB q c)&&wordsB (some c) l):=by
 cases p <;> rfl
theorem Jgh {l:List (List UInt8 × Int)} {i:Nat} {a:List UInt8 × Int} {b:Bool} (h:labelsB (prevL l i) (l.drop i)=b) (hi:l[i]?=some a) :
  (decide (1≤a.2)&&decide (a.2≤1125899906842624)&&(match prevL l i with | none=>true | some q=>ltB q a.1)&&labelsB (prevL l (i+1)) (l.drop (i+1)))=b:=by
 obtain ⟨hlt,he⟩:=List.getElem?_eq_some_iff.1 hi;rw[List.drop_eq_getElem_cons hlt,he,Jbq] at h;have:prevL l (i+1)=some a.1:=by unfold prevL; rw[if_neg (by omega),Nat.add_sub_cancel,hi]; rfl
 rw[this];exact h
theorem Jeh {l:List (List UInt8)} {i:Nat} {a:List UInt8} {b:Bool} (h:wordsB (prevW l i) (l.drop i)=b) (hi:l[i]?=some a) :
  ((match prevW l i with | none=>true | some q=>ltB q a)&&wordsB (prevW l (i+1)) (l.drop (i+1)))=b:=by
 obtain ⟨hlt,he⟩:=List.getElem?_eq_some_iff.1 hi;rw[List.drop_eq_getElem_cons hlt,he,Jct] at h;have:prevW l (i+1)=some a:=by unfold prevW; rw[if_neg (by omega),Nat.add_sub_cancel,hi]
 rw[this];exact h
theorem wx97 {P:Prop}(h:P:=by
  go_wp2;go_roundg (F.labels.length-(i+1))
  case measure=>have:=HG.out; have:=HHI.out; omega
  case rel=>exact ⟨i+1,by have:=HHI.out; omega,by go_num,HBD,HST⟩):P:=h
theorem wx146 {P:Prop}(h:P:=by
  go_region;clear b0 b1 b2 b3 b4 b5 b6 b7 b8 b9 b10 b11 c0 c1;go_wp2;go_ret
  exact ⟨rfl,HFIN.out⟩):P:=h
theorem Vi (F:FactsM) (lv wv:Value) (w:World) (hz:FSz F) (hl:LabsAt w lv F.labels) (hw:WordsAt w wv F.words):Calls prog 15 #[.agg (factsC F lv wv)] w (BelP w (.bool (factsM F))):=by
 obtain ⟨la,lc,rfl,_⟩:=hl.form;obtain ⟨wa,wc,rfl,_⟩:=hw.form;obtain ⟨q,hq⟩:∃ q,factsM F=q:=⟨_,rfl⟩
 rw[hq];have HQ:Hid ((F.nums.all numB&&labelsB none F.labels&&wordsB none F.words)=q):=hq;unfold factsC;have hbA:Below w.heap.size w (w.alloc (.cells #[.slice la F.labels.length lc,.int .i64 F.likes,.int .i64 F.boosts,.int .i64 F.replies,.int .i64 F.reports,.int .i64 F.age,.int .i64 F.home,.int .i64 F.scope,.int .i64 F.length,.bool F.follows,.bool F.reply,.slice wa F.words.length wc] 25)):=zzb.alloc zzl _;have HCP:=Zh (zzw w (.cells #[.slice la F.labels.length lc,.int .i64 F.likes,.int .i64 F.boosts,.int .i64 F.replies,.int .i64 F.reports,.int .i64 F.age,.int .i64 F.home,.int .i64 F.scope,.int .i64 F.length,.bool F.follows,.bool F.reply,.slice wa F.words.length wc] 25));have HKX:Hid (∀ W,Below (w.alloc (.cells #[.slice la F.labels.length lc,.int .i64 F.likes,.int .i64 F.boosts,.int .i64 F.replies,.int .i64 F.reports,.int .i64 F.age,.int .i64 F.home,.int .i64 F.scope,.int .i64 F.length,.bool F.follows,.bool F.reply,.slice wa F.words.length wc] 25)).heap.size (w.alloc (.cells #[.slice la F.labels.length lc,.int .i64 F.likes,.int .i64 F.boosts,.int .i64 F.replies,.int .i64 F.reports,.int .i64 F.age,.int .i64 F.home,.int .i64 F.scope,.int .i64 F.length,.bool F.follows,.bool F.reply,.slice wa F.words.length wc] 25)) W→Bel w W):=fun W hW=>Je hbA hW
 have hlab:LabsAt (w.alloc (.cells #[.slice la F.labels.length lc,.int .i64 F.likes,.int .i64 F.boosts,.int .i64 F.replies,.int .i64 F.reports,.int .i64 F.age,.int .i64 F.home,.int .i64 F.scope,.int .i64 F.length,.bool F.follows,.bool F.reply,.slice wa F.words.length wc] 25)) (.slice la F.labels.length lc) F.labels:=hl.up hbA;have hwds:WordsAt (w.alloc (.cells #[.slice la F.labels.length lc,.int .i64 F.likes,.int .i64 F.boosts,.int .i64 F.replies,.int .i64 F.reports,.int .i64 F.age,.int .i64 F.home,.int .i64 F.scope,.int .i64 F.length,.bool F.follows,.bool F.reply,.slice wa F.words.length wc] 25)) (.slice wa F.words.length wc) F.words:=hw.up hbA;have HLA:=Zh hlab;have HWD:=Zh hwds;have hln:=hz.nl;have hwn:=hz.nw;have HX8:=Zh (idx8 F.likes F.boosts F.replies F.reports F.age F.home F.scope F.length);have HN8:Hid (F.nums=[F.likes,F.boosts,F.replies,F.reports,F.age,F.home,F.scope,F.length]):=rfl;clear hbA hl hw hq hz hlab hwds;go_enter func15,ntmps15;go_upto_region 1 with fail;have HEB:Hid (w.heap.size<(w.alloc (.cells #[.slice la F.labels.length lc,.int .i64 F.likes,.int .i64 F.boosts,.int .i64 F.replies,.int .i64 F.reports,.int .i64 F.age,.int .i64 F.home,.int .i64 F.scope,.int .i64 F.length,.bool F.follows,.bool F.reply,.slice wa F.words.length wc] 25)).heap.size):=Jb HCP.out;generalize World.alloc w _=w1 at *;generalize w.heap.size=eb at *
 have FF:Hid (∀ W,Below w1.heap.size w1 W→W.cell? ⟨eb,0,none⟩=some (.slice la F.labels.length lc)∧W.cell? ⟨eb,1,none⟩=some (.int .i64 F.likes)∧W.cell? ⟨eb,2,none⟩=some (.int .i64 F.boosts)∧W.cell? ⟨eb,3,none⟩=some (.int .i64 F.replies)∧W.cell? ⟨eb,4,none⟩=some (.int .i64 F.reports)∧W.cell? ⟨eb,5,none⟩=some (.int .i64 F.age)∧W.cell? ⟨eb,6,none⟩=some (.int .i64 F.home)∧W.cell? ⟨eb,7,none⟩=some (.int .i64 F.scope)∧W.cell? ⟨eb,8,none⟩=some (.int .i64 F.length)∧W.cell? ⟨eb,9,none⟩=some (.bool F.follows)∧W.cell? ⟨eb,10,none⟩=some (.bool F.reply)∧W.cell? ⟨eb,11,none⟩=some (.slice wa F.words.length wc)):=by
  intro W hW;have hh:=(hW.block _ HEB.out).trans HCP.out;refine ⟨?_,?_,?_,?_,?_,?_,?_,?_,?_,?_,?_,?_⟩ <;> (rw[Ja hh]; rfl)
 obtain ⟨b0,b1,b2,b3,b4,b5,b6,b7,b8,b9,b10,b11⟩:=FF.out _ zzb;go_wp2_with fail;clear b0 b1 b2 b3 b4 b5 b6 b7 b8 b9 b10 b11;go_loop [26] (fun v=>∃ k:Nat,v=.int .i64 k∧k≤8∧Hid ((F.nums.take k).all numB=true)) (fun v=>8-(intOf v).toNat)
 case atStart=>exact ⟨0,rfl,by omega,rfl⟩
 case round=>
 obtain ⟨k,rfl,hk,hal⟩:=hrel;have wk:IntKind.i64.wrap ((k:Int)+1)=(k:Int)+1:=IntWalk.i64_in _ (by omega)
 by_cases hk8:k<8
 ·have hkl:(k:Int)<8:=by omega
  obtain ⟨x,hx⟩:∃ x,F.nums[k]?=some x:=⟨F.nums[k]'(by rw[HN8.out]; exact hk8),List.getElem?_eq_getElem _⟩
  have hix:=HX8.out k x (by rw[← HN8.out]; exact hx);have HXX:=Zh hx;clear hx
  by_cases h0:0≤x
  ·have d0:decide (x<0)=false:=decide_eq_false (by omega)
   by_cases hM:x≤1125899906842624
   ·have dM:decide (1125899906842624<x)=false:=decide_eq_false (by omega);have HAL:=Zh (KK hal.out HXX.out (by unfold numB; rw[decide_eq_true h0,decide_eq_true hM]; rfl));clear hal HXX h0 hM;go_wp2;go_round
    case rel=>exact ⟨k+1,by go_num,hk8,HAL⟩
    case measure=>simp[intOf]; omega
   ·have dM:decide (1125899906842624<x)=true:=decide_eq_true (by omega);have hqf:q=false:=by rw[← HQ.out,KQ HXX.out (by unfold numB; rw[decide_eq_false hM]; simp)]; rfl
    subst hqf;have HFIN:=Zh (HKX.out _ zzb);clear hal HXX h0 hM;go_wp2;go_ret;exact ⟨rfl,HFIN.out⟩
  ·have d0:decide (x<0)=true:=decide_eq_true (by omega);have hqf:q=false:=by rw[← HQ.out,KQ HXX.out (by unfold numB; rw[decide_eq_false h0]; rfl)]; rfl
   subst hqf;have HFIN:=Zh (HKX.out _ zzb);clear hal HXX h0;go_wp2;go_ret;exact ⟨rfl,HFIN.out⟩
 have hkl:¬ (k:Int)<8:=by omega
 have hk8':k=8:=by omega
 subst hk8'
 replace HQ:Hid ((labelsB (prevL F.labels 0) (F.labels.drop 0)&&wordsB none F.words)=q):=by
  have h1:=HQ.out;have h2:=hal.out;rw[show F.nums.take 8=F.nums from rfl] at h2;rw[h2] at h1;exact h1
 clear hal hk8 hk HX8 HN8;obtain ⟨b0,b1,b2,b3,b4,b5,b6,b7,b8,b9,b10,b11⟩:=FF.out _ zzb;have HW0:Hid (Below w1.heap.size w1 w1):=Below.refl _ _;go_wp2_with fail;clear b0 b1 b2 b3 b4 b5 b6 b7 b8 b9 b10 b11 hkl wk;obtain ⟨lb,hlb⟩:∃ lb,labelsB (prevL F.labels 0) (F.labels.drop 0)=lb:=⟨_,rfl⟩
 have HLB:=Zh hlb;rw[hlb] at HQ;clear hlb;go_loopg [39] F.labels.length (fun g v39 wr=>∃ i:Nat,g+i=F.labels.length∧v39=.int .i64 i∧Hid (Below w1.heap.size w1 wr)∧Hid (labelsB (prevL F.labels i) (F.labels.drop i)=lb))
 case atStart=>exact ⟨0,rfl,rfl,HW0,HLB⟩
 case round=>
 clear HLB HW0;obtain ⟨wl,rfl⟩:∃ wl:World,wl=wr:=⟨_,rfl⟩
 obtain ⟨i,hg,rfl,hbw,hns⟩:=hrel
 by_cases hi:i<F.labels.length
 ·have hil:(i:Int)<(F.labels.length:Int):=by omega
  have wk:IntKind.i64.wrap ((i:Int)+1)=(i:Int)+1:=IntWalk.i64_in _ (by omega);obtain ⟨a,ha⟩:∃ a,F.labels[i]?=some a:=⟨F.labels[i],List.getElem?_eq_getElem hi⟩
  have hwl:=HLA.out.up hbw.out;obtain ⟨b,o,had,_,c0,c1⟩:=hwl.get ha;have hst:=Jgh hns.out ha;obtain ⟨nm,ct⟩:=a;dsimp only at c0 c1 hst;have HST:=Zh hst;have hb2:Below wl.heap.size wl (wl.alloc (.cells #[.string (bs nm),.int .i64 ct] 91)):=zzb.alloc zzl _;have HBX:=Zh (Je hbw.out hb2);have HNB:=Zh (zzw wl (.cells #[.string (bs nm),.int .i64 ct] 91));have HWL:=Zh (hwl.up hb2);have HG:=Zh hg;have HHI:=Zh hi;have HLAD:=Zh had;have hsub:=had;subst hsub;clear hst hwl hb2 hbw hg ha hns hi had;go_upto_region 10 with fail;clear c0 c1;have HE3:Hid (wl.heap.size<(wl.alloc (.cells #[.string (bs nm),.int .i64 ct] 91)).heap.size):=Jb HNB.out;generalize World.alloc wl _=w3 at *;generalize wl.heap.size=cb at *;have c0:=Ja HNB.out 0;have c1:=Ja HNB.out 1;simp only[ZD,ZE,ZF] at c0 c1;obtain ⟨b0,b1,b2,b3,b4,b5,b6,b7,b8,b9,b10,b11⟩:=FF.out _ HBX.out;have HFIN:Hid (Bel w w3.drew):=HKX.out _ HBX.out.drew;have HBD:Hid (Below w1.heap.size w1 w3.drew):=HBX.out.drew;have u1:=Jk nm
  by_cases h1:1≤ct
  ·have d1:decide (ct<1)=false:=decide_eq_false (by omega)
   replace HST:Hid ((decide (ct≤1125899906842624)&&(match prevL F.labels i with | none=>true | some q=>ltB q nm)&&labelsB (prevL F.labels (i+1)) (F.labels.drop (i+1)))=lb):=by
    have h2:=HST.out;rw[decide_eq_true h1,Bool.true_and] at h2;exact h2
   by_cases hM:ct≤1125899906842624
   ·have dM:decide (1125899906842624<ct)=false:=decide_eq_false (by omega)
    replace HST:Hid (((match prevL F.labels i with | none=>true | some q=>ltB q nm)&&labelsB (prevL F.labels (i+1)) (F.labels.drop (i+1)))=lb):=by
     have h2:=HST.out;rw[decide_eq_true hM,Bool.true_and] at h2;exact h2
    clear h1 hM
    by_cases hi0:i=0
    ·have di:decide ((0:Int)<(i:Int))=false:=decide_eq_false (by omega);have diN:decide (0<i)=false:=decide_eq_false (by omega)
     replace HST:Hid (labelsB (prevL F.labels (i+1)) (F.labels.drop (i+1))=lb):=by
      have h2:=HST.out;rw[show prevL F.labels i=none by unfold prevL; rw[if_pos hi0]] at h2;exact h2
     clear hi0;go_region;clear b0 b1 b2 b3 b4 b5 b6 b7 b8 b9 b10 b11 c0 c1;exact wx97
    ·have di:decide ((0:Int)<(i:Int))=true:=decide_eq_true (by omega);have diN:decide (0<i)=true:=decide_eq_true (by omega);obtain ⟨p,hp⟩:∃ p,F.labels[i-1]?=some p:=⟨F.labels[i-1]'(by have:=HHI.out; omega),List.getElem?_eq_getElem _⟩
     obtain ⟨b',o',had',_,p0,_⟩:=HWL.out.get hp;injection had' with had';injection had' with e1 e2 e3;subst e1 e2;obtain ⟨pn,pc⟩:=p;dsimp only at p0;have wm:IntKind.i64.wrap ((i:Int)-1)=(i:Int)-1:=IntWalk.i64_in _ (by omega);have wm2:((i:Int)-1).toNat=i-1:=by omega
     have wm3:(0:Int)≤(i:Int)-1:=by omega
     have wm4:(1:Int)≤(i:Int):=by omega
     have wm4N:1≤i:=by omega
     have wm5:(i:Int)-1<(F.labels.length:Int):=by omega
     have u2:=Jk pn;have hpv:prevL F.labels i=some pn:=by unfold prevL; rw[if_neg hi0,hp]; rfl
     rw[hpv] at HST;clear hi0 hp hpv
     cases hlt:ltB pn nm with
     | true=>
      have hlt2:Op.bytesLess pn nm=true:=hlt
      replace HST:Hid (labelsB (prevL F.labels (i+1)) (F.labels.drop (i+1))=lb):=by
       have h2:=HST.out;simp only[hlt,Bool.true_and] at h2;exact h2
      clear hlt;go_region;clear b0 b1 b2 b3 b4 b5 b6 b7 b8 b9 b10 b11 c0 c1 p0;exact wx97
     | false=>
      have hlt2:Op.bytesLess pn nm=false:=hlt
      have hqf:q=false:=by
       have h2:=HST.out;simp only[hlt,Bool.false_and] at h2;rw[← HQ.out,← h2];rfl
      subst hqf;clear hlt HST;go_region;clear b0 b1 b2 b3 b4 b5 b6 b7 b8 b9 b10 b11 c0 c1 p0;go_wp2;go_ret;exact ⟨rfl,HFIN.out⟩
   ·have dM:decide (1125899906842624<ct)=true:=decide_eq_true (by omega)
    have hqf:q=false:=by
     have h2:=HST.out;rw[decide_eq_false hM,Bool.false_and,Bool.false_and] at h2;rw[← HQ.out,← h2];rfl
    subst hqf;clear h1 hM HST;exact wx146
  ·have d1:decide (ct<1)=true:=decide_eq_true (by omega)
   have hqf:q=false:=by
    have h2:=HST.out;rw[decide_eq_false h1,Bool.false_and,Bool.false_and,Bool.false_and] at h2;rw[← HQ.out,← h2];rfl
   subst hqf;clear h1 HST;exact wx146
 have hil:¬ (i:Int)<(F.labels.length:Int):=by omega
 obtain rfl:i=F.labels.length:=by omega
 have hlt:lb=true:=by rw[← hns.out,List.drop_length]; rfl
 subst hlt;replace HQ:Hid (wordsB (prevW F.words 0) (F.words.drop 0)=q):=HQ.out;obtain ⟨b0,b1,b2,b3,b4,b5,b6,b7,b8,b9,b10,b11⟩:=FF.out _ hbw.out;have HFIN:Hid (Bel w wl):=HKX.out _ hbw.out;have HWW:Hid (WordsAt wl (.slice wa F.words.length wc) F.words):=HWD.out.up hbw.out;have HBW:=Zh hbw.out;clear hns hg hi hbw HWD HLA;go_wp2_with fail;clear b0 b1 b2 b3 b4 b5 b6 b7 b8 b9 b10 b11 hil;go_loop [72] (fun v=>∃ j:Nat,v=.int .i64 j∧j≤F.words.length∧Hid (wordsB (prevW F.words j) (F.words.drop j)=q)) (fun v=>F.words.length-(intOf v).toNat)
 case atStart=>exact ⟨0,rfl,Nat.zero_le _,HQ⟩
 case round=>
 clear HQ;obtain ⟨j,rfl,hj,hns⟩:=hrel;have wk:IntKind.i64.wrap ((j:Int)+1)=(j:Int)+1:=IntWalk.i64_in _ (by omega)
 by_cases hjl:j<F.words.length
 ·have hil:(j:Int)<(F.words.length:Int):=by omega
  obtain ⟨a,ha⟩:∃ a,F.words[j]?=some a:=⟨F.words[j],List.getElem?_eq_getElem hjl⟩
  obtain ⟨b,o,had,_,c0⟩:=HWW.out.get ha;have hst:=Jeh hns.out ha;have HST:=Zh hst;obtain ⟨b0,b1,b2,b3,b4,b5,b6,b7,b8,b9,b10,b11⟩:=FF.out _ HBW.out;have u1:=Jk a
  by_cases hj0:j=0
  ·have di:decide ((0:Int)<(j:Int))=false:=decide_eq_false (by omega);have diN:decide (0<j)=false:=decide_eq_false (by omega)
   replace HST:Hid (wordsB (prevW F.words (j+1)) (F.words.drop (j+1))=q):=by
    have h2:=HST.out;rw[show prevW F.words j=none by unfold prevW; rw[if_pos hj0]] at h2;exact h2
   subst had;clear hj0 hst ha hns;go_wp2;go_round
   case rel=>exact ⟨j+1,by go_num,hjl,HST⟩
   case measure=>simp[intOf]; omega
  ·have di:decide ((0:Int)<(j:Int))=true:=decide_eq_true (by omega);have diN:decide (0<j)=true:=decide_eq_true (by omega);obtain ⟨p,hp⟩:∃ p,F.words[j-1]?=some p:=⟨F.words[j-1]'(by omega),List.getElem?_eq_getElem _⟩
   obtain ⟨b',o',had',_,p0⟩:=HWW.out.get hp;rw[had] at had';injection had' with had';injection had' with e1 e2 e3;subst e1 e2;have wm:IntKind.i64.wrap ((j:Int)-1)=(j:Int)-1:=IntWalk.i64_in _ (by omega);have wm2:((j:Int)-1).toNat=j-1:=by omega
   have wm3:(0:Int)≤(j:Int)-1:=by omega
   have wm4:(1:Int)≤(j:Int):=by omega
   have wm4N:1≤j:=by omega
   have wm5:(j:Int)-1<(F.words.length:Int):=by omega
   have u2:=Jk p;have hpv:prevW F.words j=some p:=by unfold prevW; rw[if_neg hj0,hp]
   rw[hpv] at HST;subst had;clear hj0 hp hpv hst ha hns
   cases hlt:ltB p a with
   | true=>
    have hlt2:Op.bytesLess p a=true:=hlt
    replace HST:Hid (wordsB (prevW F.words (j+1)) (F.words.drop (j+1))=q):=by
     have h2:=HST.out;simp only[hlt,Bool.true_and] at h2;exact h2
    clear hlt;go_wp2;go_round
    case rel=>exact ⟨j+1,by go_num,hjl,HST⟩
    case measure=>simp[intOf]; omega
   | false=>
    have hlt2:Op.bytesLess p a=false:=hlt
    have hqf:q=false:=by
     have h2:=HST.out;simp only[hlt,Bool.false_and] at h2;exact h2.symm
    subst hqf;clear hlt HST;go_wp2;go_ret;exact ⟨rfl,HFIN.out⟩
 ·have hil:¬ (j:Int)<(F.words.length:Int):=by omega
  obtain rfl:j=F.words.length:=by omega
  have hqt:q=true:=by rw[← hns.out,List.drop_length]; rfl
  subst hqt;clear hns hjl hj;go_wp2;go_ret;exact ⟨rfl,HFIN.out⟩
end Go.Proofs.YtncanmdgdflnpaaGreatDoor
