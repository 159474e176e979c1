
import Derived.Test.YtncanmdgdflnpaaGreatDoorW32
namespace Go.Proofs.YtncanmdgdflnpaaGreatDoor
open Go.ChangeShapes Go.WideShapes Go.ChangeAt Go.RowKit Go.Lib
open _root_.Go.Proofs.Tryz
set_option linter.all false
set_option maxRecDepth 100000
set_option maxHeartbeats 32000000
theorem KidsX.at0 {w:World} {ad:Option Addr} {l:List Exp} (h:KidsX w ad l) (hne:l≠[]):∃ b o,ad=some ⟨b,o,none⟩∧b<w.heap.size∧∀ i y,l[i]?=some y→∃ dy cy,
  XAt w (In w) y #[.int .i64 y.kind,.int .i64 y.num,.string (bs y.name),.slice dy y.kids.length cy]∧∀ W,Bel w W→W.cell? ⟨b,o+i*4,none⟩=some (.int .i64 y.kind)∧W.cell? ⟨b,o+i*4+1,none⟩=some (.int .i64 y.num)∧W.cell? ⟨b,o+i*4+2,none⟩=some (.string (bs y.name))∧W.cell? ⟨b,o+i*4+3,none⟩=some (.slice dy y.kids.length cy):=by
 obtain ⟨b,o,h1,h2,h3⟩:=h hne;refine ⟨b,o,h1,h2,fun i y hi=>?_⟩;obtain ⟨d,h4,h5⟩:=h3 i y hi;obtain ⟨da,dc,rfl,_⟩:=h4.form;refine ⟨da,dc,h4,fun W hW=>?_⟩;have hc:∀ j u,_→W.cell? ⟨b,o+i*4+j,none⟩=some u:=fun j u hu=>(hW.cell (p:=⟨b,o+i*4+j,none⟩) h2).trans (h5 j u hu)
 exact ⟨hc 0 _ rfl,hc 1 _ rfl,hc 2 _ rfl,hc 3 _ rfl⟩
theorem Jbo {pa:List Nat} {vars nest:Nat} {k:Int} (hk:k≠19):∀ {l:List Exp} {i:Nat},fitsL pa vars nest k i l=true→∀ y∈l,fitsN pa vars nest y=true
 | [],i,h,y,hy=>by cases hy
 | a::l,i,h,y,hy=>by
  rw[fitsL,if_neg (fun h=>hk h.1)] at h;simp only[Bool.and_eq_true] at h
  rcases List.mem_cons.1 hy with rfl | hy
  ·exact h.1
  ·exact Jbo hk h.2 y hy
def evK (K:RunK) (d:Nat) (vars:List Int) (u:Nat) (e:Exp):RN Int:=evN (callD K.r.funcs K.F d) K.F vars u e
structure EvH (K:RunK) (c:Nat) (e:Exp) (cs:Array Value) (vars types:List Int) (vv:Value) (nest:Nat) (t:Int) (W:World) (u:Nat):Prop where
 nm:NmN e
 sz:vars.length+siz (utN e)≤900000000
 x:XAt K.w0 (In K.w0) e cs
 fit:fitsN (palen K.r.sigs) types.length nest e=true
 ty:ofN K.r.sigs types (utN e)=(t,[])
 vs:VsOk types vars
 us:u≤10000
 at':MrAt K W u c
 ints:IntsAt W K.p vv vars
def EvAt (K:RunK) (c d n:Nat):Prop:=∀ (e:Exp) (cs:Array Value) (vars types:List Int) (vv:Value) (nest:Nat) (t:Int) (W:World) (u:Nat),siz (utN e)≤n→EvH K c e cs vars types vv nest t W u→
 Calls prog 42 #[.pointer (some ⟨K.p,0,none⟩),.agg cs,vv] W (EvP K W c (evK K d vars u e))
theorem EvH.ok {K:RunK} (hk:K.Ok) {c:Nat} {e:Exp} {cs:Array Value} {vars types:List Int} {vv:Value} {nest:Nat} {t:Int} {W:World} {u:Nat} (h:EvH K c e cs vars types vv nest t W u) (d:Nat):RNOk (VOk t) u (evK K d vars u e):=
 KW hk.facts (Jdd hk.tr hk.ty hk.facts d) e types vars nest u t h.fit h.ty h.vs h.us
theorem EvP.back {K:RunK} {W W':World} {c:Nat} {x:RN Int} {e:Ending} {w':World} (hc:Chg [K.p] W W') (h:EvP K W' c x e w'):EvP K W c x e w':=by
 cases x with
 | val v u=>exact ⟨h.1,h.2.1,hc.trans h.2.2⟩
 | fault er u=>exact ⟨h.1,h.2.1,hc.trans h.2.2⟩
theorem Jih {pa:List Nat} {vars nest:Nat} {k n:Int} {s:List UInt8} {l:List Exp} (h:fitsN pa vars nest (.mk k n s l)=true):(0≤k∧k<21)∧(k≠20→l.length=ar0 k):=by
 obtain ⟨_,hf,ha,_⟩:=J6 h
 have hk:0≤k∧k<21:=by
  unfold fieldsB at hf;simp only[Bool.and_eq_true,decide_eq_true_eq] at hf;exact ⟨hf.1.2,hf.2⟩
 exact ⟨hk,fun h20=>by rw[ha,Jkm hk h20]⟩
theorem EvH.kid {K:RunK} {c:Nat} {k nn:Int} {s:List UInt8} {l:List Exp} {cs:Array Value} {vars types:List Int} {vv:Value} {nest:Nat} {t:Int} {W:World} {u:Nat} (h:EvH K c (.mk k nn s l) cs vars types vv nest t W u) (h19:k≠19) {i:Nat} {y:Exp} (hi:l[i]?=some y)
  {d:Array Value} (hx:XAt K.w0 (In K.w0) y d) {W':World} {u':Nat} (hm:MrAt K W' u' c) (hc:Chg [K.p] W W') (hu:u'≤10000):EvH K c y d vars types vv (nest-1) (ofN K.r.sigs types (utN y)).1 W' u':=by
 have hmem:=List.mem_of_getElem? hi;have hnm:=h.nm;unfold NmN at hnm;have hsz:=h.sz;rw[utN,JA] at hsz;have hs:=KE hmem;obtain ⟨_,_,_,hl⟩:=J6 h.fit;obtain ⟨hk,hlen⟩:=Jih h.fit;have hty:=h.ty;rw[utN] at hty;have hk2:=Jcr (fs:=K.r.sigs) (vars:=types) (by rw[hty]) h19 hk (fun h20=>by rw[JR]; exact hlen h20) (utN y) (by rw[Jfv]; exact List.mem_map.2 ⟨y,hmem,rfl⟩);exact ⟨JfA hnm.2 y hmem,by omega,hx,Jbo h19 hl y hmem,Prod.ext rfl hk2,h.vs,hu,hm,h.ints.chg hc⟩
theorem EvH.let1 {K:RunK} {c:Nat} {nn:Int} {s:List UInt8} {a b:Exp} {cs:Array Value} {vars types:List Int} {vv:Value} {nest:Nat} {t:Int} {W:World} {u:Nat} (h:EvH K c (.mk 19 nn s [a,b]) cs vars types vv nest t W u)
  {d:Array Value} (hx:XAt K.w0 (In K.w0) a d) {W':World} {u':Nat} (hm:MrAt K W' u' c) (hc:Chg [K.p] W W') (hu:u'≤10000):EvH K c a d vars types vv (nest-1) (ofN K.r.sigs types (utN a)).1 W' u':=by
 have hnm:=h.nm;unfold NmN NmL at hnm;have hsz:=h.sz;rw[utN,JA,utL,Ju] at hsz;obtain ⟨_,_,_,hl⟩:=J6 h.fit;have hl2:=KJ hl;have hty:=h.ty;rw[utN,utL,utL,utL,YX] at hty;simp at hty;exact ⟨hnm.2.1,by omega,hx,hl2.1,Prod.ext rfl hty.2.1,h.vs,hu,hm,h.ints.chg hc⟩
theorem EvH.let2 {K:RunK} {c:Nat} {nn:Int} {s:List UInt8} {a b:Exp} {cs:Array Value} {vars types:List Int} {vv:Value} {nest:Nat} {t:Int} {W:World} {u:Nat} (h:EvH K c (.mk 19 nn s [a,b]) cs vars types vv nest t W u)
  {d:Array Value} (hx:XAt K.w0 (In K.w0) b d) {W':World} {u':Nat} {v:Int} {vv':Value} (hm:MrAt K W' u' c) (hv:VOk (ofN K.r.sigs types (utN a)).1 v) (hi:IntsAt W' K.p vv' (vars++[v])) (hu:u'≤10000) :
  EvH K c b d (vars++[v]) (types++[(ofN K.r.sigs types (utN a)).1]) vv' (nest-1) t W' u':=by
 have hnm:=h.nm;unfold NmN NmL NmL at hnm;have hsz:=h.sz;rw[utN,JA,utL,utL,Ju,Ju] at hsz;obtain ⟨_,_,_,hl⟩:=J6 h.fit;have hl2:=KJ hl;have hty:=h.ty;rw[utN,utL,utL,utL,YX] at hty;simp at hty;have hp:=KN (utN a);refine ⟨hnm.2.2.1,by rw[List.length_append,List.length_singleton]; omega,hx,?_,?_,VsOk.snoc h.vs hv,hu,hm,hi⟩
 ·rw[List.length_append,List.length_singleton];simpa using hl2.2
 ·exact Prod.ext hty.1 hty.2.2
theorem IntsAt.form' {W:World} {rb:Nat} {v:Value} {l:List Int} (h:IntsAt W rb v l):∃ a c,v=.slice a l.length c:=by
 rcases h with ⟨e1,_,_,e2⟩ | ⟨g,o,cc,e,_⟩
 ·exact ⟨_,_,by rw[e1,e2]; rfl⟩
 ·exact ⟨_,_,e⟩
theorem Jjt (K:RunK) (d:Nat) (vars:List Int) (u:Nat) (nn:Int) (s:List UInt8) (a b:Exp):evK K d vars u (.mk 16 nn s [a,b])=(evK K d vars u a).bind fun v u'=>if v=0 then .val 0 u' else evK K d vars u' b:=by
 unfold evK; rw[Ku]; simp
theorem Jkn (K:RunK) (d:Nat) (vars:List Int) (u:Nat) (nn:Int) (s:List UInt8) (a b:Exp):evK K d vars u (.mk 17 nn s [a,b])=(evK K d vars u a).bind fun v u'=>if v=0 then evK K d vars u' b else .val 1 u':=by
 unfold evK; rw[Ku]; simp
theorem Jko (K:RunK) (d:Nat) (vars:List Int) (u:Nat) (nn:Int) (s:List UInt8) (z a b:Exp):evK K d vars u (.mk 18 nn s [z,a,b])=(evK K d vars u z).bind fun v u'=>if v=0 then evK K d vars u' b else evK K d vars u' a:=by
 unfold evK; rw[Ku]; simp
theorem Jju (K:RunK) (d:Nat) (vars:List Int) (u:Nat) (nn:Int) (s:List UInt8) (a b:Exp):evK K d vars u (.mk 19 nn s [a,b])=(evK K d vars u a).bind fun v u'=>evK K d (vars++[v]) u' b:=by
 unfold evK; rw[Ku]; simp
def evKL (K:RunK) (d:Nat) (vars:List Int) (u:Nat) (l:List Exp):RN (List Int):=evL (callD K.r.funcs K.F d) K.F vars u l
theorem Jbp (K:RunK) (d:Nat) (vars:List Int) (u:Nat) (a:Exp) (l:List Exp):evKL K d vars u (a::l)=(evK K d vars u a).bind fun v u'=>(evKL K d vars u' l).bind fun vs u''=>.val (v::vs) u'':=by
 unfold evKL evK; rw[evL]
theorem JhL (K:RunK) (d:Nat) (vars:List Int) (u:Nat):evKL K d vars u []=.val [] u:=by
 unfold evKL; rw[evL]
theorem JhM (K:RunK) (d:Nat) (vars:List Int) (u:Nat) (nn:Int) (s:List UInt8) (l:List Exp):evK K d vars u (.mk 20 nn s l)=(evKL K d vars u l).bind fun vs u'=>callD K.r.funcs K.F d nn vs u':=by
 unfold evK evKL; rw[Ku]; simp
theorem JhN (K:RunK) (d:Nat) (vars:List Int) (u:Nat) (k nn:Int) (s:List UInt8) (l:List Exp) (hk:6≤k∧k≤15):evK K d vars u (.mk k nn s l)=(evKL K d vars u l).bind fun vs u'=>operI k (vs.getD 0 0) (vs.getD 1 0) u':=by
 unfold evK evKL;rw[Ku,if_neg (by omega),if_neg (by omega),if_neg (by omega),if_neg (by omega),if_neg (by omega),if_neg (by omega),if_neg (by omega),if_neg (by omega),if_neg (by omega)]
 congr 1
 funext vs u'
 rw[if_neg (by omega)]
theorem wx27 {P:Prop}(h:P:=by
  intro W' hW;have hh:=hW.heap_some (by simp; exact HNE.out) HCP.out
  refine ⟨?_,?_,?_,?_⟩ <;> (rw[Ja hh]; rfl)):P:=h
theorem wx79 {P:Prop}(h:P:=by
  have HKX:Hid (∀ W',Chg [K.p] w1 W'→Bel K.w0 W'):=fun W' hW=>AtMv HM1.out.bel hk.num hW
  obtain ⟨b0,b1,b2,b3⟩:=FF.out _ (Chg.refl _ _);go_wp2;go_ret;rw[← HX.out]
  exact ⟨rfl,HM1.out,HC1.out⟩):P:=h
theorem Jjv (K:RunK) (hk:K.Ok) (c d n:Nat) (IH:EvAt K c d n) (nn:Int) (s:List UInt8) (l:List Exp) (cs:Array Value) (vars types:List Int) (vv:Value) (nest:Nat) (t:Int) (W:World) (u:Nat) (hn:sizL (utL l)≤n) (h:EvH K c (.mk 0 nn s l) cs vars types vv nest t W u) :
  Calls prog 42 #[.pointer (some ⟨K.p,0,none⟩),.agg cs,vv] W (EvP K W c (evK K d vars u (.mk 0 nn s l))):=by
 obtain ⟨ad,cc,rfl,hcc,hK⟩:=h.x.kids;obtain ⟨va,vc,rfl⟩:=h.ints.form';obtain ⟨X,hX⟩:∃ X,evK K d vars u (.mk 0 nn s l)=X:=⟨_,rfl⟩
 rw[hX];have hE:evK K d vars u (.mk 0 nn s l)=.val nn u:=by unfold evK; rw[Ku]; simp
 rw[hE] at hX;have HX:=Zh hX;have hb1:Below W.heap.size W (W.alloc (.cells #[.int .i64 0,.int .i64 nn,.string (bs s),.slice ad l.length cc] 50)):=zzb.alloc zzl _;have HM1:=Zh (h.at'.up hb1);have HC1:Hid (Chg [K.p] W (W.alloc (.cells #[.int .i64 0,.int .i64 nn,.string (bs s),.slice ad l.length cc] 50))):=Chg.of_below hb1 [K.p];have HCP:=Zh (zzw W (.cells #[.int .i64 0,.int .i64 nn,.string (bs s),.slice ad l.length cc] 50));have HNE:Hid (W.heap.size≠K.p):=by have:=h.at'.lt; unfold Hid; omega
 have HH:=Zh h;have HKD:=Zh hK;have HIH:=Zh IH;have HN:=Zh hn;clear hb1 h hK hX IH hn;go_enter func42,ntmps42;go_upto_region 1 with fail;generalize World.alloc W _=w1 at *;generalize W.heap.size=eb at *
 have FF:Hid (∀ W',Chg [K.p] w1 W'→W'.cell? ⟨eb,0,none⟩=some (.int .i64 0)∧W'.cell? ⟨eb,1,none⟩=some (.int .i64 nn)∧W'.cell? ⟨eb,2,none⟩=some (.string (bs s))∧W'.cell? ⟨eb,3,none⟩=some (.slice ad l.length cc)):=by
  exact wx27
 exact wx79
theorem JhO (K:RunK) (hk:K.Ok) (c d n:Nat) (IH:EvAt K c d n) (nn:Int) (s:List UInt8) (l:List Exp) (cs:Array Value) (vars types:List Int) (vv:Value) (nest:Nat) (t:Int) (W:World) (u:Nat) (hn:sizL (utL l)≤n) (h:EvH K c (.mk 1 nn s l) cs vars types vv nest t W u) :
  Calls prog 42 #[.pointer (some ⟨K.p,0,none⟩),.agg cs,vv] W (EvP K W c (evK K d vars u (.mk 1 nn s l))):=by
 obtain ⟨ad,cc,rfl,hcc,hK⟩:=h.x.kids;obtain ⟨va,vc,rfl⟩:=h.ints.form';obtain ⟨X,hX⟩:∃ X,evK K d vars u (.mk 1 nn s l)=X:=⟨_,rfl⟩
 rw[hX];have hE:evK K d vars u (.mk 1 nn s l)=.val nn u:=by unfold evK; rw[Ku]; simp
 rw[hE] at hX;have HX:=Zh hX;have hb1:Below W.heap.size W (W.alloc (.cells #[.int .i64 1,.int .i64 nn,.string (bs s),.slice ad l.length cc] 50)):=zzb.alloc zzl _;have HM1:=Zh (h.at'.up hb1);have HC1:Hid (Chg [K.p] W (W.alloc (.cells #[.int .i64 1,.int .i64 nn,.string (bs s),.slice ad l.length cc] 50))):=Chg.of_below hb1 [K.p];have HCP:=Zh (zzw W (.cells #[.int .i64 1,.int .i64 nn,.string (bs s),.slice ad l.length cc] 50));have HNE:Hid (W.heap.size≠K.p):=by have:=h.at'.lt; unfold Hid; omega
 have HH:=Zh h;have HKD:=Zh hK;have HIH:=Zh IH;have HN:=Zh hn;clear hb1 h hK hX IH hn;go_enter func42,ntmps42;go_upto_region 1 with fail;generalize World.alloc W _=w1 at *;generalize W.heap.size=eb at *
 have FF:Hid (∀ W',Chg [K.p] w1 W'→W'.cell? ⟨eb,0,none⟩=some (.int .i64 1)∧W'.cell? ⟨eb,1,none⟩=some (.int .i64 nn)∧W'.cell? ⟨eb,2,none⟩=some (.string (bs s))∧W'.cell? ⟨eb,3,none⟩=some (.slice ad l.length cc)):=by
  exact wx27
 exact wx79
theorem Jjw (K:RunK) (hk:K.Ok) (c d n:Nat) (IH:EvAt K c d n) (nn:Int) (s:List UInt8) (l:List Exp) (cs:Array Value) (vars types:List Int) (vv:Value) (nest:Nat) (t:Int) (W:World) (u:Nat) (hn:sizL (utL l)≤n) (h:EvH K c (.mk 2 nn s l) cs vars types vv nest t W u) :
  Calls prog 42 #[.pointer (some ⟨K.p,0,none⟩),.agg cs,vv] W (EvP K W c (evK K d vars u (.mk 2 nn s l))):=by
 obtain ⟨ad,cc,rfl,hcc,hK⟩:=h.x.kids;obtain ⟨va,vc,rfl⟩:=h.ints.form';obtain ⟨X,hX⟩:∃ X,evK K d vars u (.mk 2 nn s l)=X:=⟨_,rfl⟩
 rw[hX];have hE:evK K d vars u (.mk 2 nn s l)=.val (vars.getD nn.toNat 0) u:=by unfold evK; rw[Ku]; simp
 rw[hE] at hX;have HX:=Zh hX;have hb1:Below W.heap.size W (W.alloc (.cells #[.int .i64 2,.int .i64 nn,.string (bs s),.slice ad l.length cc] 50)):=zzb.alloc zzl _;have HM1:=Zh (h.at'.up hb1);have HC1:Hid (Chg [K.p] W (W.alloc (.cells #[.int .i64 2,.int .i64 nn,.string (bs s),.slice ad l.length cc] 50))):=Chg.of_below hb1 [K.p];have HCP:=Zh (zzw W (.cells #[.int .i64 2,.int .i64 nn,.string (bs s),.slice ad l.length cc] 50));have HNE:Hid (W.heap.size≠K.p):=by have:=h.at'.lt; unfold Hid; omega
 have HH:=Zh h;have HKD:=Zh hK;have HIH:=Zh IH;have HN:=Zh hn;clear hb1 h hK hX IH hn;go_enter func42,ntmps42;go_upto_region 1 with fail;generalize World.alloc W _=w1 at *;generalize W.heap.size=eb at *
 have FF:Hid (∀ W',Chg [K.p] w1 W'→W'.cell? ⟨eb,0,none⟩=some (.int .i64 2)∧W'.cell? ⟨eb,1,none⟩=some (.int .i64 nn)∧W'.cell? ⟨eb,2,none⟩=some (.string (bs s))∧W'.cell? ⟨eb,3,none⟩=some (.slice ad l.length cc)):=by
  exact wx27
 have HKX:Hid (∀ W',Chg [K.p] w1 W'→Bel K.w0 W'):=fun W' hW=>AtMv HM1.out.bel hk.num hW
 obtain ⟨b0,b1,b2,b3⟩:=FF.out _ (Chg.refl _ _)
 have hnn:0≤nn∧nn<(vars.length:Int):=by
  obtain ⟨_,hf,_,_⟩:=J6 HH.out.fit;unfold fieldsB at hf;simp at hf;have:=HH.out.vs.1;exact ⟨hf.1.1,by omega⟩
 obtain ⟨i,rfl⟩:∃ i:Nat,nn=i:=⟨nn.toNat,by omega⟩
 have hil:(i:Int)<(vars.length:Int):=hnn.2;have hi:i<vars.length:=by omega
 obtain ⟨v,hv⟩:∃ v,vars[i]?=some v:=⟨vars[i],List.getElem?_eq_getElem hi⟩
 have hX2:=HX.out;rw[Int.toNat_natCast,List.getD_eq_getElem?_getD,hv,Option.getD_some] at hX2;have HX2:=Zh hX2
 obtain ⟨g,og,hva,hcv⟩:∃ g og,va=some ⟨g,og,none⟩∧w1.cell? ⟨g,og+i,none⟩=some (.int .i64 v):=by
  rcases HH.out.ints.chg HC1.out with ⟨e1,e2⟩ | ⟨g,og,cc',e,_,_,_,hc⟩
  ·rw[e1] at hi; simp at hi
  ·injection e with e1 e2 e3;exact ⟨g,og,e1,hc i v hv⟩
 clear hX2 hv hnn;subst hva;go_wp2;go_ret;rw[← HX2.out];exact ⟨rfl,HM1.out,HC1.out⟩
theorem wx68 {P:Prop}(h:P:=by
  go_wp2_with fail;refine cf.mono ?_;rintro e w2 ⟨rfl,hb2⟩;have HC2:=Zh (HC1.out.trans (Chg.of_below hb2 [K.p]));have HM2:=Zh (HM1.out.up hb2);clear hb2;clear cf b0 b1 b2 b3;go_wp2;go_ret;rw[← HX.out]
  exact ⟨rfl,HM2.out,HC2.out⟩):P:=h
theorem JhP (K:RunK) (hk:K.Ok) (c d n:Nat) (IH:EvAt K c d n) (nn:Int) (s:List UInt8) (l:List Exp) (cs:Array Value) (vars types:List Int) (vv:Value) (nest:Nat) (t:Int) (W:World) (u:Nat) (hn:sizL (utL l)≤n) (h:EvH K c (.mk 3 nn s l) cs vars types vv nest t W u) :
  Calls prog 42 #[.pointer (some ⟨K.p,0,none⟩),.agg cs,vv] W (EvP K W c (evK K d vars u (.mk 3 nn s l))):=by
 obtain ⟨ad,cc,rfl,hcc,hK⟩:=h.x.kids;obtain ⟨va,vc,rfl⟩:=h.ints.form';obtain ⟨X,hX⟩:∃ X,evK K d vars u (.mk 3 nn s l)=X:=⟨_,rfl⟩
 rw[hX];have hE:evK K d vars u (.mk 3 nn s l)=.val (factV K.F s) u:=by unfold evK; rw[Ku]; simp
 rw[hE] at hX;have HX:=Zh hX;have hb1:Below W.heap.size W (W.alloc (.cells #[.int .i64 3,.int .i64 nn,.string (bs s),.slice ad l.length cc] 50)):=zzb.alloc zzl _;have HM1:=Zh (h.at'.up hb1);have HC1:Hid (Chg [K.p] W (W.alloc (.cells #[.int .i64 3,.int .i64 nn,.string (bs s),.slice ad l.length cc] 50))):=Chg.of_below hb1 [K.p];have HCP:=Zh (zzw W (.cells #[.int .i64 3,.int .i64 nn,.string (bs s),.slice ad l.length cc] 50));have HNE:Hid (W.heap.size≠K.p):=by have:=h.at'.lt; unfold Hid; omega
 have HH:=Zh h;have HKD:=Zh hK;have HIH:=Zh IH;have HN:=Zh hn;clear hb1 h hK hX IH hn;go_enter func42,ntmps42;go_upto_region 1 with fail;generalize World.alloc W _=w1 at *;generalize W.heap.size=eb at *
 have FF:Hid (∀ W',Chg [K.p] w1 W'→W'.cell? ⟨eb,0,none⟩=some (.int .i64 3)∧W'.cell? ⟨eb,1,none⟩=some (.int .i64 nn)∧W'.cell? ⟨eb,2,none⟩=some (.string (bs s))∧W'.cell? ⟨eb,3,none⟩=some (.slice ad l.length cc)):=by
  exact wx27
 have HKX:Hid (∀ W',Chg [K.p] w1 W'→Bel K.w0 W'):=fun W' hW=>AtMv HM1.out.bel hk.num hW
 obtain ⟨b0,b1,b2,b3⟩:=FF.out _ (Chg.refl _ _);have cf:=JfN K hk w1 u c HM1.out s;exact wx68
theorem Jgc (K:RunK) (hk:K.Ok) (c d n:Nat) (IH:EvAt K c d n) (nn:Int) (s:List UInt8) (l:List Exp) (cs:Array Value) (vars types:List Int) (vv:Value) (nest:Nat) (t:Int) (W:World) (u:Nat) (hn:sizL (utL l)≤n) (h:EvH K c (.mk 4 nn s l) cs vars types vv nest t W u) :
  Calls prog 42 #[.pointer (some ⟨K.p,0,none⟩),.agg cs,vv] W (EvP K W c (evK K d vars u (.mk 4 nn s l))):=by
 obtain ⟨ad,cc,rfl,hcc,hK⟩:=h.x.kids;obtain ⟨va,vc,rfl⟩:=h.ints.form';obtain ⟨X,hX⟩:∃ X,evK K d vars u (.mk 4 nn s l)=X:=⟨_,rfl⟩
 rw[hX];have hE:evK K d vars u (.mk 4 nn s l)=.val (lookC K.F.labels s) u:=by unfold evK; rw[Ku]; simp
 rw[hE] at hX;have HX:=Zh hX;have hb1:Below W.heap.size W (W.alloc (.cells #[.int .i64 4,.int .i64 nn,.string (bs s),.slice ad l.length cc] 50)):=zzb.alloc zzl _;have HM1:=Zh (h.at'.up hb1);have HC1:Hid (Chg [K.p] W (W.alloc (.cells #[.int .i64 4,.int .i64 nn,.string (bs s),.slice ad l.length cc] 50))):=Chg.of_below hb1 [K.p];have HCP:=Zh (zzw W (.cells #[.int .i64 4,.int .i64 nn,.string (bs s),.slice ad l.length cc] 50));have HNE:Hid (W.heap.size≠K.p):=by have:=h.at'.lt; unfold Hid; omega
 have HH:=Zh h;have HKD:=Zh hK;have HIH:=Zh IH;have HN:=Zh hn;clear hb1 h hK hX IH hn;go_enter func42,ntmps42;go_upto_region 1 with fail;generalize World.alloc W _=w1 at *;generalize W.heap.size=eb at *
 have FF:Hid (∀ W',Chg [K.p] w1 W'→W'.cell? ⟨eb,0,none⟩=some (.int .i64 4)∧W'.cell? ⟨eb,1,none⟩=some (.int .i64 nn)∧W'.cell? ⟨eb,2,none⟩=some (.string (bs s))∧W'.cell? ⟨eb,3,none⟩=some (.slice ad l.length cc)):=by
  exact wx27
 have HKX:Hid (∀ W',Chg [K.p] w1 W'→Bel K.w0 W'):=fun W' hW=>AtMv HM1.out.bel hk.num hW
 obtain ⟨b0,b1,b2,b3⟩:=FF.out _ (Chg.refl _ _);have cf:=Jea K hk w1 u c HM1.out s;exact wx68
theorem JhQ (K:RunK) (hk:K.Ok) (c d n:Nat) (IH:EvAt K c d n) (nn:Int) (s:List UInt8) (l:List Exp) (cs:Array Value) (vars types:List Int) (vv:Value) (nest:Nat) (t:Int) (W:World) (u:Nat) (hn:sizL (utL l)≤n) (h:EvH K c (.mk 5 nn s l) cs vars types vv nest t W u) :
  Calls prog 42 #[.pointer (some ⟨K.p,0,none⟩),.agg cs,vv] W (EvP K W c (evK K d vars u (.mk 5 nn s l))):=by
 obtain ⟨ad,cc,rfl,hcc,hK⟩:=h.x.kids;obtain ⟨va,vc,rfl⟩:=h.ints.form';obtain ⟨X,hX⟩:∃ X,evK K d vars u (.mk 5 nn s l)=X:=⟨_,rfl⟩
 rw[hX];have hE:evK K d vars u (.mk 5 nn s l)=.val (wordV K.F.words s) u:=by unfold evK; rw[Ku]; simp
 rw[hE] at hX;have HX:=Zh hX;have hb1:Below W.heap.size W (W.alloc (.cells #[.int .i64 5,.int .i64 nn,.string (bs s),.slice ad l.length cc] 50)):=zzb.alloc zzl _;have HM1:=Zh (h.at'.up hb1);have HC1:Hid (Chg [K.p] W (W.alloc (.cells #[.int .i64 5,.int .i64 nn,.string (bs s),.slice ad l.length cc] 50))):=Chg.of_below hb1 [K.p];have HCP:=Zh (zzw W (.cells #[.int .i64 5,.int .i64 nn,.string (bs s),.slice ad l.length cc] 50));have HNE:Hid (W.heap.size≠K.p):=by have:=h.at'.lt; unfold Hid; omega
 have HH:=Zh h;have HKD:=Zh hK;have HIH:=Zh IH;have HN:=Zh hn;clear hb1 h hK hX IH hn;go_enter func42,ntmps42;go_upto_region 1 with fail;generalize World.alloc W _=w1 at *;generalize W.heap.size=eb at *
 have FF:Hid (∀ W',Chg [K.p] w1 W'→W'.cell? ⟨eb,0,none⟩=some (.int .i64 5)∧W'.cell? ⟨eb,1,none⟩=some (.int .i64 nn)∧W'.cell? ⟨eb,2,none⟩=some (.string (bs s))∧W'.cell? ⟨eb,3,none⟩=some (.slice ad l.length cc)):=by
  exact wx27
 have HKX:Hid (∀ W',Chg [K.p] w1 W'→Bel K.w0 W'):=fun W' hW=>AtMv HM1.out.bel hk.num hW
 obtain ⟨b0,b1,b2,b3⟩:=FF.out _ (Chg.refl _ _);have cf:=JfP K hk w1 u c HM1.out s;go_wp2_with fail;refine cf.mono ?_;rintro e w2 ⟨rfl,rfl⟩;have HC2:=HC1;have HM2:=HM1;clear cf b0 b1 b2 b3;go_wp2;go_ret;rw[← HX.out];exact ⟨rfl,HM2.out,HC2.out⟩
theorem wx55 {P:Prop}(h:P:=by
  rintro e w6 ⟨rfl,hm6,hc6⟩;refine ⟨rfl,?_⟩;rw[HX.out,hy,RN.bind_fault]
  exact ⟨rfl,hm6,HC1.out.trans hc6⟩):P:=h
theorem wx74 {P:Prop}(h:P:=by
  rintro e w9 ⟨rfl,hm9,hc9⟩;have HZ:=Zh hz;have HM9:=Zh hm9;have HC9:=Zh hc9;clear hz hm9 hc9;go_wp2;go_ret;rw[HX.out,HY.out,RN.bind_val,if_neg HV.out,HZ.out]
  exact ⟨rfl,HM9.out,HC1.out.trans (Chg.trans HC6.out HC9.out)⟩):P:=h
theorem wx99 {P:Prop}(h:P:=by
  rintro e w9 ⟨rfl,hm9,hc9⟩;refine ⟨rfl,?_⟩;rw[HX.out,HY.out,RN.bind_val,if_neg HV.out,hz]
  exact ⟨rfl,hm9,HC1.out.trans (Chg.trans HC6.out hc9)⟩):P:=h
theorem Jjx (K:RunK) (hk:K.Ok) (c d n:Nat) (IH:EvAt K c d n) (nn:Int) (s:List UInt8) (a b:Exp) (cs:Array Value) (vars types:List Int) (vv:Value) (nest:Nat) (t:Int) (W:World) (u:Nat) (hn:sizL (utL [a,b])≤n) (h:EvH K c (.mk 16 nn s [a,b]) cs vars types vv nest t W u) :
  Calls prog 42 #[.pointer (some ⟨K.p,0,none⟩),.agg cs,vv] W (EvP K W c (evK K d vars u (.mk 16 nn s [a,b]))):=by
 obtain ⟨ad,cc,rfl,hcc,hK⟩:=h.x.kids;obtain ⟨va,vc,rfl⟩:=h.ints.form';obtain ⟨X,hX⟩:∃ X,evK K d vars u (.mk 16 nn s [a,b])=X:=⟨_,rfl⟩
 rw[hX];rw[Jjt] at hX;have hXs:=hX.symm;clear hX;have hX:=hXs;clear hXs;have HX:=Zh hX;have hb1:Below W.heap.size W (W.alloc (.cells #[.int .i64 16,.int .i64 nn,.string (bs s),.slice ad [a,b].length cc] 50)):=zzb.alloc zzl _;have HM1:=Zh (h.at'.up hb1);have HC1:Hid (Chg [K.p] W (W.alloc (.cells #[.int .i64 16,.int .i64 nn,.string (bs s),.slice ad [a,b].length cc] 50))):=Chg.of_below hb1 [K.p];have HCP:=Zh (zzw W (.cells #[.int .i64 16,.int .i64 nn,.string (bs s),.slice ad [a,b].length cc] 50));have HNE:Hid (W.heap.size≠K.p):=by have:=h.at'.lt; unfold Hid; omega
 have HH:=Zh h;have HKD:=Zh hK;have HIH:=Zh IH;have HN:=Zh hn;clear hb1 h hK hX IH hn;go_enter func42,ntmps42;go_upto_region 1 with fail;generalize World.alloc W _=w1 at *;generalize W.heap.size=eb at *
 have FF:Hid (∀ W',Chg [K.p] w1 W'→W'.cell? ⟨eb,0,none⟩=some (.int .i64 16)∧W'.cell? ⟨eb,1,none⟩=some (.int .i64 nn)∧W'.cell? ⟨eb,2,none⟩=some (.string (bs s))∧W'.cell? ⟨eb,3,none⟩=some (.slice ad [a,b].length cc)):=by
  exact wx27
 have HKX:Hid (∀ W',Chg [K.p] w1 W'→Bel K.w0 W'):=fun W' hW=>AtMv HM1.out.bel hk.num hW
 obtain ⟨b0,b1,b2,b3⟩:=FF.out _ (Chg.refl _ _);obtain ⟨kb,o,had,hbl,hkd⟩:=HKD.out.at0 (by simp);obtain ⟨da,ca,hxa,hfa⟩:=hkd 0 a rfl;have HXa:=Zh hxa;have HFa:=Zh hfa;obtain ⟨db,cb,hxb,hfb⟩:=hkd 1 b rfl;have HXb:=Zh hxb;have HFb:=Zh hfb;clear hkd;subst had;have hHa:=HH.out.kid (by decide) (i:=0) (y:=a) rfl HXa.out HM1.out (HC1.out.trans (Chg.refl _ _)) HH.out.us;have HOa:=Zh (hHa.ok hk d);have ci:=HIH.out a _ vars types _ _ _ w1 u (by have:=HN.out; have:=KE (l:=[a,b]) (y:=a) (by simp); omega) hHa;clear hHa;obtain ⟨k0,k1,k2,k3⟩:=HFa.out _ (HKX.out _ ((Chg.refl _ _)));simp only[Nat.zero_mul,Nat.add_zero,Nat.one_mul,Nat.reduceMul] at k0 k1 k2 k3;go_wp2_with fail;refine ci.mono ?_;clear ci k0 k1 k2 k3 b0 b1 b2 b3
 cases hy:evK K d vars u a with
 | fault er u6=>
  exact wx55
 | val v u6=>
  rintro e w6 ⟨rfl,hm6,hc6⟩;have hok:=HOa.out;rw[hy] at hok;obtain ⟨hu1,hu2,_⟩:=hok;have HY:=Zh hy;have HM6:=Zh hm6;have HC6:=Zh hc6;have HU6:=Zh hu2;clear hy hm6 hc6 hu1 hu2 HOa;obtain ⟨b0,b1,b2,b3⟩:=FF.out _ HC6.out
  by_cases hv:v=0
  ·subst hv;clear b0 b1 b2 b3;go_wp2;go_ret;rw[HX.out,HY.out,RN.bind_val,if_pos rfl];exact ⟨rfl,HM6.out,HC1.out.trans HC6.out⟩
  ·have HV:=Zh hv;have e0:(v==0)=false:=zzq hv;have e1:(v !=0)=true:=by rw[bne,e0]; rfl
   clear hv;have hHb:=HH.out.kid (by decide) (i:=1) (y:=b) rfl HXb.out HM6.out (HC1.out.trans HC6.out) HU6.out;have HOb:=Zh (hHb.ok hk d);have ci:=HIH.out b _ vars types _ _ _ w6 u6 (by have:=HN.out; have:=KE (l:=[a,b]) (y:=b) (by simp); omega) hHb;clear hHb;obtain ⟨k0,k1,k2,k3⟩:=HFb.out _ (HKX.out _ (HC6.out));simp only[Nat.zero_mul,Nat.add_zero,Nat.one_mul,Nat.reduceMul] at k0 k1 k2 k3;go_wp2_with fail;refine ci.mono ?_;clear ci k0 k1 k2 k3 b0 b1 b2 b3
   cases hz:evK K d vars u6 b with
   | fault er u9=>
    exact wx99
   | val v9 u9=>
    exact wx74
theorem wx36 {P:Prop}(h:P:=by
  clear hHb;obtain ⟨k0,k1,k2,k3⟩:=HFb.out _ (HKX.out _ (HC6.out));simp only[Nat.zero_mul,Nat.add_zero,Nat.one_mul,Nat.reduceMul] at k0 k1 k2 k3;go_wp2_with fail;refine ci.mono ?_;clear ci k0 k1 k2 k3 b0 b1 b2 b3
  cases hz:evK K d vars u6 b with
  | fault er u9=>
   rintro e w9 ⟨rfl,hm9,hc9⟩;refine ⟨rfl,?_⟩;rw[HX.out,HY.out,RN.bind_val,if_pos rfl,hz];exact ⟨rfl,hm9,HC1.out.trans (Chg.trans HC6.out hc9)⟩
  | val v9 u9=>
   rintro e w9 ⟨rfl,hm9,hc9⟩;have HZ:=Zh hz;have HM9:=Zh hm9;have HC9:=Zh hc9;clear hz hm9 hc9;go_wp2;go_ret;rw[HX.out,HY.out,RN.bind_val,if_pos rfl,HZ.out]
   exact ⟨rfl,HM9.out,HC1.out.trans (Chg.trans HC6.out HC9.out)⟩):P:=h
theorem Jkp (K:RunK) (hk:K.Ok) (c d n:Nat) (IH:EvAt K c d n) (nn:Int) (s:List UInt8) (a b:Exp) (cs:Array Value) (vars types:List Int) (vv:Value) (nest:Nat) (t:Int) (W:World) (u:Nat) (hn:sizL (utL [a,b])≤n) (h:EvH K c (.mk 17 nn s [a,b]) cs vars types vv nest t W u) :
  Calls prog 42 #[.pointer (some ⟨K.p,0,none⟩),.agg cs,vv] W (EvP K W c (evK K d vars u (.mk 17 nn s [a,b]))):=by
 obtain ⟨ad,cc,rfl,hcc,hK⟩:=h.x.kids;obtain ⟨va,vc,rfl⟩:=h.ints.form';obtain ⟨X,hX⟩:∃ X,evK K d vars u (.mk 17 nn s [a,b])=X:=⟨_,rfl⟩
 rw[hX];rw[Jkn] at hX;have hXs:=hX.symm;clear hX;have hX:=hXs;clear hXs;have HX:=Zh hX;have hb1:Below W.heap.size W (W.alloc (.cells #[.int .i64 17,.int .i64 nn,.string (bs s),.slice ad [a,b].length cc] 50)):=zzb.alloc zzl _;have HM1:=Zh (h.at'.up hb1);have HC1:Hid (Chg [K.p] W (W.alloc (.cells #[.int .i64 17,.int .i64 nn,.string (bs s),.slice ad [a,b].length cc] 50))):=Chg.of_below hb1 [K.p];have HCP:=Zh (zzw W (.cells #[.int .i64 17,.int .i64 nn,.string (bs s),.slice ad [a,b].length cc] 50));have HNE:Hid (W.heap.size≠K.p):=by have:=h.at'.lt; unfold Hid; omega
 have HH:=Zh h;have HKD:=Zh hK;have HIH:=Zh IH;have HN:=Zh hn;clear hb1 h hK hX IH hn;go_enter func42,ntmps42;go_upto_region 1 with fail;generalize World.alloc W _=w1 at *;generalize W.heap.size=eb at *
 have FF:Hid (∀ W',Chg [K.p] w1 W'→W'.cell? ⟨eb,0,none⟩=some (.int .i64 17)∧W'.cell? ⟨eb,1,none⟩=some (.int .i64 nn)∧W'.cell? ⟨eb,2,none⟩=some (.string (bs s))∧W'.cell? ⟨eb,3,none⟩=some (.slice ad [a,b].length cc)):=by
  exact wx27
 have HKX:Hid (∀ W',Chg [K.p] w1 W'→Bel K.w0 W'):=fun W' hW=>AtMv HM1.out.bel hk.num hW
 obtain ⟨b0,b1,b2,b3⟩:=FF.out _ (Chg.refl _ _);obtain ⟨kb,o,had,hbl,hkd⟩:=HKD.out.at0 (by simp);obtain ⟨da,ca,hxa,hfa⟩:=hkd 0 a rfl;have HXa:=Zh hxa;have HFa:=Zh hfa;obtain ⟨db,cb,hxb,hfb⟩:=hkd 1 b rfl;have HXb:=Zh hxb;have HFb:=Zh hfb;clear hkd;subst had;have hHa:=HH.out.kid (by decide) (i:=0) (y:=a) rfl HXa.out HM1.out (HC1.out.trans (Chg.refl _ _)) HH.out.us;have HOa:=Zh (hHa.ok hk d);have ci:=HIH.out a _ vars types _ _ _ w1 u (by have:=HN.out; have:=KE (l:=[a,b]) (y:=a) (by simp); omega) hHa;clear hHa;obtain ⟨k0,k1,k2,k3⟩:=HFa.out _ (HKX.out _ ((Chg.refl _ _)));simp only[Nat.zero_mul,Nat.add_zero,Nat.one_mul,Nat.reduceMul] at k0 k1 k2 k3;go_wp2_with fail;refine ci.mono ?_;clear ci k0 k1 k2 k3 b0 b1 b2 b3
 cases hy:evK K d vars u a with
 | fault er u6=>
  exact wx55
 | val v u6=>
  rintro e w6 ⟨rfl,hm6,hc6⟩;have hok:=HOa.out;rw[hy] at hok;obtain ⟨hu1,hu2,_⟩:=hok;have HY:=Zh hy;have HM6:=Zh hm6;have HC6:=Zh hc6;have HU6:=Zh hu2;clear hy hm6 hc6 hu1 hu2 HOa;obtain ⟨b0,b1,b2,b3⟩:=FF.out _ HC6.out
  by_cases hv:v=0
  ·subst hv;have hHb:=HH.out.kid (by decide) (i:=1) (y:=b) rfl HXb.out HM6.out (HC1.out.trans HC6.out) HU6.out;have HOb:=Zh (hHb.ok hk d);have ci:=HIH.out b _ vars types _ _ _ w6 u6 (by have:=HN.out; have:=KE (l:=[a,b]) (y:=b) (by simp); omega) hHb;exact wx36
  ·have HV:=Zh hv;have e0:(v==0)=false:=zzq hv;have e1:(v !=0)=true:=by rw[bne,e0]; rfl
   clear hv;clear b0 b1 b2 b3;go_wp2;go_ret;rw[HX.out,HY.out,RN.bind_val,if_neg HV.out];exact ⟨rfl,HM6.out,HC1.out.trans HC6.out⟩
theorem Jkq (K:RunK) (hk:K.Ok) (c d n:Nat) (IH:EvAt K c d n) (nn:Int) (s:List UInt8) (z a b:Exp) (cs:Array Value) (vars types:List Int) (vv:Value) (nest:Nat) (t:Int) (W:World) (u:Nat) (hn:sizL (utL [z,a,b])≤n) (h:EvH K c (.mk 18 nn s [z,a,b]) cs vars types vv nest t W u) :
  Calls prog 42 #[.pointer (some ⟨K.p,0,none⟩),.agg cs,vv] W (EvP K W c (evK K d vars u (.mk 18 nn s [z,a,b]))):=by
 obtain ⟨ad,cc,rfl,hcc,hK⟩:=h.x.kids;obtain ⟨va,vc,rfl⟩:=h.ints.form';obtain ⟨X,hX⟩:∃ X,evK K d vars u (.mk 18 nn s [z,a,b])=X:=⟨_,rfl⟩
 rw[hX];rw[Jko] at hX;have hXs:=hX.symm;clear hX;have hX:=hXs;clear hXs;have HX:=Zh hX;have hb1:Below W.heap.size W (W.alloc (.cells #[.int .i64 18,.int .i64 nn,.string (bs s),.slice ad [z,a,b].length cc] 50)):=zzb.alloc zzl _;have HM1:=Zh (h.at'.up hb1);have HC1:Hid (Chg [K.p] W (W.alloc (.cells #[.int .i64 18,.int .i64 nn,.string (bs s),.slice ad [z,a,b].length cc] 50))):=Chg.of_below hb1 [K.p];have HCP:=Zh (zzw W (.cells #[.int .i64 18,.int .i64 nn,.string (bs s),.slice ad [z,a,b].length cc] 50));have HNE:Hid (W.heap.size≠K.p):=by have:=h.at'.lt; unfold Hid; omega
 have HH:=Zh h;have HKD:=Zh hK;have HIH:=Zh IH;have HN:=Zh hn;clear hb1 h hK hX IH hn;go_enter func42,ntmps42;go_upto_region 1 with fail;generalize World.alloc W _=w1 at *;generalize W.heap.size=eb at *
 have FF:Hid (∀ W',Chg [K.p] w1 W'→W'.cell? ⟨eb,0,none⟩=some (.int .i64 18)∧W'.cell? ⟨eb,1,none⟩=some (.int .i64 nn)∧W'.cell? ⟨eb,2,none⟩=some (.string (bs s))∧W'.cell? ⟨eb,3,none⟩=some (.slice ad [z,a,b].length cc)):=by
  exact wx27
 have HKX:Hid (∀ W',Chg [K.p] w1 W'→Bel K.w0 W'):=fun W' hW=>AtMv HM1.out.bel hk.num hW
 obtain ⟨b0,b1,b2,b3⟩:=FF.out _ (Chg.refl _ _);obtain ⟨kb,o,had,hbl,hkd⟩:=HKD.out.at0 (by simp);obtain ⟨dz,cz,hxz,hfz⟩:=hkd 0 z rfl;have HXz:=Zh hxz;have HFz:=Zh hfz;obtain ⟨da,ca,hxa,hfa⟩:=hkd 1 a rfl;have HXa:=Zh hxa;have HFa:=Zh hfa;obtain ⟨db,cb,hxb,hfb⟩:=hkd 2 b rfl;have HXb:=Zh hxb;have HFb:=Zh hfb;clear hkd;subst had;have hHz:=HH.out.kid (by decide) (i:=0) (y:=z) rfl HXz.out HM1.out (HC1.out.trans (Chg.refl _ _)) HH.out.us;have HOz:=Zh (hHz.ok hk d);have ci:=HIH.out z _ vars types _ _ _ w1 u (by have:=HN.out; have:=KE (l:=[z,a,b]) (y:=z) (by simp); omega) hHz;clear hHz;obtain ⟨k0,k1,k2,k3⟩:=HFz.out _ (HKX.out _ ((Chg.refl _ _)));simp only[Nat.zero_mul,Nat.add_zero,Nat.one_mul,Nat.reduceMul] at k0 k1 k2 k3;go_wp2_with fail;refine ci.mono ?_;clear ci k0 k1 k2 k3 b0 b1 b2 b3
 cases hy:evK K d vars u z with
 | fault er u6=>
  exact wx55
 | val v u6=>
  rintro e w6 ⟨rfl,hm6,hc6⟩;have hok:=HOz.out;rw[hy] at hok;obtain ⟨hu1,hu2,_⟩:=hok;have HY:=Zh hy;have HM6:=Zh hm6;have HC6:=Zh hc6;have HU6:=Zh hu2;clear hy hm6 hc6 hu1 hu2 HOz;obtain ⟨b0,b1,b2,b3⟩:=FF.out _ HC6.out
  by_cases hv:v=0
  ·subst hv;have hHb:=HH.out.kid (by decide) (i:=2) (y:=b) rfl HXb.out HM6.out (HC1.out.trans HC6.out) HU6.out;have HOb:=Zh (hHb.ok hk d);have ci:=HIH.out b _ vars types _ _ _ w6 u6 (by have:=HN.out; have:=KE (l:=[z,a,b]) (y:=b) (by simp); omega) hHb;exact wx36
  ·have HV:=Zh hv;have e0:(v==0)=false:=zzq hv;have e1:(v !=0)=true:=by rw[bne,e0]; rfl
   clear hv;have hHa:=HH.out.kid (by decide) (i:=1) (y:=a) rfl HXa.out HM6.out (HC1.out.trans HC6.out) HU6.out;have HOa:=Zh (hHa.ok hk d);have ci:=HIH.out a _ vars types _ _ _ w6 u6 (by have:=HN.out; have:=KE (l:=[z,a,b]) (y:=a) (by simp); omega) hHa;clear hHa;obtain ⟨k0,k1,k2,k3⟩:=HFa.out _ (HKX.out _ (HC6.out));simp only[Nat.zero_mul,Nat.add_zero,Nat.one_mul,Nat.reduceMul] at k0 k1 k2 k3;go_wp2_with fail;refine ci.mono ?_;clear ci k0 k1 k2 k3 b0 b1 b2 b3
   cases hz:evK K d vars u6 a with
   | fault er u9=>
    exact wx99
   | val v9 u9=>
    exact wx74
theorem Jjy (K:RunK) (hk:K.Ok) (c d n:Nat) (IH:EvAt K c d n) (nn:Int) (s:List UInt8) (a b:Exp) (cs:Array Value) (vars types:List Int) (vv:Value) (nest:Nat) (t:Int) (W:World) (u:Nat) (hn:sizL (utL [a,b])≤n) (h:EvH K c (.mk 19 nn s [a,b]) cs vars types vv nest t W u) :
  Calls prog 42 #[.pointer (some ⟨K.p,0,none⟩),.agg cs,vv] W (EvP K W c (evK K d vars u (.mk 19 nn s [a,b]))):=by
 obtain ⟨ad,cc,rfl,hcc,hK⟩:=h.x.kids;obtain ⟨va,vc,rfl⟩:=h.ints.form';obtain ⟨X,hX⟩:∃ X,evK K d vars u (.mk 19 nn s [a,b])=X:=⟨_,rfl⟩
 rw[hX];rw[Jju] at hX;have hXs:=hX.symm;clear hX;have hX:=hXs;clear hXs;have HX:=Zh hX;have hb1:Below W.heap.size W (W.alloc (.cells #[.int .i64 19,.int .i64 nn,.string (bs s),.slice ad [a,b].length cc] 50)):=zzb.alloc zzl _;have HM1:=Zh (h.at'.up hb1);have HC1:Hid (Chg [K.p] W (W.alloc (.cells #[.int .i64 19,.int .i64 nn,.string (bs s),.slice ad [a,b].length cc] 50))):=Chg.of_below hb1 [K.p];have HCP:=Zh (zzw W (.cells #[.int .i64 19,.int .i64 nn,.string (bs s),.slice ad [a,b].length cc] 50));have HNE:Hid (W.heap.size≠K.p):=by have:=h.at'.lt; unfold Hid; omega
 have HH:=Zh h;have HKD:=Zh hK;have HIH:=Zh IH;have HN:=Zh hn;clear hb1 h hK hX IH hn;go_enter func42,ntmps42;go_upto_region 1 with fail;generalize World.alloc W _=w1 at *;generalize W.heap.size=eb at *
 have FF:Hid (∀ W',Chg [K.p] w1 W'→W'.cell? ⟨eb,0,none⟩=some (.int .i64 19)∧W'.cell? ⟨eb,1,none⟩=some (.int .i64 nn)∧W'.cell? ⟨eb,2,none⟩=some (.string (bs s))∧W'.cell? ⟨eb,3,none⟩=some (.slice ad [a,b].length cc)):=by
  exact wx27
 have HKX:Hid (∀ W',Chg [K.p] w1 W'→Bel K.w0 W'):=fun W' hW=>AtMv HM1.out.bel hk.num hW
 obtain ⟨b0,b1,b2,b3⟩:=FF.out _ (Chg.refl _ _);obtain ⟨kb,o,had,hbl,hkd⟩:=HKD.out.at0 (by simp);obtain ⟨da,ca,hxa,hfa⟩:=hkd 0 a rfl;have HXa:=Zh hxa;have HFa:=Zh hfa;obtain ⟨db,cb,hxb,hfb⟩:=hkd 1 b rfl;have HXb:=Zh hxb;have HFb:=Zh hfb;clear hkd;subst had;have hHa:=HH.out.let1 HXa.out HM1.out (HC1.out.trans (Chg.refl _ _)) HH.out.us;have HOa:=Zh (hHa.ok hk d);have ci:=HIH.out a _ vars types _ _ _ w1 u (by have:=HN.out; have:=KE (l:=[a,b]) (y:=a) (by simp); omega) hHa;clear hHa;obtain ⟨k0,k1,k2,k3⟩:=HFa.out _ (HKX.out _ ((Chg.refl _ _)));simp only[Nat.zero_mul,Nat.add_zero,Nat.one_mul,Nat.reduceMul] at k0 k1 k2 k3;go_wp2_with fail;refine ci.mono ?_;clear ci k0 k1 k2 k3 b0 b1 b2 b3
 cases hy:evK K d vars u a with
 | fault er u6=>
  exact wx55
 | val v u6=>
  rintro e w6 ⟨rfl,hm6,hc6⟩;have hok:=HOa.out;rw[hy] at hok;obtain ⟨hu1,hu2,hvo⟩:=hok;have HY:=Zh hy;have HM6:=Zh hm6;have HC6:=Zh hc6;have HU6:=Zh hu2;have HVO:=Zh hvo;clear hy hm6 hc6 hu1 hu2 hvo HOa
  obtain ⟨sv,hsl,hsv⟩:∃ sv,(∀ W:World,(Instr.slice 55 (.slice va vars.length vc) none (some (.int .i64 vars.length)) (some (.int .i64 vars.length))).run prog W=.ok sv W)∧((vars=[]∧∃ ad,sv=.slice ad 0 0)∨∃ g o,sv=.slice (some ⟨g,o,none⟩) vars.length vars.length∧∀ W',Chg [K.p] w1 W'→∀ i n,vars[i]?=some n→W'.cell? ⟨g,o+i,none⟩=some (.int .i64 n)):=by
   have hin:=HH.out.ints.chg HC1.out
   rcases hin with ⟨e1,ad0,cc0,e2⟩ | ⟨g,o,vc',e,h2,h3,_,h5⟩
   ·subst e1;injection e2 with e4 e5 e6;obtain ⟨ad2,hz⟩:=YT va vc w1;exact ⟨_,hz,.inl ⟨rfl,ad2,rfl⟩⟩
   ·injection e with e4 e5 e6;subst e4 e6;exact ⟨_,YS g o vars.length _ h2,.inr ⟨g,o,rfl,fun W' hb i n hi=>hb.cell_some (p:=⟨g,o+i,none⟩) (by simpa using h3) (h5 i n hi)⟩⟩
  have HSV:=Zh hsv;have hss:∃ a m c',sv=.slice a m c':=by rcases hsv with ⟨_,_,rfl⟩ | ⟨_,_,rfl,_⟩ <;> exact ⟨_,_,_,rfl⟩
  obtain ⟨sa,sm,sc,rfl⟩:=hss;have hvl:vars.length≤1000000000:=by have:=HH.out.sz; omega
  have HVL:=Zh hvl;clear hsv hvl
  have F6:Hid (∀ W',Chg [K.p] w1 W'→W'.cell? ⟨eb,3,none⟩=some (.slice (some ⟨kb,o,none⟩) [a,b].length cc)∧W'.cell? ⟨kb,o+4,none⟩=some (.int .i64 b.kind)∧W'.cell? ⟨kb,o+4+1,none⟩=some (.int .i64 b.num)∧W'.cell? ⟨kb,o+4+2,none⟩=some (.string (bs b.name))∧W'.cell? ⟨kb,o+4+3,none⟩=some (.slice db b.kids.length cb)):=by
   intro W' hW;obtain ⟨b0,b1,b2,b3⟩:=FF.out _ hW;obtain ⟨k0,k1,k2,k3⟩:=HFb.out _ (HKX.out _ hW);simp only[Nat.one_mul] at k0 k1 k2 k3;exact ⟨b3,k0,k1,k2,k3⟩
  go_upto_region 27 with fail;have hd6:Chg [K.p] w1 w6.drew:=HC6.out.trans (Chg.of_below (Below.refl w6.heap.size w6).drew [K.p]);have HM7:=Zh HM6.out.drew;have HC7:=Zh hd6;clear hd6 HM6 HC6;refine wp_region_held_drew (S:=(fun W'=>Chg [K.p] w1 W'∧W'.cell? ⟨eb,3,none⟩=some (.slice (some ⟨kb,o,none⟩) [a,b].length cc)∧W'.cell? ⟨kb,o+4,none⟩=some (.int .i64 b.kind)∧W'.cell? ⟨kb,o+4+1,none⟩=some (.int .i64 b.num)∧W'.cell? ⟨kb,o+4+2,none⟩=some (.string (bs b.name))∧W'.cell? ⟨kb,o+4+3,none⟩=some (.slice db b.kids.length cb))) (by kernel_rfl) (⟨HC7.out,F6.out _ HC7.out⟩) (fun hH=>?_);generalize w6.drew=w7 at *;refine ZT (i:=0) (v:=?vL0) rfl (Or.inl ⟨by rfl,?yL0⟩) ?_
  case yL0=>exact ZyQ
  try simp only[Act.put,ZA,ZB,ZC]
  refine ZT (i:=1) (v:=?vL1) rfl (Or.inl ⟨by rfl,?yL1⟩) ?_
  case yL1=>exact ZyQ
  try simp only[Act.put,ZA,ZB,ZC]
  refine ZT (i:=2) (v:=?vL2) rfl (Or.inl ⟨by rfl,?yL2⟩) ?_
  case yL2=>exact ZyQ
  try simp only[Act.put,ZA,ZB,ZC]
  refine ZT (i:=3) (v:=?vL3) rfl (Or.inl ⟨by rfl,?yL3⟩) ?_
  case yL3=>exact ZyQ
  try simp only[Act.put,ZA,ZB,ZC]
  refine ZT (i:=4) (v:=?vL4) rfl (Or.inl ⟨by rfl,?yL4⟩) ?_
  case yL4=>exact ZyQ
  try simp only[Act.put,ZA,ZB,ZC]
  refine ZT (i:=5) (v:=?vL5) rfl (Or.inl ⟨by rfl,?yL5⟩) ?_
  case yL5=>exact ZyQ
  try simp only[Act.put,ZA,ZB,ZC]
  refine ZT (i:=6) (v:=?vL6) rfl (Or.inl ⟨by rfl,?yL6⟩) ?_
  case yL6=>exact ZyQ
  try simp only[Act.put,ZA,ZB,ZC]
  refine ZT (i:=7) (v:=?vL7) rfl (Or.inl ⟨by rfl,?yL7⟩) ?_
  case yL7=>exact ZyQ
  try simp only[Act.put,ZA,ZB,ZC]
  refine ZT (i:=8) (v:=?vL8) rfl (Or.inl ⟨by rfl,?yL8⟩) ?_
  case yL8=>exact ZyQ
  try simp only[Act.put,ZA,ZB,ZC]
  refine ZT (i:=9) (v:=?vL9) rfl (Or.inl ⟨by rfl,?yL9⟩) ?_
  case yL9=>exact ZyQ
  try simp only[Act.put,ZA,ZB,ZC]
  refine ZT (i:=10) (v:=?vL10) rfl (Or.inl ⟨by rfl,?yL10⟩) ?_
  case yL10=>exact ZyQ
  try simp only[Act.put,ZA,ZB,ZC]
  refine ZT (i:=11) (v:=?vL11) rfl (Or.inl ⟨by rfl,?yL11⟩) ?_
  case yL11=>exact ZyQ
  try simp only[Act.put,ZA,ZB,ZC]
  refine ZR (rs:=[12]) (AllReadyH.cons rfl (fun K9 hK=>?_) AllReadyH.nil);have hb8:Below w7.heap.size w7 (w7.alloc (.cells #[.int .i64 v] 3)):=zzb.alloc zzl _;have hc8:Chg [K.p] w1 (w7.alloc (.cells #[.int .i64 v] 3)):=HC7.out.trans (Chg.of_below hb8 [K.p]);have HC8:=Zh hc8;have HM8:=Zh (HM7.out.up hb8);have HRW:=Zh (zzw w7 (.cells #[.int .i64 v] 3));clear hb8 hc8;go_simp;refine hK.out _ _ (⟨HC8.out,F6.out _ HC8.out⟩) (fun hH=>?_);clear hK K9
  try simp only[Act.put,ZA,ZB,ZC]
  refine ZR (rs:=[13]) (AllReadyH.cons rfl (fun K9 hK=>?_) AllReadyH.nil);have hsv2:(vars=[]∧∃ ad,(Value.slice sa sm sc)=.slice ad 0 0)∨∃ g o,(Value.slice sa sm sc)=.slice (some ⟨g,o,none⟩) vars.length vars.length∧∀ i n,vars[i]?=some n→(w7.alloc (.cells #[.int .i64 v] 3)).cell? ⟨g,o+i,none⟩=some (Value.int .i64 n):=HSV.out.imp id (fun ⟨g,o,h1,h2⟩=>⟨g,o,h1,h2 _ HC8.out⟩)
  (refine JL (w7.alloc (.cells #[.int .i64 v] 3)) (by rfl) (.tmp 120) (.tmp 122) (by rfl) vars _ hsv2 (by rfl) w7.heap.size v (by rfl) HRW.out HVL.out K.p HM8.out.lt ?_; intro w9 cc9 hi9 hb9)
  have HC9:=Zh (HC8.out.trans (Chg.of_below hb9 [K.p]));have HM9:=Zh (HM8.out.up hb9);have HI9:=Zh hi9;generalize (w7.alloc (.cells #[.int .i64 v] 3)).heap.size=g9 at *;clear hsv2 hi9 hb9 HRW HC8 HM8 HSV HC7 HM7;refine hK.out _ _ (⟨HC9.out,F6.out _ HC9.out⟩) (fun hH=>?_);clear hK K9
  try simp only[Act.put,ZA,ZB,ZC]
  refine ZR (rs:=[14]) (AllReadyH.cons rfl (fun K9 hK=>?_) AllReadyH.nil);have hHb:=HH.out.let2 HXb.out HM9.out HVO.out HI9.out HU6.out;have cn:=HIH.out b _ _ _ _ _ _ w9 u6 (by have:=HN.out; have:=KE (l:=[a,b]) (y:=b) (by simp); omega) hHb;clear hHb
  (go_simp; go_at_call 42; refine cn.mono ?_; intro e w10 h10)
  clear cn
  cases hz:evK K d (vars++[v]) u6 b with
  | fault er u9=>
   rw[hz] at h10;obtain ⟨rfl,hm10,hc10⟩:=h10;refine ⟨rfl,?_⟩;rw[HX.out,HY.out,RN.bind_val,hz];exact ⟨rfl,hm10,HC1.out.trans (HC9.out.trans hc10)⟩
  | val v9 u9=>
   rw[hz] at h10;obtain ⟨rfl,hm10,hc10⟩:=h10;have HZ:=Zh hz;have HM10:=Zh hm10;have HC10:=Zh (HC9.out.trans hc10);clear hz hm10 hc10;refine hK.out _ _ (⟨HC10.out,F6.out _ HC10.out⟩) (fun hH=>?_);clear hK K9
   try simp only[Act.put,ZA,ZB,ZC]
   refine ZT (i:=15) (v:=?vL15) rfl (Or.inl ⟨by rfl,?yL15⟩) ?_
   case yL15=>exact ZyQ
   try simp only[Act.put,ZA,ZB,ZC]
   refine wpAnyH_done (by kernel_rfl) ?_ _;clear hH;go_wp2;go_ret;rw[HX.out,HY.out,RN.bind_val,HZ.out];exact ⟨rfl,HM10.out,HC1.out.trans HC10.out⟩
end Go.Proofs.YtncanmdgdflnpaaGreatDoor
