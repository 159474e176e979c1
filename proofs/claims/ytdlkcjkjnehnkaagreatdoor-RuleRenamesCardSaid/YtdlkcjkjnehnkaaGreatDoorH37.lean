import Derived.Test.YtdlkcjkjnehnkaaGreatDoorH36
open List(getElem?_eq_getElem mem_of_getElem? ne_nil_of_mem)
namespace Go.Proofs.YtdlkcjkjnehnkaaGreatDoor
open Go Go.ChangeShapes Go.WideShapes Go.ChangeAt Go.RowKit Go.Lib
open _root_.Go.Proofs.Tryz
set_option linter.all false
set_option maxRecDepth 100000
set_option maxHeartbeats 32000000
theorem Zx(w:World)(o0 o1:Obj):((w.alloc o0).alloc o1).heap[w.heap.size]?=some o0/\((w.alloc o0).alloc o1).heap[w.heap.size+1]?=some o1:=by
 have h0:=zzw w o0;have h1:=zzw (w.alloc o0) o1;simp only[World.size_alloc]at h1;exact⟨Jg h0,h1⟩
theorem Qcv{W:World}{b t:Nat}{a0 a1 a2:Value}{fr:Nat × Nat}(h:W.heap[b]?=some (.cells #[a0,a1,a2] t fr)) :
  W.cell? ⟨b,0,none⟩=some a0/\W.cell? ⟨b,1,none⟩=some a1/\W.cell? ⟨b,2,none⟩=some a2:=by
 refine⟨?_,?_,?_⟩<;>(rw[Ja h];rfl)
def BxB(T:TypeId)(w1:World)(eb:Nat)(cs:Array Value):Prop:=∀ W,Below w1.heap.size w1 W->W.heap[eb]?=some (.cells cs T (0,0))
theorem BxB.of{T:TypeId}{w1:World}{eb:Nat}{cs:Array Value}(h:w1.heap[eb]?=some (.cells cs T (0,0))):BxB T w1 eb cs:=fun W hW=>(hW.block _ (Jb h)).trans h
theorem Qjk{P:Prop}(h:P:=by
  subst hqf;clear HQ;go_wp2;go_ret
  exact⟨rfl,Jd HB0.out HBC.out⟩):P:=h
theorem Qkr{P:Prop}(h:P:=by
  have hqf:q=false:=by rw[<- hq,decide_eq_false e1];rfl
  subst hqf;clear e1 hq;go_wp2;go_ret
  exact⟨rfl,Jd HB0.out HBC.out⟩):P:=h
theorem JgV{w0:World}(f g:FnM)(d1 d2:List Value)(W:World)(hp:f.params.length<=1000000)(hs:siz (utN f.body)<=1000000)(h1:FnX w0 (In w0) f d1)(h2:FnX w0 (In w0) g d2)(hb:Bel w0 W):Calls prog 43 #[.agg d1.toArray,.agg d2.toArray] W (Qck W (.bool (eqF f g))):=by
 obtain⟨pa,pc,xa,xc,rfl,n1,b1⟩:=h1.form;obtain⟨pa2,pc2,xa2,xc2,rfl,n2,b2⟩:=h2.form;have ci:=fun V hV=>JeN n1 n2 hp V hV
 have ce:=fun V hV=>Zw f.body g.body _ _ V hs b1 b2 hV
 obtain⟨q,hq⟩:∃ q,eqF f g=q:=⟨_,rfl⟩
 rw[hq];unfold eqF at hq;obtain⟨p,hp2⟩:∃ p,QcT eqI f.params g.params=p:=⟨_,rfl⟩
 obtain⟨z,hz⟩:∃ z,eqE f.body g.body=z:=⟨_,rfl⟩
 rw[hp2,hz]at hq;have ci2:=ci;have ce2:=ce;rw[hz]at ce2;rw[hp2]at ci2;have HCI:=Zh ci2;have HCE:=Zh ce2;have u1:=Jl f.name;have u2:=Jl g.name;clear hp hs h1 h2 n1 n2 b1 b2 ci ce ci2 ce2 hp2 hz;obtain⟨hz0,hz1⟩:=Zx W (.cells #[.string (bs f.name),.slice pa f.params.length pc,.int .i64 f.result,.int .i64 f.body.kind,.int .i64 f.body.num,.string (bs f.body.name),.slice xa f.body.kids.length xc] 44) (.cells #[.string (bs g.name),.slice pa2 g.params.length pc2,.int .i64 g.result,.int .i64 g.body.kind,.int .i64 g.body.num,.string (bs g.body.name),.slice xa2 g.body.kids.length xc2] 44);have HX:=Zh (BxB.of hz0);have HY:=Zh (BxB.of hz1);have HB0:Hid (Bel W _):=K8 W (.cells #[.string (bs f.name),.slice pa f.params.length pc,.int .i64 f.result,.int .i64 f.body.kind,.int .i64 f.body.num,.string (bs f.body.name),.slice xa f.body.kids.length xc] 44) (.cells #[.string (bs g.name),.slice pa2 g.params.length pc2,.int .i64 g.result,.int .i64 g.body.kind,.int .i64 g.body.num,.string (bs g.body.name),.slice xa2 g.body.kids.length xc2] 44);have HBW:=Zh (Jd hb HB0.out);clear hz0 hz1 hb;go_enter func43,ntmps43;go_upto_region 1 with fail;generalize World.alloc (World.alloc W _) _=w1 at *;generalize W.heap.size+1=yb at *;generalize W.heap.size=xb at *;have HBC:Hid (Bel w1 w1):=Below.refl _ _
 skip
 obtain⟨x0,x1,x2,x3,x4,x5,x6⟩:=Qdt (HX.out _ HBC.out);obtain⟨y0,y1,y2,y3,y4,y5,y6⟩:=Qdt (HY.out _ HBC.out)
 by_cases e1:f.name=g.name
 rotate_left
 ·have qs:(f.name==g.name)=false:=zzq e1;exact Qkr
 have qs:(f.name==g.name)=true:=beq_iff_eq.2 e1;have hq1:q=(p&&(decide (f.result=g.result)&&z)):=by rw[<- hq,decide_eq_true e1];rfl
 have HQ:=Zh hq1;clear hq hq1 e1;have c1:=HCI.out w1 HBW.out;go_wp2_with fail;refine c1.mono ?_;rintro e w2 ⟨rfl,hb2⟩;replace HBC:Hid (Bel w1 w2):=hb2;clear c1 hb2 qs u1 u2 x0 y0 x1 y1 x2 y2 x3 y3 x4 y4 x5 y5 x6 y6
 cases p with
 |false=>
  have hqf:q=false:=HQ.out;exact Qjk
 |true=>
 obtain⟨x0,x1,x2,x3,x4,x5,x6⟩:=Qdt (HX.out _ HBC.out);obtain⟨y0,y1,y2,y3,y4,y5,y6⟩:=Qdt (HY.out _ HBC.out)
 by_cases e2:f.result=g.result
 rotate_left
 ·have qr:(f.result==g.result)=false:=zzq e2;have hqf:q=false:=by rw[HQ.out,decide_eq_false e2];rfl
  subst hqf;clear HQ e2;go_wp2;go_ret;exact⟨rfl,Jd HB0.out HBC.out⟩
 have qr:(f.result==g.result)=true:=beq_iff_eq.2 e2;have hqz:q=z:=by rw[HQ.out,decide_eq_true e2];simp
 subst hqz;clear HQ e2;have c2:=HCE.out w2 (Jd HBW.out HBC.out);go_wp2_with fail;refine c2.mono ?_;rintro e w3 ⟨rfl,hb3⟩;replace HBC:Hid (Bel w1 w3):=Jd HBC.out hb3;clear c2 hb3 qr x0 y0 x1 y1 x2 y2 x3 y3 x4 y4 x5 y5 x6 y6;go_wp2;go_ret;exact⟨rfl,Jd HB0.out HBC.out⟩
theorem JgW{w0:World}(f g:ClM)(d1 d2:List Value)(W:World)(hs:siz (utN f.cond)<=1000000)(h1:ClX w0 (In w0) f d1)(h2:ClX w0 (In w0) g d2)(hb:Bel w0 W):Calls prog 47 #[.agg d1.toArray,.agg d2.toArray] W (Qck W (.bool (eqC f g))):=by
 obtain⟨xa,xc,rfl,b1⟩:=h1.form;obtain⟨xa2,xc2,rfl,b2⟩:=h2.form;have ce:=fun V hV=>Zw f.cond g.cond _ _ V hs b1 b2 hV
 obtain⟨q,hq⟩:∃ q,eqC f g=q:=⟨_,rfl⟩
 rw[hq];unfold eqC at hq;obtain⟨z,hz⟩:∃ z,eqE f.cond g.cond=z:=⟨_,rfl⟩
 rw[hz]at hq;have ce2:=ce;rw[hz]at ce2;have HCE:=Zh ce2;have u1:=Jl f.reason;have u2:=Jl g.reason;clear hs h1 h2 b1 b2 ce ce2 hz;obtain⟨hz0,hz1⟩:=Zx W (.cells #[.int .i64 f.cond.kind,.int .i64 f.cond.num,.string (bs f.cond.name),.slice xa f.cond.kids.length xc,.int .i64 f.action,.string (bs f.reason)] 32) (.cells #[.int .i64 g.cond.kind,.int .i64 g.cond.num,.string (bs g.cond.name),.slice xa2 g.cond.kids.length xc2,.int .i64 g.action,.string (bs g.reason)] 32);have HX:=Zh (BxB.of hz0);have HY:=Zh (BxB.of hz1);have HB0:Hid (Bel W _):=K8 W (.cells #[.int .i64 f.cond.kind,.int .i64 f.cond.num,.string (bs f.cond.name),.slice xa f.cond.kids.length xc,.int .i64 f.action,.string (bs f.reason)] 32) (.cells #[.int .i64 g.cond.kind,.int .i64 g.cond.num,.string (bs g.cond.name),.slice xa2 g.cond.kids.length xc2,.int .i64 g.action,.string (bs g.reason)] 32);have HBW:=Zh (Jd hb HB0.out);clear hz0 hz1 hb;go_enter func47,ntmps47;go_upto_region 1 with fail;generalize World.alloc (World.alloc W _) _=w1 at *;generalize W.heap.size+1=yb at *;generalize W.heap.size=xb at *;have HBC:Hid (Bel w1 w1):=Below.refl _ _;obtain⟨x0,x1,x2,x3,x4,x5⟩:=Qia (HX.out _ HBC.out);obtain⟨y0,y1,y2,y3,y4,y5⟩:=Qia (HY.out _ HBC.out);have c1:=HCE.out w1 HBW.out;go_wp2_with fail;refine c1.mono ?_;rintro e w2 ⟨rfl,hb2⟩;replace HBC:Hid (Bel w1 w2):=hb2;clear c1 hb2 x0 y0 x1 y1 x2 y2 x3 y3 x4 y4 x5 y5;have HQ:=Zh hq;clear hq
 cases z with
 |false=>
  have hqf:q=false:=HQ.out.symm;exact Qjk
 |true=>
 obtain⟨x0,x1,x2,x3,x4,x5⟩:=Qia (HX.out _ HBC.out);obtain⟨y0,y1,y2,y3,y4,y5⟩:=Qia (HY.out _ HBC.out)
 by_cases e2:f.action=g.action
 rotate_left
 ·have qr:(f.action==g.action)=false:=zzq e2;have hqf:q=false:=by rw[<- HQ.out,decide_eq_false e2];rfl
  subst hqf;clear HQ e2;go_wp2;go_ret;exact⟨rfl,Jd HB0.out HBC.out⟩
 have qr:(f.action==g.action)=true:=beq_iff_eq.2 e2
 by_cases e3:f.reason=g.reason
 ·have qs:(f.reason==g.reason)=true:=beq_iff_eq.2 e3;have hqf:q=true:=by rw[<- HQ.out,decide_eq_true e2,decide_eq_true e3];rfl
  subst hqf;clear HQ e2 e3;go_wp2;go_ret;exact⟨rfl,Jd HB0.out HBC.out⟩
 ·have qs:(f.reason==g.reason)=false:=zzq e3;have hqf:q=false:=by rw[<- HQ.out,decide_eq_true e2,decide_eq_false e3];rfl
  subst hqf;clear HQ e2 e3;go_wp2;go_ret;exact⟨rfl,Jd HB0.out HBC.out⟩
theorem JgX{w0:World}{l1 l2:List FnM}{ad1 ad2:Option Addr}{c1 c2:Nat}(g1:Qec w0 7 (FnX w0 (In w0)) l1 ad1)(g2:Qec w0 7 (FnX w0 (In w0)) l2 ad2)(hl:l1.length<=1000000)(hel:∀ x∈l1,∀ y∈l2,∀ d1 d2 W,(FnX w0 (In w0)) x d1->(FnX w0 (In w0)) y d2->Bel w0 W->Calls prog 43 #[.agg d1.toArray,.agg d2.toArray] W (Qck W (.bool (eqF x y))))(W:World)(hb:Bel w0 W) :
  Calls prog 42 #[.slice ad1 l1.length c1,.slice ad2 l2.length c2,.func (.func 43) #[] #[]] W (Qck W (.bool (QcT eqF l1 l2))):=by
 obtain⟨n,hn⟩:∃ n,l1.length=n:=⟨_,rfl⟩
 obtain⟨n2,hn2⟩:∃ n2,l2.length=n2:=⟨_,rfl⟩
 obtain⟨q,hq⟩:∃ q,QcT eqF l1 l2=q:=⟨_,rfl⟩
 rw[hn,hn2,hq];rw[hn]at hl;have HQ:=Zh hq;have HN:=Zh hn;have HN2:=Zh hn2;have HG1:=Zh g1;have HG2:=Zh g2;have HEL:=Zh hel;have HL:=Zh hl;have HB:=Zh hb;clear hq hn hn2 g1 g2 hel hl hb
 by_cases hne:n=n2
 rotate_left
 ·have t1:((n:Int) !=(n2:Int))=true:=by rw[bne,zzq (by omega)];rfl
  have hqf:q=false:=by rw[<- HQ.out];exact Vt (by rw[HN.out,HN2.out];exact hne)
  subst hqf;clear hne;go_enter func42,ntmps42;go_wp2;go_ret;exact⟨rfl,Below.refl _ _⟩
 subst hne;have HW0:Hid (Bel W W):=Below.refl _ _;go_enter func42,ntmps42;go_wp2_with fail;go_loopg [17] n (fun g v17 wr=>∃ i:Nat,g+i=n/\v17=.int .i64 (i:Int)/\Hid (Bel W wr/\∀ j x y,j<i->l1[j]?=some x->l2[j]?=some y->eqF x y=true))
 case atStart=>exact⟨0,rfl,rfl,HW0.out,fun j x y h=>absurd h (Nat.not_lt_zero _)⟩
 case round=>
  clear HW0;obtain⟨wl,rfl⟩:∃ wl:World,wl=wr:=⟨_,rfl⟩
  obtain⟨i,hg,rfl,hws⟩:=hrel;have HBW:Hid (Bel W wl):=hws.out.1;have HALL:=Zh hws.out.2;clear hws
  by_cases hi:i<n
  ·have dil:decide ((i:Int)<(n:Int))=true:=decide_eq_true (by omega);have diN:decide (i<n)=true:=decide_eq_true hi;have k0:0<=(i:Int):=by omega
   have k1:(i:Int)<(n:Int):=by omega
   have wk:IntKind.i64.wrap ((i:Int)+1)=((i+1:Nat):Int):=by have:=HL.out;rw[IntWalk.i64_in _ (by omega)];omega
   obtain⟨x,hx⟩:∃ x,l1[i]?=some x:=⟨_,getElem?_eq_getElem (by rw[HN.out];exact hi)⟩
   obtain⟨y,hy⟩:∃ y,l2[i]?=some y:=⟨_,getElem?_eq_getElem (by rw[HN2.out];exact hi)⟩
   obtain⟨b1,o1,ha1,hk1⟩:=HG1.out (ne_nil_of_mem (mem_of_getElem? hx));obtain⟨b2,o2,ha2,hk2⟩:=HG2.out (ne_nil_of_mem (mem_of_getElem? hy));subst ha1;subst ha2;obtain⟨d1,hr1,hc1⟩:=hk1 i x hx;obtain⟨d2,hr2,hc2⟩:=hk2 i y hy;have hr1f:=hr1;have hr2f:=hr2;obtain⟨pa,pc,xa,xc,rfl,_,_⟩:=hr1.form;obtain⟨pa2,pc2,xa2,xc2,rfl,_,_⟩:=hr2.form;have p0:=hc1 wl (Jd HB.out HBW.out) 0 _ rfl;have p1:=hc1 wl (Jd HB.out HBW.out) 1 _ rfl;have p2:=hc1 wl (Jd HB.out HBW.out) 2 _ rfl;have p3:=hc1 wl (Jd HB.out HBW.out) 3 _ rfl;have p4:=hc1 wl (Jd HB.out HBW.out) 4 _ rfl;have p5:=hc1 wl (Jd HB.out HBW.out) 5 _ rfl;have p6:=hc1 wl (Jd HB.out HBW.out) 6 _ rfl;have hB:Below wl.heap.size wl (wl.alloc (.cells #[.string (bs x.name),.slice pa x.params.length pc,.int .i64 x.result,.int .i64 x.body.kind,.int .i64 x.body.num,.string (bs x.body.name),.slice xa x.body.kids.length xc] 44)):=zzb.alloc zzl _;have hB2:Bel w0 (wl.alloc (.cells #[.string (bs x.name),.slice pa x.params.length pc,.int .i64 x.result,.int .i64 x.body.kind,.int .i64 x.body.num,.string (bs x.body.name),.slice xa x.body.kids.length xc] 44)):=Jd (Jd HB.out HBW.out) hB;have r0:=hc2 (wl.alloc (.cells #[.string (bs x.name),.slice pa x.params.length pc,.int .i64 x.result,.int .i64 x.body.kind,.int .i64 x.body.num,.string (bs x.body.name),.slice xa x.body.kids.length xc] 44)) hB2 0 _ rfl;have r1:=hc2 (wl.alloc (.cells #[.string (bs x.name),.slice pa x.params.length pc,.int .i64 x.result,.int .i64 x.body.kind,.int .i64 x.body.num,.string (bs x.body.name),.slice xa x.body.kids.length xc] 44)) hB2 1 _ rfl;have r2:=hc2 (wl.alloc (.cells #[.string (bs x.name),.slice pa x.params.length pc,.int .i64 x.result,.int .i64 x.body.kind,.int .i64 x.body.num,.string (bs x.body.name),.slice xa x.body.kids.length xc] 44)) hB2 2 _ rfl;have r3:=hc2 (wl.alloc (.cells #[.string (bs x.name),.slice pa x.params.length pc,.int .i64 x.result,.int .i64 x.body.kind,.int .i64 x.body.num,.string (bs x.body.name),.slice xa x.body.kids.length xc] 44)) hB2 3 _ rfl;have r4:=hc2 (wl.alloc (.cells #[.string (bs x.name),.slice pa x.params.length pc,.int .i64 x.result,.int .i64 x.body.kind,.int .i64 x.body.num,.string (bs x.body.name),.slice xa x.body.kids.length xc] 44)) hB2 4 _ rfl;have r5:=hc2 (wl.alloc (.cells #[.string (bs x.name),.slice pa x.params.length pc,.int .i64 x.result,.int .i64 x.body.kind,.int .i64 x.body.num,.string (bs x.body.name),.slice xa x.body.kids.length xc] 44)) hB2 5 _ rfl;have r6:=hc2 (wl.alloc (.cells #[.string (bs x.name),.slice pa x.params.length pc,.int .i64 x.result,.int .i64 x.body.kind,.int .i64 x.body.num,.string (bs x.body.name),.slice xa x.body.kids.length xc] 44)) hB2 6 _ rfl;simp only[Nat.add_zero]at p0 r0;have hB3:Bel wl ((wl.alloc (.cells #[.string (bs x.name),.slice pa x.params.length pc,.int .i64 x.result,.int .i64 x.body.kind,.int .i64 x.body.num,.string (bs x.body.name),.slice xa x.body.kids.length xc] 44)).alloc (.cells #[.string (bs y.name),.slice pa2 y.params.length pc2,.int .i64 y.result,.int .i64 y.body.kind,.int .i64 y.body.num,.string (bs y.body.name),.slice xa2 y.body.kids.length xc2] 44)):=hB.alloc (by simp) _;have ce:=HEL.out x (mem_of_getElem? hx) y (mem_of_getElem? hy) _ _ ((wl.alloc (.cells #[.string (bs x.name),.slice pa x.params.length pc,.int .i64 x.result,.int .i64 x.body.kind,.int .i64 x.body.num,.string (bs x.body.name),.slice xa x.body.kids.length xc] 44)).alloc (.cells #[.string (bs y.name),.slice pa2 y.params.length pc2,.int .i64 y.result,.int .i64 y.body.kind,.int .i64 y.body.num,.string (bs y.body.name),.slice xa2 y.body.kids.length xc2] 44)) hr1f hr2f (Jd (Jd HB.out HBW.out) hB3);obtain⟨z,hz⟩:∃ z,eqF x y=z:=⟨_,rfl⟩
   rw[hz]at ce;have HX:=Zh hx;have HY:=Zh hy;have HZ:=Zh hz;have HB3:=Zh hB3;have HG:Hid (gk+i=n/\i<n):=⟨hg,hi⟩
   clear hx hy hk1 hk2 hr1 hr2 hc1 hc2 hr1f hr2f hB hB2 hB3 hz hg hi;go_wp2_with fail;refine ce.mono ?_;rintro e w5 ⟨rfl,hb5⟩;have HB5:=Zh (Jd HBW.out (Jd HB3.out hb5));clear ce hb5 p0 r0 p1 r1 p2 r2 p3 r3 p4 r4 p5 r5 p6 r6
   cases z with
   |false=>
    exact Qly
   |true=>
    have HALL2:Hid (∀ j x y,j<i+1->l1[j]?=some x->l2[j]?=some y->eqF x y=true):=by
     exact QlD
    exact QlA
  ·have dil:decide ((i:Int)<(n:Int))=false:=decide_eq_false (by omega);exact QkY
theorem JgY{w0:World}{l1 l2:List ClM}{ad1 ad2:Option Addr}{c1 c2:Nat}(g1:Qec w0 6 (ClX w0 (In w0)) l1 ad1)(g2:Qec w0 6 (ClX w0 (In w0)) l2 ad2)(hl:l1.length<=1000000)(hel:∀ x∈l1,∀ y∈l2,∀ d1 d2 W,(ClX w0 (In w0)) x d1->(ClX w0 (In w0)) y d2->Bel w0 W->Calls prog 47 #[.agg d1.toArray,.agg d2.toArray] W (Qck W (.bool (eqC x y))))(W:World)(hb:Bel w0 W) :
  Calls prog 46 #[.slice ad1 l1.length c1,.slice ad2 l2.length c2,.func (.func 47) #[] #[]] W (Qck W (.bool (QcT eqC l1 l2))):=by
 obtain⟨n,hn⟩:∃ n,l1.length=n:=⟨_,rfl⟩
 obtain⟨n2,hn2⟩:∃ n2,l2.length=n2:=⟨_,rfl⟩
 obtain⟨q,hq⟩:∃ q,QcT eqC l1 l2=q:=⟨_,rfl⟩
 rw[hn,hn2,hq];rw[hn]at hl;have HQ:=Zh hq;have HN:=Zh hn;have HN2:=Zh hn2;have HG1:=Zh g1;have HG2:=Zh g2;have HEL:=Zh hel;have HL:=Zh hl;have HB:=Zh hb;clear hq hn hn2 g1 g2 hel hl hb
 by_cases hne:n=n2
 rotate_left
 ·have t1:((n:Int) !=(n2:Int))=true:=by rw[bne,zzq (by omega)];rfl
  have hqf:q=false:=by rw[<- HQ.out];exact Vt (by rw[HN.out,HN2.out];exact hne)
  subst hqf;clear hne;go_enter func46,ntmps46;go_wp2;go_ret;exact⟨rfl,Below.refl _ _⟩
 subst hne;have HW0:Hid (Bel W W):=Below.refl _ _;go_enter func46,ntmps46;go_wp2_with fail;go_loopg [17] n (fun g v17 wr=>∃ i:Nat,g+i=n/\v17=.int .i64 (i:Int)/\Hid (Bel W wr/\∀ j x y,j<i->l1[j]?=some x->l2[j]?=some y->eqC x y=true))
 case atStart=>exact⟨0,rfl,rfl,HW0.out,fun j x y h=>absurd h (Nat.not_lt_zero _)⟩
 case round=>
  clear HW0;obtain⟨wl,rfl⟩:∃ wl:World,wl=wr:=⟨_,rfl⟩
  obtain⟨i,hg,rfl,hws⟩:=hrel;have HBW:Hid (Bel W wl):=hws.out.1;have HALL:=Zh hws.out.2;clear hws
  by_cases hi:i<n
  ·have dil:decide ((i:Int)<(n:Int))=true:=decide_eq_true (by omega);have diN:decide (i<n)=true:=decide_eq_true hi;have k0:0<=(i:Int):=by omega
   have k1:(i:Int)<(n:Int):=by omega
   have wk:IntKind.i64.wrap ((i:Int)+1)=((i+1:Nat):Int):=by have:=HL.out;rw[IntWalk.i64_in _ (by omega)];omega
   obtain⟨x,hx⟩:∃ x,l1[i]?=some x:=⟨_,getElem?_eq_getElem (by rw[HN.out];exact hi)⟩
   obtain⟨y,hy⟩:∃ y,l2[i]?=some y:=⟨_,getElem?_eq_getElem (by rw[HN2.out];exact hi)⟩
   obtain⟨b1,o1,ha1,hk1⟩:=HG1.out (ne_nil_of_mem (mem_of_getElem? hx));obtain⟨b2,o2,ha2,hk2⟩:=HG2.out (ne_nil_of_mem (mem_of_getElem? hy));subst ha1;subst ha2;obtain⟨d1,hr1,hc1⟩:=hk1 i x hx;obtain⟨d2,hr2,hc2⟩:=hk2 i y hy;have hr1f:=hr1;have hr2f:=hr2;obtain⟨xa,xc,rfl,_⟩:=hr1.form;obtain⟨xa2,xc2,rfl,_⟩:=hr2.form;have p0:=hc1 wl (Jd HB.out HBW.out) 0 _ rfl;have p1:=hc1 wl (Jd HB.out HBW.out) 1 _ rfl;have p2:=hc1 wl (Jd HB.out HBW.out) 2 _ rfl;have p3:=hc1 wl (Jd HB.out HBW.out) 3 _ rfl;have p4:=hc1 wl (Jd HB.out HBW.out) 4 _ rfl;have p5:=hc1 wl (Jd HB.out HBW.out) 5 _ rfl;have hB:Below wl.heap.size wl (wl.alloc (.cells #[.int .i64 x.cond.kind,.int .i64 x.cond.num,.string (bs x.cond.name),.slice xa x.cond.kids.length xc,.int .i64 x.action,.string (bs x.reason)] 32)):=zzb.alloc zzl _;have hB2:Bel w0 (wl.alloc (.cells #[.int .i64 x.cond.kind,.int .i64 x.cond.num,.string (bs x.cond.name),.slice xa x.cond.kids.length xc,.int .i64 x.action,.string (bs x.reason)] 32)):=Jd (Jd HB.out HBW.out) hB;have r0:=hc2 (wl.alloc (.cells #[.int .i64 x.cond.kind,.int .i64 x.cond.num,.string (bs x.cond.name),.slice xa x.cond.kids.length xc,.int .i64 x.action,.string (bs x.reason)] 32)) hB2 0 _ rfl;have r1:=hc2 (wl.alloc (.cells #[.int .i64 x.cond.kind,.int .i64 x.cond.num,.string (bs x.cond.name),.slice xa x.cond.kids.length xc,.int .i64 x.action,.string (bs x.reason)] 32)) hB2 1 _ rfl;have r2:=hc2 (wl.alloc (.cells #[.int .i64 x.cond.kind,.int .i64 x.cond.num,.string (bs x.cond.name),.slice xa x.cond.kids.length xc,.int .i64 x.action,.string (bs x.reason)] 32)) hB2 2 _ rfl;have r3:=hc2 (wl.alloc (.cells #[.int .i64 x.cond.kind,.int .i64 x.cond.num,.string (bs x.cond.name),.slice xa x.cond.kids.length xc,.int .i64 x.action,.string (bs x.reason)] 32)) hB2 3 _ rfl;have r4:=hc2 (wl.alloc (.cells #[.int .i64 x.cond.kind,.int .i64 x.cond.num,.string (bs x.cond.name),.slice xa x.cond.kids.length xc,.int .i64 x.action,.string (bs x.reason)] 32)) hB2 4 _ rfl;have r5:=hc2 (wl.alloc (.cells #[.int .i64 x.cond.kind,.int .i64 x.cond.num,.string (bs x.cond.name),.slice xa x.cond.kids.length xc,.int .i64 x.action,.string (bs x.reason)] 32)) hB2 5 _ rfl;simp only[Nat.add_zero]at p0 r0;have hB3:Bel wl ((wl.alloc (.cells #[.int .i64 x.cond.kind,.int .i64 x.cond.num,.string (bs x.cond.name),.slice xa x.cond.kids.length xc,.int .i64 x.action,.string (bs x.reason)] 32)).alloc (.cells #[.int .i64 y.cond.kind,.int .i64 y.cond.num,.string (bs y.cond.name),.slice xa2 y.cond.kids.length xc2,.int .i64 y.action,.string (bs y.reason)] 32)):=hB.alloc (by simp) _;have ce:=HEL.out x (mem_of_getElem? hx) y (mem_of_getElem? hy) _ _ ((wl.alloc (.cells #[.int .i64 x.cond.kind,.int .i64 x.cond.num,.string (bs x.cond.name),.slice xa x.cond.kids.length xc,.int .i64 x.action,.string (bs x.reason)] 32)).alloc (.cells #[.int .i64 y.cond.kind,.int .i64 y.cond.num,.string (bs y.cond.name),.slice xa2 y.cond.kids.length xc2,.int .i64 y.action,.string (bs y.reason)] 32)) hr1f hr2f (Jd (Jd HB.out HBW.out) hB3);obtain⟨z,hz⟩:∃ z,eqC x y=z:=⟨_,rfl⟩
   rw[hz]at ce;have HX:=Zh hx;have HY:=Zh hy;have HZ:=Zh hz;have HB3:=Zh hB3;have HG:Hid (gk+i=n/\i<n):=⟨hg,hi⟩
   clear hx hy hk1 hk2 hr1 hr2 hc1 hc2 hr1f hr2f hB hB2 hB3 hz hg hi;go_wp2_with fail;refine ce.mono ?_;rintro e w5 ⟨rfl,hb5⟩;have HB5:=Zh (Jd HBW.out (Jd HB3.out hb5));clear ce hb5 p0 r0 p1 r1 p2 r2 p3 r3 p4 r4 p5 r5
   cases z with
   |false=>
    exact Qly
   |true=>
    have HALL2:Hid (∀ j x y,j<i+1->l1[j]?=some x->l2[j]?=some y->eqC x y=true):=by
     exact QlD
    exact QlA
  ·have dil:decide ((i:Int)<(n:Int))=false:=decide_eq_false (by omega);exact QkY
theorem Jaf{w0:World}(a b:Qaq)(ca cb:Array Value)(W:World)(hz:RSz a)(h1:QaZ w0 (In w0) a ca)(h2:QaZ w0 (In w0) b cb)(hb:Bel w0 W):Calls prog 17 #[.agg ca,.agg cb] W (Qck W (.bool (eqR a b))):=by
 obtain⟨fv,cv,rfl,f1,k1⟩:=h1;obtain⟨fv2,cv2,rfl,f2,k2⟩:=h2;obtain⟨ad,cc,rfl,g1⟩:=Qec.of FnX.len f1;obtain⟨ad2,cc2,rfl,g2⟩:=Qec.of FnX.len f2;obtain⟨bd,dc,rfl,g3⟩:=Qec.of ClX.len k1;obtain⟨bd2,dc2,rfl,g4⟩:=Qec.of ClX.len k2;have cf:=fun V hV=>JgX (c1:=cc) (c2:=cc2) g1 g2 hz.nf (fun x hx y _ d1 d2 W h1 h2 hb=>JgV x y d1 d2 W (hz.fn x hx).2.1 (hz.fn x hx).2.2.2 h1 h2 hb) V hV
 have ck:=fun V hV=>JgY (c1:=dc) (c2:=dc2) g3 g4 hz.nc (fun x hx y _ d1 d2 W h1 h2 hb=>JgW x y d1 d2 W (hz.cl x hx).2.1 h1 h2 hb) V hV
 obtain⟨q,hq⟩:∃ q,eqR a b=q:=⟨_,rfl⟩
 rw[hq];unfold eqR at hq;obtain⟨p,hp⟩:∃ p,QcT eqF a.funcs b.funcs=p:=⟨_,rfl⟩
 obtain⟨z,hz2⟩:∃ z,QcT eqC a.clauses b.clauses=z:=⟨_,rfl⟩
 rw[hp,hz2]at hq;have cf2:=cf;have ck2:=ck;rw[hp]at cf2;rw[hz2]at ck2;have HCF:=Zh cf2;have HCK:=Zh ck2;clear hz f1 f2 k1 k2 g1 g2 g3 g4 cf ck cf2 ck2 hp hz2;obtain⟨hz0,hz1⟩:=Zx W (.cells #[.slice ad a.funcs.length cc,.slice bd a.clauses.length dc,.int .i64 a.action] 25) (.cells #[.slice ad2 b.funcs.length cc2,.slice bd2 b.clauses.length dc2,.int .i64 b.action] 25);have HX:=Zh (BxB.of hz0);have HY:=Zh (BxB.of hz1);have HB0:Hid (Bel W _):=K8 W (.cells #[.slice ad a.funcs.length cc,.slice bd a.clauses.length dc,.int .i64 a.action] 25) (.cells #[.slice ad2 b.funcs.length cc2,.slice bd2 b.clauses.length dc2,.int .i64 b.action] 25);have HBW:=Zh (Jd hb HB0.out);clear hz0 hz1 hb;go_enter func17,ntmps17;go_upto_region 1 with fail;generalize World.alloc (World.alloc W _) _=w1 at *;generalize W.heap.size+1=yb at *;generalize W.heap.size=xb at *;have HBC:Hid (Bel w1 w1):=Below.refl _ _;obtain⟨x0,x1,x2⟩:=Qcv (HX.out _ HBC.out);obtain⟨y0,y1,y2⟩:=Qcv (HY.out _ HBC.out)
 by_cases e1:a.action=b.action
 rotate_left
 ·have qs:(a.action==b.action)=false:=zzq e1;exact Qkr
 have qs:(a.action==b.action)=true:=beq_iff_eq.2 e1;have hq1:q=(p&&z):=by rw[<- hq,decide_eq_true e1];rfl
 have HQ:=Zh hq1;clear hq hq1 e1;have c1:=HCF.out w1 HBW.out;go_wp2_with fail;refine c1.mono ?_;rintro e w2 ⟨rfl,hb2⟩;replace HBC:Hid (Bel w1 w2):=hb2;clear c1 hb2 qs x0 y0 x1 y1 x2 y2
 cases p with
 |false=>
  have hqf:q=false:=HQ.out;exact Qjk
 |true=>
 obtain⟨x0,x1,x2⟩:=Qcv (HX.out _ HBC.out);obtain⟨y0,y1,y2⟩:=Qcv (HY.out _ HBC.out);have hqz:q=z:=HQ.out;subst hqz;clear HQ;have c2:=HCK.out w2 (Jd HBW.out HBC.out);go_wp2_with fail;refine c2.mono ?_;rintro e w3 ⟨rfl,hb3⟩;replace HBC:Hid (Bel w1 w3):=Jd HBC.out hb3;clear c2 hb3 x0 y0 x1 y1 x2 y2;go_wp2;go_ret;exact⟨rfl,Jd HB0.out HBC.out⟩
theorem Qeq{W:World}{b t:Nat}{a0 a1 a2 a3:Value}{fr:Nat × Nat}(h:W.heap[b]?=some (.cells #[a0,a1,a2,a3] t fr)) :
  W.cell? ⟨b,0,none⟩=some a0/\W.cell? ⟨b,1,none⟩=some a1/\W.cell? ⟨b,2,none⟩=some a2/\W.cell? ⟨b,3,none⟩=some a3:=by
 refine⟨?_,?_,?_,?_⟩<;>(rw[Ja h];rfl)
theorem Qkw{P:Prop}(h:P:=by
  obtain⟨x0,x1,x2,x3⟩:=Qeq (HX.out _ (Jd HBC.out hb));obtain⟨y0,y1,y2,y3⟩:=Qeq (HY.out _ (Jd HBC.out hb))
  exact bx4):P:=h
theorem Vl{w0:World}:∀ (x y:Exp) (d1 d2:List Value) (W:World),siz (utN x)<=1000000->QdC w0 x d1->QdC w0 y d2->Bel w0 W->Calls prog 21 #[.agg d1.toArray,.agg d2.toArray] W (Qck W (.bool (eqE x y)))
 |.mk k n s l,.mk k' n' s' l',d1,d2,W,hs,h1,h2,hb=>by
  obtain⟨a1,c1,e1,g1⟩:=Qec.kids h1;obtain⟨a2,c2,e2,g2⟩:=Qec.kids h2;rw[e1,e2];have u1:=Jl s;have u2:=Jl s';have hsl:Qbq (utL l)<=1000000:=by rw[utN,JG]at hs;omega
  have hel:∀ x∈l,∀ y∈l',∀ d1 d2 W,QdC w0 x d1->QdC w0 y d2->Bel w0 W->Calls prog 21 #[.agg d1.toArray,.agg d2.toArray] W (Qck W (.bool (eqE x y))):=
   fun x hx y hy d1 d2 W h1 h2 hb=>Vl x y d1 d2 W (Nat.le_trans (JcY hx) hsl) h1 h2 hb
  have hll:l.length<=1000000:=Nat.le_trans (JcX l) hsl;obtain⟨q,hq⟩:∃ q,eqE (.mk k n s l) (.mk k' n' s' l')=q:=⟨_,rfl⟩
  rw[hq];rw[eqE,JcW]at hq;obtain⟨m,hm⟩:∃ m,l.length=m:=⟨_,rfl⟩
  obtain⟨m2,hm2⟩:∃ m2,l'.length=m2:=⟨_,rfl⟩
  rw[hm]at hll;have HM:=Zh hm;have HM2:=Zh hm2;have HLL:=Zh hll;have HEL:=Zh hel;have HG1:=Zh g1;have HG2:=Zh g2;rw[hm,hm2];clear e1 e2 hs h1 h2 hsl hel hll g1 g2 hm hm2;obtain⟨hz0,hz1⟩:=Zx W (.cells #[.int .i64 k,.int .i64 n,.string (bs s),.slice a1 m c1] 30) (.cells #[.int .i64 k',.int .i64 n',.string (bs s'),.slice a2 m2 c2] 30);have HX:=Zh (BxB.of hz0);have HY:=Zh (BxB.of hz1);have HB0:Hid (Bel W _):=K8 W (.cells #[.int .i64 k,.int .i64 n,.string (bs s),.slice a1 m c1] 30) (.cells #[.int .i64 k',.int .i64 n',.string (bs s'),.slice a2 m2 c2] 30);have HBW:=Zh (Jd hb HB0.out);clear hz0 hz1 hb;go_enter func21,ntmps21;go_upto_region 1 with fail;generalize World.alloc (World.alloc W _) _=w1 at *;generalize W.heap.size+1=yb at *;generalize W.heap.size=xb at *;have HBC:Hid (Bel w1 w1):=Below.refl _ _;obtain⟨x0,x1,x2,x3⟩:=Qeq (HX.out _ HBC.out);obtain⟨y0,y1,y2,y3⟩:=Qeq (HY.out _ HBC.out)
  by_cases e3:k=k'
  rotate_left
  ·have qe3:(k !=k')=true:=by rw[bne,zzq e3];rfl
   have hqf:q=false:=by rw[<- hq,decide_eq_false e3];simp
   subst hqf;clear hq e3;go_wp2;go_ret;exact⟨rfl,Jd HB0.out HBC.out⟩
  have qe3:(k !=k')=false:=by rw[bne,beq_iff_eq.2 e3];rfl
  by_cases e4:n=n'
  rotate_left
  ·have qe4:(n !=n')=true:=by rw[bne,zzq e4];rfl
   have hqf:q=false:=by rw[<- hq,decide_eq_false e4];simp
   subst hqf;clear hq e4;go_wp2;go_ret;exact⟨rfl,Jd HB0.out HBC.out⟩
  have qe4:(n !=n')=false:=by rw[bne,beq_iff_eq.2 e4];rfl
  by_cases e5:s=s'
  rotate_left
  ·have qe5:(s !=s')=true:=by rw[bne,zzq e5];rfl
   have qs5:(s==s')=false:=zzq e5;have hqf:q=false:=by rw[<- hq,decide_eq_false e5];simp
   subst hqf;clear hq e5;go_wp2;go_ret;exact⟨rfl,Jd HB0.out HBC.out⟩
  have qe5:(s !=s')=false:=by rw[bne,beq_iff_eq.2 e5];rfl
  have qs5:(s==s')=true:=beq_iff_eq.2 e5
  by_cases e6:m=m2
  rotate_left
  ·have q6:((m:Int) !=(m2:Int))=true:=by rw[bne,zzq (by omega)];rfl
   have hqf:q=false:=by rw[<- hq,Vt (a:=l) (b:=l') (by rw[HM.out,HM2.out];exact e6)];simp
   subst hqf;clear hq e6;go_wp2;go_ret;exact⟨rfl,Jd HB0.out HBC.out⟩
  have q6:((m:Int) !=(m2:Int))=false:=by rw[bne,beq_iff_eq.2 (by omega)];rfl
  have hq2:QcT eqE l l'=q:=by rw[<- hq,decide_eq_true e3,decide_eq_true e4,decide_eq_true e5];simp
  have HQ:=Zh hq2;have HE6:=Zh e6;clear hq hq2 e3 e4 e5 e6;go_wp2_with fail;go_loopg [5] m (fun g v5 wr=>∃ i:Nat,g+i=m/\v5=.int .i64 (i:Int)/\Hid (Bel w1 wr/\∀ (j:Nat) (x y:Exp),j<i->l[j]?=some x->l'[j]?=some y->eqE x y=true))
  case atStart=>exact⟨0,rfl,rfl,HBC.out,fun j x y h=>absurd h (Nat.not_lt_zero _)⟩
  case round=>
   clear HBC qe3 qe4 qe5 qs5 q6 u1 u2 x0 x1 x2 x3 y0 y1 y2 y3;obtain⟨wl,rfl⟩:∃ wl:World,wl=wr:=⟨_,rfl⟩
   obtain⟨i,hg,rfl,hws⟩:=hrel;have HBC:Hid (Bel w1 wl):=hws.out.1;have HALL:=Zh hws.out.2;clear hws;obtain⟨x0,x1,x2,x3⟩:=Qeq (HX.out _ HBC.out);obtain⟨y0,y1,y2,y3⟩:=Qeq (HY.out _ HBC.out)
   by_cases hi:i<m
   ·have dil:decide ((i:Int)<(m:Int))=true:=decide_eq_true (by omega);have diN:decide (i<m)=true:=decide_eq_true hi;have wk:IntKind.i64.wrap ((i:Int)+1)=((i+1:Nat):Int):=by have:=HLL.out;rw[IntWalk.i64_in _ (by omega)];omega
    obtain⟨x,hx⟩:∃ x,l[i]?=some x:=⟨_,getElem?_eq_getElem (by rw[HM.out];exact hi)⟩
    obtain⟨y,hy⟩:∃ y,l'[i]?=some y:=⟨_,getElem?_eq_getElem (by rw[HM2.out,<- HE6.out];exact hi)⟩
    obtain⟨b1,o1,ha1,hk1⟩:=HG1.out (ne_nil_of_mem (mem_of_getElem? hx));obtain⟨b2,o2,ha2,hk2⟩:=HG2.out (ne_nil_of_mem (mem_of_getElem? hy));subst ha1;subst ha2;obtain⟨d1,hr1,hc1⟩:=hk1 i x hx;obtain⟨d2,hr2,hc2⟩:=hk2 i y hy;have hr1f:=hr1;have hr2f:=hr2;obtain⟨xa,xc,rfl⟩:=hr1.form;obtain⟨xa2,xc2,rfl⟩:=hr2.form;have HBL:=Zh (Jd HBW.out HBC.out);have HP1:Hid (∀ W,Bel w0 W->W.cell? ⟨b1,o1+i*4,none⟩=some (.int .i64 x.kind)/\W.cell? ⟨b1,o1+i*4+1,none⟩=some (.int .i64 x.num)/\W.cell? ⟨b1,o1+i*4+2,none⟩=some (.string (bs x.name))/\W.cell? ⟨b1,o1+i*4+3,none⟩=some (.slice xa x.kids.length xc)):=fun W hW=>⟨hc1 W hW 0 _ rfl,hc1 W hW 1 _ rfl,hc1 W hW 2 _ rfl,hc1 W hW 3 _ rfl⟩
    have HP2:Hid (∀ W,Bel w0 W->W.cell? ⟨b2,o2+i*4,none⟩=some (.int .i64 y.kind)/\W.cell? ⟨b2,o2+i*4+1,none⟩=some (.int .i64 y.num)/\W.cell? ⟨b2,o2+i*4+2,none⟩=some (.string (bs y.name))/\W.cell? ⟨b2,o2+i*4+3,none⟩=some (.slice xa2 y.kids.length xc2)):=fun W hW=>⟨hc2 W hW 0 _ rfl,hc2 W hW 1 _ rfl,hc2 W hW 2 _ rfl,hc2 W hW 3 _ rfl⟩
    have cc:=fun W hW=>HEL.out x (mem_of_getElem? hx) y (mem_of_getElem? hy) _ _ W hr1f hr2f hW
    obtain⟨z,hz⟩:∃ z,eqE x y=z:=⟨_,rfl⟩
    rw[hz]at cc;have HCC:=Zh cc;have HX1:=Zh hx;have HY1:=Zh hy;have HZ:=Zh hz;have HG:Hid (gk+i=m/\i<m):=⟨hg,hi⟩
    clear hx hy hk1 hk2 hr1 hr2 hc1 hc2 hr1f hr2f cc hz hg hi;go_upto_region 6 with fail;clear x0 x1 x2 x3 y0 y1 y2 y3;refine KJ 12 [] (fun i_=>WK.rel (match i_ with|0=>.const (.pointer (some ⟨xb,3,none⟩))|1=>.const (.slice (some ⟨b1,o1,none⟩) m c1)|2=>.const (.int .i64 (i:Int))|3=>.const (.pointer (some ⟨b1,o1+i*4,none⟩))|4=>.const (.agg #[.int .i64 x.kind,.int .i64 x.num,.string (bs x.name),.slice xa x.kids.length xc])|5=>.const (.pointer (some ⟨yb,3,none⟩))|6=>.const (.slice (some ⟨b2,o2,none⟩) m2 c2)|7=>.const (.int .i64 (i:Int))|8=>.const (.pointer (some ⟨b2,o2+i*4,none⟩))|9=>.const (.agg #[.int .i64 y.kind,.int .i64 y.num,.string (bs y.name),.slice xa2 y.kids.length xc2])|10=>.const (.bool z)|11=>.const (.bool (!z))|_=>.const undef)) (fun W=>Below wl.heap.size wl W) zzb.drew (by decide) (fun _ _ h hb=>Jd h hb) (fun i v P P1 w w1=>WK.keep _ v P P1 w w1) (Qft (n:=12) ?_) ?_
    ·refine⟨⟨⟨⟨⟨⟨⟨⟨⟨⟨⟨⟨trivial,?_⟩,?_⟩,?_⟩,?_⟩,?_⟩,?_⟩,?_⟩,?_⟩,?_⟩,?_⟩,?_⟩,?_⟩
     ·refine QaP.of 0 rfl fun a0 w9 Pr hb hP hn hd ho K hK=>?_
      have o2:a0.tmps[2]?.getD undef=.pointer (some ⟨xb,0,none⟩):=ho 2 (by kernel_rfl);exact bx4
     ·refine QaP.of 1 rfl fun a0 w9 Pr hb hP hn hd ho K hK=>?_
      obtain⟨v0,rfl,e0⟩:=hd 0 41 (by kernel_rfl) rfl;exact Qkw
     ·refine QaP.of 2 rfl fun a0 w9 Pr hb hP hn hd ho K hK=>?_
      have o5:a0.tmps[5]?.getD undef=.int .i64 (i:Int):=ho 5 (by kernel_rfl);exact bx4
     ·refine QaP.of 3 rfl fun a0 w9 Pr hb hP hn hd ho K hK=>?_
      obtain⟨v1,rfl,e1⟩:=hd 1 42 (by kernel_rfl) rfl;obtain⟨v2,rfl,e2⟩:=hd 2 43 (by kernel_rfl) rfl;have k0:0<=(i:Int):=by omega
      have k1:(i:Int)<(m:Int):=by have:=HG.out;omega
      exact bx4
     ·refine QaP.of 4 rfl fun a0 w9 Pr hb hP hn hd ho K hK=>?_
      obtain⟨v3,rfl,e3⟩:=hd 3 44 (by kernel_rfl) rfl;obtain⟨p0,p1,p2,p3⟩:=HP1.out _ (Jd HBL.out hb);exact bx4
     ·refine QaP.of 5 rfl fun a0 w9 Pr hb hP hn hd ho K hK=>?_
      have o3:a0.tmps[3]?.getD undef=.pointer (some ⟨yb,0,none⟩):=ho 3 (by kernel_rfl);exact bx4
     ·refine QaP.of 6 rfl fun a0 w9 Pr hb hP hn hd ho K hK=>?_
      obtain⟨v5,rfl,e5⟩:=hd 5 46 (by kernel_rfl) rfl;exact Qkw
     ·refine QaP.of 7 rfl fun a0 w9 Pr hb hP hn hd ho K hK=>?_
      have o5:a0.tmps[5]?.getD undef=.int .i64 (i:Int):=ho 5 (by kernel_rfl);exact bx4
     ·refine QaP.of 8 rfl fun a0 w9 Pr hb hP hn hd ho K hK=>?_
      obtain⟨v6,rfl,e6⟩:=hd 6 47 (by kernel_rfl) rfl;obtain⟨v7,rfl,e7⟩:=hd 7 48 (by kernel_rfl) rfl;have k0:0<=(i:Int):=by omega
      have k1:(i:Int)<(m2:Int):=by have:=HG.out;have:=HE6.out;omega
      exact bx4
     ·refine QaP.of 9 rfl fun a0 w9 Pr hb hP hn hd ho K hK=>?_
      obtain⟨v8,rfl,e8⟩:=hd 8 49 (by kernel_rfl) rfl;obtain⟨p0,p1,p2,p3⟩:=HP2.out _ (Jd HBL.out hb);exact bx4
     ·refine QaP.of 10 rfl fun a0 w9 Pr hb hP hn hd ho K hK=>?_
      obtain⟨v4,rfl,e4⟩:=hd 4 45 (by kernel_rfl) rfl;obtain⟨v9,rfl,e9⟩:=hd 9 50 (by kernel_rfl) rfl;have cc:=HCC.out _ (Jd HBL.out hb);go_simp;go_at_call 21;refine cc.mono ?_;rintro e w8 ⟨rfl,hbb⟩;exact hK.out _ _ hbb (fun _ _ _=>rfl) (fun h=>absurd h (by decide))
     ·refine QaP.of 11 rfl fun a0 w9 Pr hb hP hn hd ho K hK=>?_
      obtain⟨v10,rfl,e10⟩:=hd 10 51 (by kernel_rfl) rfl;exact bx4
    intro n9 vs w9 hn9 hb9 hp9 hd9 hr9;have e11:vs 11=_:=hr9 11 (by decide);have hb9:Below wl.heap.size wl w9:=hb9;rw[show Qbk _ 12 vs=[(41,vs 0),(42,vs 1),(43,vs 2),(44,vs 3),(45,vs 4),(46,vs 5),(47,vs 6),(48,vs 7),(49,vs 8),(50,vs 9),(51,vs 10),(52,vs 11)] from rfl];simp only[Qcq,e11,List.setIfInBounds_toArray,List.set_cons_zero,List.set_cons_succ];replace HBC:Hid (Bel w1 w9):=Jd HBC.out hb9;clear hn9 hb9 hp9 hd9 hr9 e11;generalize vs 0=q0;generalize vs 1=q1;generalize vs 2=q2;generalize vs 3=q3;generalize vs 4=q4;generalize vs 5=q5;generalize vs 6=q6;generalize vs 7=q7;generalize vs 8=q8;generalize vs 9=q9;generalize vs 10=q10;clear vs;refine QjP ?_
    cases z with
    |false=>
     have hqf:q=false:=by rw[<- HQ.out];exact Vu HX1.out HY1.out HZ.out
     subst hqf;go_wp2;go_ret;exact⟨rfl,Jd HB0.out HBC.out⟩
    |true=>
     have HALL2:Hid (∀ (j:Nat) (x y:Exp),j<i+1->l[j]?=some x->l'[j]?=some y->eqE x y=true):=by
      refine Zh fun j x' y' hj hx hy=>?_
      by_cases e:j=i
      ·subst e;rw[HX1.out]at hx;rw[HY1.out]at hy;rw[<- Option.some.inj hx,<- Option.some.inj hy];exact HZ.out
      ·exact HALL.out j x' y' (by omega) hx hy
     go_wp2;go_roundg (m-(i+1))
     case measure=>have:=HG.out;omega
     case rel=>exact⟨i+1,by have:=HG.out;omega,rfl,HBC.out,HALL2.out⟩
   ·have dil:decide ((i:Int)<(m:Int))=false:=decide_eq_false (by omega);have diN:decide (i<m)=false:=decide_eq_false hi;have hqf:q=true:=by rw[<- HQ.out];exact Zv (by rw[HM.out,HM2.out,HE6.out]) (fun j x y h1 h2=>HALL.out j x y (by have:=(List.getElem?_eq_some_iff.1 h1).1;rw[HM.out]at this;omega) h1 h2)
    subst hqf;clear hi hg;go_wp2;go_ret;exact⟨rfl,Jd HB0.out HBC.out⟩
termination_by x=>SizeOf.sizeOf x
decreasing_by
 exact Qkl
end Go.Proofs.YtdlkcjkjnehnkaaGreatDoor
