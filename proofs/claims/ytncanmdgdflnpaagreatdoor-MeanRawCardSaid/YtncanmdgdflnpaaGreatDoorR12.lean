import Derived.Deep.RegionHeld3
import Derived.Test.YtncanmdgdflnpaaGreatDoorR11
open Nat(add_zero le_refl one_mul zero_mul)
open List(getElem?_eq_getElem length_append setIfInBounds_toArray set_cons_succ set_cons_zero)
namespace Go.Proofs.YtncanmdgdflnpaaGreatDoor
open Go Go.Lib
open Go.ChangeShapes Go.WideShapes Go.ChangeAt Go.RowKit Go.Lib
open Go.ChangeShapes Go.WideShapes Go.RowKit Go.Deep
open Go.Joins
open _root_.Go.Proofs.Tryz
set_option linter.all false
set_option maxRecDepth 100000
set_option maxHeartbeats 32000000
theorem zV{α:Type}{g:α->List Value}{t e sz by':Nat}(E:ElT t e sz by')(hg:∀a,(g a).length=sz)(h1:∀a,∀u∈g a,u.oneCell'=true){w:World}{ops:Array Oper}{rest:List Oper}{o:Oper}{a:Act}{Q:Exit->Act->World->Prop}(hgd:Region.wanted o (yielded ops a.tmps)=true)(s x:Operand)(ho:o.op=.call {callee:=.builtin .append,args:=#[s,x],argTypes:=#[t,t]})(base:Nat)(v:Value)(n:Nat)(xs:List Value)(hs:a.eval s=v)(hown:w.ownsRow base e sz v n xs)(A:Option Addr)(C m:Nat)(l:List α)(hm:l.length=m)(hA:l=[]\/QlY g w A l)(hx:a.eval x=.slice A m C)(h63:n+m<=1000000000)(hbase:base<=w.heap.size)(h:∀v' w',w'.ownsRow base e sz v' (n+m) (xs++l.flatMap g)->Below base w w'->wpList prog ops Q rest (a.put o.dst v') w'):wpList prog ops Q (o::rest) a w:=by
 refine wpList_step λK hK=>?_
 rw[if_pos hgd]
 exact Jr E hg h1 s x ho base v n xs hs hown A C m l hm hA hx h63 hbase λv' w' h1 h2 _=>hK _ _ (h v' w' h1 h2)
def QcO(K:Qar)(c d n:Nat):Prop:=∀(e:Exp)(cs:Array Value)(M0 N0:List Int)(vv:Value)(Qad:Nat)(t:Int)(W:World)(u:Nat),siz (utN e)<=n->Qdp K c e cs M0 N0 vv Qad t W u->
 Calls prog 45 #[Pt K.p,.agg cs,vv] W (EvG K W c (evK K d M0 u e))
def EvG.back{K:Qar}{W W':World}{c:Nat}{x:RN Int}{e:Ending}{w':World}(hc:Chg [K.p] W W')(h:EvG K W' c x e w'):EvG K W c x e w':=by
 cases x with
 |val v u=>exact⟨h.1,h.2.1,hc.trans h.2.2⟩
 |fault er u=>exact⟨h.1,h.2.1,h.2.2.1,hc.trans h.2.2.2⟩
def Qdp.kid{K:Qar}{c:Nat}{k nn:Int}{s:By}{l:List Exp}{cs:Array Value}{M0 N0:List Int}{vv:Value}{Qad:Nat}{t:Int}{W:World}{u:Nat}(h:Qdp K c (.mk k nn s l) cs M0 N0 vv Qad t W u)(N2:k≠19){i:Nat}{y:Exp}(hi:l[i]?=some y)
  {d:Array Value} (hx:XAt K.w0 (In K.w0) y d) {W':World} {u':Nat} (hm:QbG K W' u' c 0) (hc:Chg [K.p] W W') (hu:u'<=10000):Qdp K c y d M0 N0 vv (Qad-1) (ofN K.r.sigs N0 (utN y)).1 W' u':=by
 have hmem:=List.mem_of_getElem? hi;have yA:=h.nm;unfold NmN at yA;have hsz:=h.sz;rw[utN,JA]at hsz;have hs:=KE hmem;obtain⟨_,_,_,hl⟩:=J6 h.fit;obtain⟨hk,xA⟩:=Jih h.fit;have zA:=h.ty;rw[utN]at zA;have uA:=Jcr (fs:=K.r.sigs) (M0:=N0) (by rw[zA]) N2 hk (λO2=>by rw[JR];exact xA O2) (utN y) (by rw[Jfv];exact List.mem_map.2 ⟨y,hmem,rfl⟩);exact⟨JfA yA.2 y hmem,by omega,hx,Jbo N2 hl y hmem,Prod.ext rfl uA,h.vs,hu,hm,h.ints.chg hc⟩
def Qdp.let1{K:Qar}{c:Nat}{nn:Int}{s:By}{a b:Exp}{cs:Array Value}{M0 N0:List Int}{vv:Value}{Qad:Nat}{t:Int}{W:World}{u:Nat}(h:Qdp K c (.mk 19 nn s [a,b]) cs M0 N0 vv Qad t W u)
  {d:Array Value} (hx:XAt K.w0 (In K.w0) a d) {W':World} {u':Nat} (hm:QbG K W' u' c 0) (hc:Chg [K.p] W W') (hu:u'<=10000):Qdp K c a d M0 N0 vv (Qad-1) (ofN K.r.sigs N0 (utN a)).1 W' u':=by
 have yA:=h.nm;unfold NmN NmL at yA;have hsz:=h.sz;rw[utN,JA,utL,Ju]at hsz;obtain⟨_,_,_,hl⟩:=J6 h.fit;have zA:=KJ hl;have xA:=h.ty;rw[utN,utL,utL,utL,YX]at xA;simp at xA;exact⟨yA.2.1,by omega,hx,zA.1,Prod.ext rfl xA.2.1,h.vs,hu,hm,h.ints.chg hc⟩
def Qdp.let2{K:Qar}{c:Nat}{nn:Int}{s:By}{a b:Exp}{cs:Array Value}{M0 N0:List Int}{vv:Value}{Qad:Nat}{t:Int}{W:World}{u:Nat}(h:Qdp K c (.mk 19 nn s [a,b]) cs M0 N0 vv Qad t W u)
  {d:Array Value} (hx:XAt K.w0 (In K.w0) b d) {W':World} {u':Nat} {v:Int} {vv':Value} (hm:QbG K W' u' c 0) (hv:VOk (ofN K.r.sigs N0 (utN a)).1 v) (hi:QaP W' K.p vv' (M0++[v])) (hu:u'<=10000):
  Qdp K c b d (M0++[v]) (N0++[(ofN K.r.sigs N0 (utN a)).1]) vv' (Qad-1) t W' u':=by
 have yA:=h.nm;unfold NmN NmL NmL at yA;have hsz:=h.sz;rw[utN,JA,utL,utL,Ju,Ju]at hsz;obtain⟨_,_,_,hl⟩:=J6 h.fit;have zA:=KJ hl;have xA:=h.ty;rw[utN,utL,utL,utL,YX]at xA;simp at xA;have hp:=KN (utN a);refine⟨yA.2.2.1,by rw[List.length_append,List.length_singleton];omega,hx,?_,?_,Qel.snoc h.vs hv,hu,hm,hi⟩
 ·rw[List.length_append,List.length_singleton];simpa using zA.2
 ·exact Prod.ext xA.1 xA.2.2
theorem zA3{P:Prop}(h:P:=by
  rw[JhN _ _ _ _ _ _ _ _ zd,Jbp]
  cases evK K d M0 u a with
  |fault er u6=>rfl
  |val v u6=>simp only[RN.bind_val];rw[JhL];rfl):P:=h
def QkC(K:Qar)(d:Nat)(M0:List Int)(u:Nat)(nn:Int)(s:By)(a:Exp):evK K d M0 u (.mk 6 nn s [a])=(evK K d M0 u a).bind λv u'=>.val (Qbw (0-v)) u':=by
 exact zA3
def QkB(K:Qar)(d:Nat)(M0:List Int)(u:Nat)(nn:Int)(s:By)(a:Exp):evK K d M0 u (.mk 7 nn s [a])=(evK K d M0 u a).bind λv u'=>.val (1-v) u':=by
 exact zA3
def QkA(K:Qar)(d:Nat)(M0:List Int)(u:Nat)(k nn:Int)(s:By)(a b:Exp)(hk:8<=k/\k<=15):evK K d M0 u (.mk k nn s [a,b])=(evK K d M0 u a).bind λv u'=>(evK K d M0 u' b).bind λv2 u2=>Qap k v v2 u2:=by
 rw[JhN _ _ _ _ _ _ _ _ ⟨by omega,hk.2⟩,Jbp]
 cases evK K d M0 u a with
 |fault er u6=>rfl
 |val v u6=>
  simp only[RN.bind_val];rw[Jbp]
  cases evK K d M0 u6 b with
  |fault er u9=>rfl
  |val v2 u9=>simp only[RN.bind_val];rw[JhL];rfl
def QjJ{fs:List Qau}{N0:List Int}{k nn:Int}{s:By}{a b:Exp}{t:Int}(hk:k=16\/k=17)(h:ofN fs N0 (utN (.mk k nn s [a,b]))=(t,[])):(ofN fs N0 (utN a)).1=1:=by
 rw[utN,utL,utL,utL,YX]at h
 have hn:QaU fs N0 1 [utN a,utN b]=[]:=by
  rcases hk with rfl|rfl
  ·simpa using congrArg Prod.snd h
  ·simpa using congrArg Prod.snd h
 unfold QaU at hn;rw[Vp (List.append_eq_nil_iff.1 hn).1]
def QmY{fs:List Qau}{N0:List Int}{nn:Int}{s:By}{z a b:Exp}{t:Int}(h:ofN fs N0 (utN (.mk 18 nn s [z,a,b]))=(t,[])):(ofN fs N0 (utN z)).1=1:=by
 rw[utN,utL,utL,utL,utL,YX]at h;simp at h;exact h.2.2.1
def QeC(a):(gI a).length=1:=rfl
def QeB(a):∀u∈gI a,u.oneCell'=true:=by intro u hu;simp[gI]at hu;subst hu;rfl
def elI:ElT 55 3 1 8:=⟨by kernel_rfl,by kernel_rfl,by kernel_rfl,⟨Iv 0,by kernel_rfl,rfl⟩,by decide,by decide⟩
def QfI:∀(l:List Int)(j:Nat),(l.flatMap gI)[j]?=(l[j]?).map λn=>Value.int .i64 n
 |[],j=>by simp
 |a::l,0=>rfl
 |a::l,j+1=>by
  have:=QfI l j;simpa[gI] using this
def Qki{W:World}{rb n cc:Nat}{ad:Option Addr}{l:List Int}(h:QaP W rb (.slice ad n cc) l):l=[]\/QlY gI W ad l:=by
 rcases h with⟨h,_⟩|⟨g,o,cc',e,_,_,_,hc⟩
 ·exact .inl h
 ·injection e with e1 _ _;refine .inr (.inr ⟨_,e1,λj u hu=>?_⟩);rw[QfI]at hu;rw[QlV]
  cases hj:l[j]? with
  |none=>rw[hj]at hu;cases hu
  |some n=>
   rw[hj]at hu;obtain rfl:=Option.some.inj hu;exact hc j n hj
def QgQ{w:World}{base rb n:Nat}{v:Value}{l:List Int}(hl:l.length=n)(h:w.ownsRow base 3 1 v n (l.flatMap gI))(hb:rb<base):QaP w rb v l:=by
 subst hl;obtain⟨A,C,rfl⟩:=JB h
 rcases VR h with⟨h1,h2,h3⟩|⟨b,rfl,h2,h3,h4⟩
 ·refine .inl ⟨List.eq_nil_of_length_eq_zero h3,A,C,by rw[h3]⟩
 ·refine .inr ⟨b,0,C,rfl,h2,by omega,(Za h (g:=b) rfl).1,λi n hi=>?_⟩;rw[Nat.zero_add];exact h4 i _ (by rw[QfI,hi];rfl)
theorem zAz{P:Prop}(h:P:=by
  intro W' hW;have hh:=hW.heap_some (by simp;exact S1.o) S0.o;refine⟨?_,?_,?_,?_⟩<;>(rw[Ja hh];rfl)):P:=h
theorem zA1{P:Prop}(h:P:=by
  have B0:Hi (∀W',Chg [K.p] w1 W'->Bel K.w0 W'):=λW' hW=>QdL H2.o.bel hk.num hW
  obtain⟨b0,b1,b2,b3⟩:=FF.o _ (Chg.refl _ _);go_wp2;go_ret;rw[<-HX.o];exact⟨rfl,H2.o,M1.o⟩):P:=h
def Qkx(K:Qar)(hk:K.Ok)(c d n:Nat)(IH:QcO K c d n)(nn:Int)(s:By)(l:List Exp)(cs:Array Value)(M0 N0:List Int)(vv:Value)(Qad:Nat)(t:Int)(W:World)(u:Nat)(hn:Qaz (utL l)<=n)(h:Qdp K c (.mk 0 nn s l) cs M0 N0 vv Qad t W u):
  Calls prog 45 #[Pt K.p,.agg cs,vv] W (EvG K W c (evK K d M0 u (.mk 0 nn s l))):=by
 obtain⟨ad,cc,rfl,xA,hK⟩:=h.x.kids;obtain⟨va,vc,rfl⟩:=h.ints.form';obtain⟨X,hX⟩:∃X,evK K d M0 u (.mk 0 nn s l)=X:=⟨_,rfl⟩
 rw[hX];have hE:evK K d M0 u (.mk 0 nn s l)=.val nn u:=by unfold evK;rw[Ku];simp
 rw[hE]at hX;have HX:=Zh hX;have A0:Below W.heap.size W (W.alloc (.cells #[Iv 0,Iv nn,Sv s,.slice ad l.length cc] 50)):=zzb.alloc zzl _;have H2:=Zh (h.at'.up A0);have M1:Hi (Chg [K.p] W (W.alloc (.cells #[Iv 0,Iv nn,Sv s,.slice ad l.length cc] 50))):=Chg.of_below A0 [K.p];have S0:=Zh (zzw W (.cells #[Iv 0,Iv nn,Sv s,.slice ad l.length cc] 50));have S1:Hi (W.heap.size≠K.p):=by have:=h.at'.lt;unfold Hi;omega
 have HH:=Zh h;have yA:=Zh hK;have zA:=Zh IH;have HN:=Zh hn;clear A0 h hK hX IH hn;go_enter func45,ntmps45;go_upto_region 1 with fail;generalize World.alloc W _=w1 at*;generalize W.heap.size=eb at*
 have FF:Hi (∀W',Chg [K.p] w1 W'->W'.cell? ⟨eb,0,none⟩=some (Iv 0)/\W'.cell? ⟨eb,1,none⟩=some (Iv nn)/\W'.cell? ⟨eb,2,none⟩=some (Sv s)/\W'.cell? ⟨eb,3,none⟩=some (.slice ad l.length cc)):=by
  exact zAz
 exact zA1
def Qjt(K:Qar)(hk:K.Ok)(c d n:Nat)(IH:QcO K c d n)(nn:Int)(s:By)(l:List Exp)(cs:Array Value)(M0 N0:List Int)(vv:Value)(Qad:Nat)(t:Int)(W:World)(u:Nat)(hn:Qaz (utL l)<=n)(h:Qdp K c (.mk 1 nn s l) cs M0 N0 vv Qad t W u):
  Calls prog 45 #[Pt K.p,.agg cs,vv] W (EvG K W c (evK K d M0 u (.mk 1 nn s l))):=by
 obtain⟨ad,cc,rfl,xA,hK⟩:=h.x.kids;obtain⟨va,vc,rfl⟩:=h.ints.form';obtain⟨X,hX⟩:∃X,evK K d M0 u (.mk 1 nn s l)=X:=⟨_,rfl⟩
 rw[hX];have hE:evK K d M0 u (.mk 1 nn s l)=.val nn u:=by unfold evK;rw[Ku];simp
 rw[hE]at hX;have HX:=Zh hX;have A0:Below W.heap.size W (W.alloc (.cells #[Iv 1,Iv nn,Sv s,.slice ad l.length cc] 50)):=zzb.alloc zzl _;have H2:=Zh (h.at'.up A0);have M1:Hi (Chg [K.p] W (W.alloc (.cells #[Iv 1,Iv nn,Sv s,.slice ad l.length cc] 50))):=Chg.of_below A0 [K.p];have S0:=Zh (zzw W (.cells #[Iv 1,Iv nn,Sv s,.slice ad l.length cc] 50));have S1:Hi (W.heap.size≠K.p):=by have:=h.at'.lt;unfold Hi;omega
 have HH:=Zh h;have yA:=Zh hK;have zA:=Zh IH;have HN:=Zh hn;clear A0 h hK hX IH hn;go_enter func45,ntmps45;go_upto_region 1 with fail;generalize World.alloc W _=w1 at*;generalize W.heap.size=eb at*
 have FF:Hi (∀W',Chg [K.p] w1 W'->W'.cell? ⟨eb,0,none⟩=some (Iv 1)/\W'.cell? ⟨eb,1,none⟩=some (Iv nn)/\W'.cell? ⟨eb,2,none⟩=some (Sv s)/\W'.cell? ⟨eb,3,none⟩=some (.slice ad l.length cc)):=by
  exact zAz
 exact zA1
def Qkt(K:Qar)(hk:K.Ok)(c d n:Nat)(IH:QcO K c d n)(nn:Int)(s:By)(l:List Exp)(cs:Array Value)(M0 N0:List Int)(vv:Value)(Qad:Nat)(t:Int)(W:World)(u:Nat)(hn:Qaz (utL l)<=n)(h:Qdp K c (.mk 2 nn s l) cs M0 N0 vv Qad t W u):
  Calls prog 45 #[Pt K.p,.agg cs,vv] W (EvG K W c (evK K d M0 u (.mk 2 nn s l))):=by
 obtain⟨ad,cc,rfl,uA,hK⟩:=h.x.kids;obtain⟨va,vc,rfl⟩:=h.ints.form';obtain⟨X,hX⟩:∃X,evK K d M0 u (.mk 2 nn s l)=X:=⟨_,rfl⟩
 rw[hX];have hE:evK K d M0 u (.mk 2 nn s l)=.val (M0.getD nn.toNat 0) u:=by unfold evK;rw[Ku];simp
 rw[hE]at hX;have HX:=Zh hX;have A0:Below W.heap.size W (W.alloc (.cells #[Iv 2,Iv nn,Sv s,.slice ad l.length cc] 50)):=zzb.alloc zzl _;have H2:=Zh (h.at'.up A0);have M1:Hi (Chg [K.p] W (W.alloc (.cells #[Iv 2,Iv nn,Sv s,.slice ad l.length cc] 50))):=Chg.of_below A0 [K.p];have S0:=Zh (zzw W (.cells #[Iv 2,Iv nn,Sv s,.slice ad l.length cc] 50));have S1:Hi (W.heap.size≠K.p):=by have:=h.at'.lt;unfold Hi;omega
 have HH:=Zh h;have vA:=Zh hK;have aA:=Zh IH;have HN:=Zh hn;clear A0 h hK hX IH hn;go_enter func45,ntmps45;go_upto_region 1 with fail;generalize World.alloc W _=w1 at*;generalize W.heap.size=eb at*
 have FF:Hi (∀W',Chg [K.p] w1 W'->W'.cell? ⟨eb,0,none⟩=some (Iv 2)/\W'.cell? ⟨eb,1,none⟩=some (Iv nn)/\W'.cell? ⟨eb,2,none⟩=some (Sv s)/\W'.cell? ⟨eb,3,none⟩=some (.slice ad l.length cc)):=by
  exact zAz
 have B0:Hi (∀W',Chg [K.p] w1 W'->Bel K.w0 W'):=λW' hW=>QdL H2.o.bel hk.num hW
 obtain⟨b0,b1,b2,b3⟩:=FF.o _ (Chg.refl _ _)
 have yA:0<=nn/\nn<(M0.length:Int):=by
  obtain⟨_,hf,_,_⟩:=J6 HH.o.fit;unfold Qab at hf;simp at hf;have:=HH.o.vs.1;exact⟨hf.1.1,by omega⟩
 obtain⟨i,rfl⟩:∃i:Nat,nn=i:=⟨nn.toNat,by omega⟩
 have hil:(i:Int)<(M0.length:Int):=yA.2;have hi:i<M0.length:=zo
 obtain⟨v,hv⟩:∃v,M0[i]?=some v:=⟨M0[i],List.getElem?_eq_getElem hi⟩
 have xA:=HX.o;rw[Int.toNat_natCast,List.getD_eq_getElem?_getD,hv,Option.getD_some]at xA;have Q2:=Zh xA
 obtain⟨g,og,zA,bA⟩:∃g og,va=some ⟨g,og,none⟩/\w1.cell? ⟨g,og+i,none⟩=some (Iv v):=by
  rcases HH.o.ints.chg M1.o with⟨e1,e2⟩|⟨g,og,cc',e,_,_,_,hc⟩
  ·rw[e1]at hi;simp at hi
  ·injection e with e1 e2 e3;exact⟨g,og,e1,hc i v hv⟩
 clear xA hv yA;subst zA;go_wp2;go_ret;rw[<-Q2.o];exact⟨rfl,H2.o,M1.o⟩
theorem zA2{P:Prop}(h:P:=by
  go_wp2_with fail;refine cf.mono ?_;rintro e w2 ⟨rfl,rfl⟩;clear cf b0 b1 b2 b3;go_wp2;go_ret;rw[<-HX.o];exact⟨rfl,H2.o,M1.o⟩):P:=h
def Qjr(K:Qar)(hk:K.Ok)(c d n:Nat)(IH:QcO K c d n)(nn:Int)(s:By)(l:List Exp)(cs:Array Value)(M0 N0:List Int)(vv:Value)(Qad:Nat)(t:Int)(W:World)(u:Nat)(hn:Qaz (utL l)<=n)(h:Qdp K c (.mk 3 nn s l) cs M0 N0 vv Qad t W u):
  Calls prog 45 #[Pt K.p,.agg cs,vv] W (EvG K W c (evK K d M0 u (.mk 3 nn s l))):=by
 obtain⟨ad,cc,rfl,xA,hK⟩:=h.x.kids;obtain⟨va,vc,rfl⟩:=h.ints.form';obtain⟨X,hX⟩:∃X,evK K d M0 u (.mk 3 nn s l)=X:=⟨_,rfl⟩
 rw[hX];have hE:evK K d M0 u (.mk 3 nn s l)=.val (QdT K.F s) u:=by unfold evK;rw[Ku];simp
 rw[hE]at hX;have HX:=Zh hX;have A0:Below W.heap.size W (W.alloc (.cells #[Iv 3,Iv nn,Sv s,.slice ad l.length cc] 50)):=zzb.alloc zzl _;have H2:=Zh (h.at'.up A0);have M1:Hi (Chg [K.p] W (W.alloc (.cells #[Iv 3,Iv nn,Sv s,.slice ad l.length cc] 50))):=Chg.of_below A0 [K.p];have S0:=Zh (zzw W (.cells #[Iv 3,Iv nn,Sv s,.slice ad l.length cc] 50));have S1:Hi (W.heap.size≠K.p):=by have:=h.at'.lt;unfold Hi;omega
 have HH:=Zh h;have yA:=Zh hK;have zA:=Zh IH;have HN:=Zh hn;clear A0 h hK hX IH hn;go_enter func45,ntmps45;go_upto_region 1 with fail;generalize World.alloc W _=w1 at*;generalize W.heap.size=eb at*
 have FF:Hi (∀W',Chg [K.p] w1 W'->W'.cell? ⟨eb,0,none⟩=some (Iv 3)/\W'.cell? ⟨eb,1,none⟩=some (Iv nn)/\W'.cell? ⟨eb,2,none⟩=some (Sv s)/\W'.cell? ⟨eb,3,none⟩=some (.slice ad l.length cc)):=by
  exact zAz
 have B0:Hi (∀W',Chg [K.p] w1 W'->Bel K.w0 W'):=λW' hW=>QdL H2.o.bel hk.num hW
 obtain⟨b0,b1,b2,b3⟩:=FF.o _ (Chg.refl _ _);have cf:=QiF K hk w1 u c H2.o s;exact zA2
def QiH(K:Qar)(hk:K.Ok)(c d n:Nat)(IH:QcO K c d n)(nn:Int)(s:By)(l:List Exp)(cs:Array Value)(M0 N0:List Int)(vv:Value)(Qad:Nat)(t:Int)(W:World)(u:Nat)(hn:Qaz (utL l)<=n)(h:Qdp K c (.mk 4 nn s l) cs M0 N0 vv Qad t W u):
  Calls prog 45 #[Pt K.p,.agg cs,vv] W (EvG K W c (evK K d M0 u (.mk 4 nn s l))):=by
 obtain⟨ad,cc,rfl,xA,hK⟩:=h.x.kids;obtain⟨va,vc,rfl⟩:=h.ints.form';obtain⟨X,hX⟩:∃X,evK K d M0 u (.mk 4 nn s l)=X:=⟨_,rfl⟩
 rw[hX];have hE:evK K d M0 u (.mk 4 nn s l)=.val (QcK K.F.labels s) u:=by unfold evK;rw[Ku];simp
 rw[hE]at hX;have HX:=Zh hX;have A0:Below W.heap.size W (W.alloc (.cells #[Iv 4,Iv nn,Sv s,.slice ad l.length cc] 50)):=zzb.alloc zzl _;have H2:=Zh (h.at'.up A0);have M1:Hi (Chg [K.p] W (W.alloc (.cells #[Iv 4,Iv nn,Sv s,.slice ad l.length cc] 50))):=Chg.of_below A0 [K.p];have S0:=Zh (zzw W (.cells #[Iv 4,Iv nn,Sv s,.slice ad l.length cc] 50));have S1:Hi (W.heap.size≠K.p):=by have:=h.at'.lt;unfold Hi;omega
 have HH:=Zh h;have yA:=Zh hK;have zA:=Zh IH;have HN:=Zh hn;clear A0 h hK hX IH hn;go_enter func45,ntmps45;go_upto_region 1 with fail;generalize World.alloc W _=w1 at*;generalize W.heap.size=eb at*
 have FF:Hi (∀W',Chg [K.p] w1 W'->W'.cell? ⟨eb,0,none⟩=some (Iv 4)/\W'.cell? ⟨eb,1,none⟩=some (Iv nn)/\W'.cell? ⟨eb,2,none⟩=some (Sv s)/\W'.cell? ⟨eb,3,none⟩=some (.slice ad l.length cc)):=by
  exact zAz
 have B0:Hi (∀W',Chg [K.p] w1 W'->Bel K.w0 W'):=λW' hW=>QdL H2.o.bel hk.num hW
 obtain⟨b0,b1,b2,b3⟩:=FF.o _ (Chg.refl _ _);have cf:=QhH K hk w1 u c H2.o s;exact zA2
def Qjq(K:Qar)(hk:K.Ok)(c d n:Nat)(IH:QcO K c d n)(nn:Int)(s:By)(l:List Exp)(cs:Array Value)(M0 N0:List Int)(vv:Value)(Qad:Nat)(t:Int)(W:World)(u:Nat)(hn:Qaz (utL l)<=n)(h:Qdp K c (.mk 5 nn s l) cs M0 N0 vv Qad t W u):
  Calls prog 45 #[Pt K.p,.agg cs,vv] W (EvG K W c (evK K d M0 u (.mk 5 nn s l))):=by
 obtain⟨ad,cc,rfl,xA,hK⟩:=h.x.kids;obtain⟨va,vc,rfl⟩:=h.ints.form';obtain⟨X,hX⟩:∃X,evK K d M0 u (.mk 5 nn s l)=X:=⟨_,rfl⟩
 rw[hX];have hE:evK K d M0 u (.mk 5 nn s l)=.val (Qeb K.F.words s) u:=by unfold evK;rw[Ku];simp
 rw[hE]at hX;unfold Qeb at hX;have HX:=Zh hX;have A0:Below W.heap.size W (W.alloc (.cells #[Iv 5,Iv nn,Sv s,.slice ad l.length cc] 50)):=zzb.alloc zzl _;have H2:=Zh (h.at'.up A0);have M1:Hi (Chg [K.p] W (W.alloc (.cells #[Iv 5,Iv nn,Sv s,.slice ad l.length cc] 50))):=Chg.of_below A0 [K.p];have S0:=Zh (zzw W (.cells #[Iv 5,Iv nn,Sv s,.slice ad l.length cc] 50));have S1:Hi (W.heap.size≠K.p):=by have:=h.at'.lt;unfold Hi;omega
 have HH:=Zh h;have yA:=Zh hK;have zA:=Zh IH;have HN:=Zh hn;clear A0 h hK hX IH hn;go_enter func45,ntmps45;go_upto_region 1 with fail;generalize World.alloc W _=w1 at*;generalize W.heap.size=eb at*
 have FF:Hi (∀W',Chg [K.p] w1 W'->W'.cell? ⟨eb,0,none⟩=some (Iv 5)/\W'.cell? ⟨eb,1,none⟩=some (Iv nn)/\W'.cell? ⟨eb,2,none⟩=some (Sv s)/\W'.cell? ⟨eb,3,none⟩=some (.slice ad l.length cc)):=by
  exact zAz
 have B0:Hi (∀W',Chg [K.p] w1 W'->Bel K.w0 W'):=λW' hW=>QdL H2.o.bel hk.num hW
 obtain⟨b0,b1,b2,b3⟩:=FF.o _ (Chg.refl _ _);have cf:=QiA K hk w1 u c H2.o s;generalize decide (s∈K.F.words)=q at cf HX;go_wp2_with fail;refine cf.mono ?_;rintro e w2 ⟨rfl,rfl⟩;clear cf b0 b1 b2 b3;go_wp2_with fail;refine(Qcc q _).mono ?_;rintro e w2 ⟨rfl,rfl⟩;go_wp2;go_ret;rw[<-HX.o];exact⟨rfl,H2.o,M1.o⟩
def Qkv(K:Qar)(hk:K.Ok)(c d n:Nat)(IH:QcO K c d n)(nn:Int)(s:By)(a:Exp)(cs:Array Value)(M0 N0:List Int)(vv:Value)(Qad:Nat)(t:Int)(W:World)(u:Nat)(hn:Qaz (utL [a])<=n)(h:Qdp K c (.mk 6 nn s [a]) cs M0 N0 vv Qad t W u):
  Calls prog 45 #[Pt K.p,.agg cs,vv] W (EvG K W c (evK K d M0 u (.mk 6 nn s [a]))):=by
 obtain⟨ad,cc,rfl,zB,hK⟩:=h.x.kids;obtain⟨va,vc,rfl⟩:=h.ints.form';obtain⟨X,hX⟩:∃X,evK K d M0 u (.mk 6 nn s [a])=X:=⟨_,rfl⟩
 rw[hX];rw[QkC]at hX;have hA:=hX.symm;have hX:=hA;have HX:=Zh hX;have A0:Below W.heap.size W (W.alloc (.cells #[Iv 6,Iv nn,Sv s,.slice ad [a].length cc] 50)):=zzb.alloc zzl _;have H2:=Zh (h.at'.up A0);have M1:Hi (Chg [K.p] W (W.alloc (.cells #[Iv 6,Iv nn,Sv s,.slice ad [a].length cc] 50))):=Chg.of_below A0 [K.p];have S0:=Zh (zzw W (.cells #[Iv 6,Iv nn,Sv s,.slice ad [a].length cc] 50));have S1:Hi (W.heap.size≠K.p):=by have:=h.at'.lt;unfold Hi;omega
 have HH:=Zh h;have mA:=Zh hK;have nA:=Zh IH;have HN:=Zh hn;go_enter func45,ntmps45;go_upto_region 1 with fail;generalize World.alloc W _=w1 at*;generalize W.heap.size=eb at*
 have FF:Hi (∀W',Chg [K.p] w1 W'->W'.cell? ⟨eb,0,none⟩=some (Iv 6)/\W'.cell? ⟨eb,1,none⟩=some (Iv nn)/\W'.cell? ⟨eb,2,none⟩=some (Sv s)/\W'.cell? ⟨eb,3,none⟩=some (.slice ad [a].length cc)):=by
  exact zAz
 have B0:Hi (∀W',Chg [K.p] w1 W'->Bel K.w0 W'):=λW' hW=>QdL H2.o.bel hk.num hW
 obtain⟨b0,b1,b2,b3⟩:=FF.o _ (Chg.refl _ _);obtain⟨kb,o,xB,B5,bA⟩:=mA.o.at0 zp;obtain⟨da,ca,rA,G3⟩:=bA 0 a rfl;have kA:=Zh rA;have iA:=Zh G3;subst xB;have uA:=HH.o.kid zd (i:=0) (y:=a) rfl kA.o H2.o (M1.o.trans (Chg.refl _ _)) HH.o.us;have dA:=Zh (uA.ok hk d);have ci:=nA.o a _ M0 N0 _ _ _ w1 u (zu HN.o (KE (l:=[a]) (y:=a) zp)) uA;obtain⟨k0,k1,k2,k3⟩:=iA.o _ (B0.o _ ((Chg.refl _ _)));simp only[zero_mul,add_zero,one_mul,Nat.reduceMul]at k0 k1 k2 k3;go_wp2_with fail;refine ci.mono ?_
 cases hy:evK K d M0 u a with
 |fault er u6=>
  rintro e w6 ⟨yA,⟨vx,rfl⟩,zA,vA⟩;have eA:w6.cell? ⟨K.p,17,none⟩=some (Iv er):=Ja zA.self 17;have sA:(er==0)=false:=zzq yA;have qA:(er !=0)=true:=by rw[bne,sA];rfl
  have xA:Hi (EvG K W c X (.returned (Iv 0)) w6):=by
   rw[Hi,HX.o,hy,RN.bind_fault];exact⟨yA,⟨_,rfl⟩,zA,M1.o.trans vA⟩
  go_wp2;go_ret;exact xA.o
 |val v u6=>
  rintro e w6 ⟨rfl,T3,j0⟩;have eA:w6.cell? ⟨K.p,17,none⟩=some (Iv 0):=Ja T3.self 17;have gA:=dA.o;rw[hy]at gA;obtain⟨jA,aA,cA⟩:=gA;have HY:=Zh hy;have pA:=Zh T3;have M2:=Zh j0;have yB:=Zh aA;have tA:=Zh cA;obtain⟨b0,b1,b2,b3⟩:=FF.o _ M2.o;have cn:=QgG 0 v w6 (by unfold Qat;omega) tA.o.wf
  have xA:Hi (EvG K W c X (.returned (Iv (Qbw (0-v)))) w6):=by
   rw[Hi,HX.o,HY.o,RN.bind_val];exact⟨rfl,pA.o,M1.o.trans M2.o⟩
  rw[Int.zero_sub]at cn xA;go_wp2_with fail;refine cn.mono ?_;rintro e w7 ⟨rfl,rfl⟩;go_wp2;go_ret;exact xA.o
def Qku(K:Qar)(hk:K.Ok)(c d n:Nat)(IH:QcO K c d n)(nn:Int)(s:By)(a:Exp)(cs:Array Value)(M0 N0:List Int)(vv:Value)(Qad:Nat)(t:Int)(W:World)(u:Nat)(hn:Qaz (utL [a])<=n)(h:Qdp K c (.mk 7 nn s [a]) cs M0 N0 vv Qad t W u):
  Calls prog 45 #[Pt K.p,.agg cs,vv] W (EvG K W c (evK K d M0 u (.mk 7 nn s [a]))):=by
 obtain⟨ad,cc,rfl,uB,hK⟩:=h.x.kids;obtain⟨va,vc,rfl⟩:=h.ints.form';obtain⟨X,hX⟩:∃X,evK K d M0 u (.mk 7 nn s [a])=X:=⟨_,rfl⟩
 rw[hX];rw[QkB]at hX;have hA:=hX.symm;clear hX;have hX:=hA;clear hA;have HX:=Zh hX;have A0:Below W.heap.size W (W.alloc (.cells #[Iv 7,Iv nn,Sv s,.slice ad [a].length cc] 50)):=zzb.alloc zzl _;have H2:=Zh (h.at'.up A0);have M1:Hi (Chg [K.p] W (W.alloc (.cells #[Iv 7,Iv nn,Sv s,.slice ad [a].length cc] 50))):=Chg.of_below A0 [K.p];have S0:=Zh (zzw W (.cells #[Iv 7,Iv nn,Sv s,.slice ad [a].length cc] 50));have S1:Hi (W.heap.size≠K.p):=by have:=h.at'.lt;unfold Hi;omega
 have HH:=Zh h;have nA:=Zh hK;have pA:=Zh IH;have HN:=Zh hn;clear A0 h hK hX IH hn;go_enter func45,ntmps45;go_upto_region 1 with fail;generalize World.alloc W _=w1 at*;generalize W.heap.size=eb at*
 have FF:Hi (∀W',Chg [K.p] w1 W'->W'.cell? ⟨eb,0,none⟩=some (Iv 7)/\W'.cell? ⟨eb,1,none⟩=some (Iv nn)/\W'.cell? ⟨eb,2,none⟩=some (Sv s)/\W'.cell? ⟨eb,3,none⟩=some (.slice ad [a].length cc)):=by
  exact zAz
 have B0:Hi (∀W',Chg [K.p] w1 W'->Bel K.w0 W'):=λW' hW=>QdL H2.o.bel hk.num hW
 obtain⟨b0,b1,b2,b3⟩:=FF.o _ (Chg.refl _ _);obtain⟨kb,o,yB,B5,cA⟩:=nA.o.at0 zp;obtain⟨da,ca,sA,G3⟩:=cA 0 a rfl;have mA:=Zh sA;have jA:=Zh G3;clear cA;subst yB;have vA:=HH.o.kid zd (i:=0) (y:=a) rfl mA.o H2.o (M1.o.trans (Chg.refl _ _)) HH.o.us;have eA:=Zh (vA.ok hk d);have ci:=pA.o a _ M0 N0 _ _ _ w1 u (zu HN.o (KE (l:=[a]) (y:=a) zp)) vA;obtain⟨k0,k1,k2,k3⟩:=jA.o _ (B0.o _ ((Chg.refl _ _)));simp only[zero_mul,add_zero,one_mul,Nat.reduceMul]at k0 k1 k2 k3;go_wp2_with fail;refine ci.mono ?_
 cases hy:evK K d M0 u a with
 |fault er u6=>
  rintro e w6 ⟨zA,⟨vx,rfl⟩,uA,aA⟩;have tA:w6.cell? ⟨K.p,17,none⟩=some (Iv er):=Ja uA.self 17;have xB:(er==0)=false:=zzq zA;have rA:(er !=0)=true:=by rw[bne,xB];rfl
  have xA:Hi (EvG K W c X (.returned (Iv 0)) w6):=by
   rw[Hi,HX.o,hy,RN.bind_fault];exact⟨zA,⟨_,rfl⟩,uA,M1.o.trans aA⟩
  go_wp2;go_ret;exact xA.o
 |val v u6=>
  rintro e w6 ⟨rfl,T3,j0⟩;have tA:w6.cell? ⟨K.p,17,none⟩=some (Iv 0):=Ja T3.self 17;have gA:=eA.o;rw[hy]at gA;obtain⟨kA,bA,dA⟩:=gA;have HY:=Zh hy;have qA:=Zh T3;have M2:=Zh j0;have zB:=Zh bA;have iA:=Zh dA;obtain⟨b0,b1,b2,b3⟩:=FF.o _ M2.o
  have yA:v=0\/v=1:=by
   have ht:=Jef HH.o.ty rfl a zp;have h:=iA.o;rw[ht]at h
   rcases h with⟨h,_⟩|⟨_,h⟩
   ·cases h
   ·exact h
  have xA:Hi (EvG K W c X (.returned (Iv (1-v))) w6):=by
   rw[Hi,HX.o,HY.o,RN.bind_val];exact⟨rfl,qA.o,M1.o.trans M2.o⟩
  rcases yA with rfl|rfl
  ·go_wp2;go_ret;exact xA.o
  ·go_wp2;go_ret;exact xA.o
theorem zA0{P:Prop}(h:P:=by
  rintro e w6 ⟨yA,⟨vx,rfl⟩,vA,bA⟩;have vB:w6.cell? ⟨K.p,17,none⟩=some (Iv er):=Ja vA.self 17;have aB:(er==0)=false:=zzq yA;have rA:(er !=0)=true:=by rw[bne,aB];rfl
  have xA:Hi (EvG K W c X (.returned (Iv 0)) w6):=by
   rw[Hi,HX.o,hy,RN.bind_fault];exact⟨yA,⟨_,rfl⟩,vA,M1.o.trans bA⟩
  go_wp2;go_ret;exact xA.o):P:=h
theorem zA5{P:Prop}(h:P:=by
  rw[Hi,HX.o,HY.o,RN.bind_val,if_neg zd,hz];exact⟨rfl,N4,M1.o.trans (Chg.trans M2.o D3)⟩):P:=h
def Qky(K:Qar)(hk:K.Ok)(c d n:Nat)(IH:QcO K c d n)(nn:Int)(s:By)(a b:Exp)(cs:Array Value)(M0 N0:List Int)(vv:Value)(Qad:Nat)(t:Int)(W:World)(u:Nat)(hn:Qaz (utL [a,b])<=n)(h:Qdp K c (.mk 16 nn s [a,b]) cs M0 N0 vv Qad t W u):
  Calls prog 45 #[Pt K.p,.agg cs,vv] W (EvG K W c (evK K d M0 u (.mk 16 nn s [a,b]))):=by
 obtain⟨ad,cc,rfl,cB,hK⟩:=h.x.kids;obtain⟨va,vc,rfl⟩:=h.ints.form';obtain⟨X,hX⟩:∃X,evK K d M0 u (.mk 16 nn s [a,b])=X:=⟨_,rfl⟩
 rw[hX];rw[Jjt]at hX;have jA:=hX.symm;clear hX;have hX:=jA;clear jA;have HX:=Zh hX;have A0:Below W.heap.size W (W.alloc (.cells #[Iv 16,Iv nn,Sv s,.slice ad [a,b].length cc] 50)):=zzb.alloc zzl _;have H2:=Zh (h.at'.up A0);have M1:Hi (Chg [K.p] W (W.alloc (.cells #[Iv 16,Iv nn,Sv s,.slice ad [a,b].length cc] 50))):=Chg.of_below A0 [K.p];have S0:=Zh (zzw W (.cells #[Iv 16,Iv nn,Sv s,.slice ad [a,b].length cc] 50));have S1:Hi (W.heap.size≠K.p):=by have:=h.at'.lt;unfold Hi;omega
 have HH:=Zh h;have zB:=Zh hK;have dA:=Zh IH;have HN:=Zh hn;clear A0 h hK hX IH hn;go_enter func45,ntmps45;go_upto_region 1 with fail;generalize World.alloc W _=w1 at*;generalize W.heap.size=eb at*
 have FF:Hi (∀W',Chg [K.p] w1 W'->W'.cell? ⟨eb,0,none⟩=some (Iv 16)/\W'.cell? ⟨eb,1,none⟩=some (Iv nn)/\W'.cell? ⟨eb,2,none⟩=some (Sv s)/\W'.cell? ⟨eb,3,none⟩=some (.slice ad [a,b].length cc)):=by
  exact zAz
 have B0:Hi (∀W',Chg [K.p] w1 W'->Bel K.w0 W'):=λW' hW=>QdL H2.o.bel hk.num hW
 obtain⟨b0,b1,b2,b3⟩:=FF.o _ (Chg.refl _ _);obtain⟨kb,o,sA,B5,uA⟩:=zB.o.at0 zp;obtain⟨da,ca,uB,G3⟩:=uA 0 a rfl;have pA:=Zh uB;have nA:=Zh G3;obtain⟨db,cb,qA,tA⟩:=uA 1 b rfl;have yB:=Zh qA;have T7:=Zh tA;subst sA;have aA:=HH.o.kid zd (i:=0) (y:=a) rfl pA.o H2.o (M1.o.trans (Chg.refl _ _)) HH.o.us;have hA:=Zh (aA.ok hk d);have ci:=dA.o a _ M0 N0 _ _ _ w1 u (zu HN.o (KE (l:=[a,b]) (y:=a) zp)) aA;obtain⟨k0,k1,k2,k3⟩:=nA.o _ (B0.o _ ((Chg.refl _ _)));simp only[zero_mul,add_zero,one_mul,Nat.reduceMul]at k0 k1 k2 k3;go_wp2_with fail;refine ci.mono ?_
 cases hy:evK K d M0 u a with
 |fault er u6=>
  exact zA0
 |val v u6=>
  rintro e w6 ⟨rfl,T3,j0⟩;have vB:w6.cell? ⟨K.p,17,none⟩=some (Iv 0):=Ja T3.self 17;have iA:=hA.o;rw[hy]at iA;obtain⟨xB,cA,gA⟩:=iA;have HY:=Zh hy;have eA:=Zh T3;have M2:=Zh j0;have mA:=Zh cA;have kA:=Zh gA;obtain⟨b0,b1,b2,b3⟩:=FF.o _ M2.o
  have zA:v=0\/v=1:=by
   have ht:=QjJ (.inl rfl) HH.o.ty;have h:=kA.o;rw[ht]at h
   rcases h with⟨h,_⟩|⟨_,h⟩
   ·cases h
   ·exact h
  rcases zA with rfl|rfl
  ·have xA:Hi (EvG K W c X (.returned (Iv 0)) w6):=by
    rw[Hi,HX.o,HY.o,RN.bind_val,if_pos rfl];exact⟨rfl,eA.o,M1.o.trans M2.o⟩
   go_wp2;go_ret;exact xA.o
  ·have Q5:=HH.o.kid zd (i:=1) (y:=b) rfl yB.o eA.o (M1.o.trans M2.o) mA.o;have bB:=Zh (Q5.ok hk d);have ci:=dA.o b _ M0 N0 _ _ _ w6 u6 (zu HN.o (KE (l:=[a,b]) (y:=b) zp)) Q5;obtain⟨k0,k1,k2,k3⟩:=T7.o _ (B0.o _ (M2.o));simp only[zero_mul,add_zero,one_mul,Nat.reduceMul]at k0 k1 k2 k3;go_wp2_with fail;refine ci.mono ?_
   cases hz:evK K d M0 u6 b with
   |fault er u9=>
    rintro e w9 ⟨yA,⟨v9,rfl⟩,N4,D3⟩
    have xA:Hi (EvG K W c X (.returned (Iv v9)) w9):=by
     rw[Hi,HX.o,HY.o,RN.bind_val,if_neg zd,hz];exact⟨yA,⟨_,rfl⟩,N4,M1.o.trans (Chg.trans M2.o D3)⟩
    go_wp2;go_ret;exact xA.o
   |val v9 u9=>
    rintro e w9 ⟨rfl,N4,D3⟩
    have xA:Hi (EvG K W c X (.returned (Iv v9)) w9):=by
     exact zA5
    go_wp2;go_ret;exact xA.o
theorem zA4{P:Prop}(h:P:=by
  rw[Hi,HX.o,HY.o,RN.bind_val,if_pos rfl,hz];exact⟨rfl,N4,M1.o.trans (Chg.trans M2.o D3)⟩):P:=h
def QlQ(K:Qar)(hk:K.Ok)(c d n:Nat)(IH:QcO K c d n)(nn:Int)(s:By)(a b:Exp)(cs:Array Value)(M0 N0:List Int)(vv:Value)(Qad:Nat)(t:Int)(W:World)(u:Nat)(hn:Qaz (utL [a,b])<=n)(h:Qdp K c (.mk 17 nn s [a,b]) cs M0 N0 vv Qad t W u):
  Calls prog 45 #[Pt K.p,.agg cs,vv] W (EvG K W c (evK K d M0 u (.mk 17 nn s [a,b]))):=by
 obtain⟨ad,cc,rfl,cB,hK⟩:=h.x.kids;obtain⟨va,vc,rfl⟩:=h.ints.form';obtain⟨X,hX⟩:∃X,evK K d M0 u (.mk 17 nn s [a,b])=X:=⟨_,rfl⟩
 rw[hX];rw[Jkn]at hX;have jA:=hX.symm;clear hX;have hX:=jA;clear jA;have HX:=Zh hX;have A0:Below W.heap.size W (W.alloc (.cells #[Iv 17,Iv nn,Sv s,.slice ad [a,b].length cc] 50)):=zzb.alloc zzl _;have H2:=Zh (h.at'.up A0);have M1:Hi (Chg [K.p] W (W.alloc (.cells #[Iv 17,Iv nn,Sv s,.slice ad [a,b].length cc] 50))):=Chg.of_below A0 [K.p];have S0:=Zh (zzw W (.cells #[Iv 17,Iv nn,Sv s,.slice ad [a,b].length cc] 50));have S1:Hi (W.heap.size≠K.p):=by have:=h.at'.lt;unfold Hi;omega
 have HH:=Zh h;have zB:=Zh hK;have dA:=Zh IH;have HN:=Zh hn;clear A0 h hK hX IH hn;go_enter func45,ntmps45;go_upto_region 1 with fail;generalize World.alloc W _=w1 at*;generalize W.heap.size=eb at*
 have FF:Hi (∀W',Chg [K.p] w1 W'->W'.cell? ⟨eb,0,none⟩=some (Iv 17)/\W'.cell? ⟨eb,1,none⟩=some (Iv nn)/\W'.cell? ⟨eb,2,none⟩=some (Sv s)/\W'.cell? ⟨eb,3,none⟩=some (.slice ad [a,b].length cc)):=by
  exact zAz
 have B0:Hi (∀W',Chg [K.p] w1 W'->Bel K.w0 W'):=λW' hW=>QdL H2.o.bel hk.num hW
 obtain⟨b0,b1,b2,b3⟩:=FF.o _ (Chg.refl _ _);obtain⟨kb,o,sA,B5,uA⟩:=zB.o.at0 zp;obtain⟨da,ca,uB,G3⟩:=uA 0 a rfl;have pA:=Zh uB;have nA:=Zh G3;obtain⟨db,cb,qA,tA⟩:=uA 1 b rfl;have yB:=Zh qA;have T7:=Zh tA;subst sA;have aA:=HH.o.kid zd (i:=0) (y:=a) rfl pA.o H2.o (M1.o.trans (Chg.refl _ _)) HH.o.us;have hA:=Zh (aA.ok hk d);have ci:=dA.o a _ M0 N0 _ _ _ w1 u (zu HN.o (KE (l:=[a,b]) (y:=a) zp)) aA;obtain⟨k0,k1,k2,k3⟩:=nA.o _ (B0.o _ ((Chg.refl _ _)));simp only[zero_mul,add_zero,one_mul,Nat.reduceMul]at k0 k1 k2 k3;go_wp2_with fail;refine ci.mono ?_
 cases hy:evK K d M0 u a with
 |fault er u6=>
  exact zA0
 |val v u6=>
  rintro e w6 ⟨rfl,T3,j0⟩;have vB:w6.cell? ⟨K.p,17,none⟩=some (Iv 0):=Ja T3.self 17;have iA:=hA.o;rw[hy]at iA;obtain⟨xB,cA,gA⟩:=iA;have HY:=Zh hy;have eA:=Zh T3;have M2:=Zh j0;have mA:=Zh cA;have kA:=Zh gA;obtain⟨b0,b1,b2,b3⟩:=FF.o _ M2.o
  have zA:v=0\/v=1:=by
   have ht:=QjJ (.inr rfl) HH.o.ty;have h:=kA.o;rw[ht]at h
   rcases h with⟨h,_⟩|⟨_,h⟩
   ·cases h
   ·exact h
  rcases zA with rfl|rfl
  ·have Q5:=HH.o.kid zd (i:=1) (y:=b) rfl yB.o eA.o (M1.o.trans M2.o) mA.o;have bB:=Zh (Q5.ok hk d);have ci:=dA.o b _ M0 N0 _ _ _ w6 u6 (zu HN.o (KE (l:=[a,b]) (y:=b) zp)) Q5;obtain⟨k0,k1,k2,k3⟩:=T7.o _ (B0.o _ (M2.o));simp only[zero_mul,add_zero,one_mul,Nat.reduceMul]at k0 k1 k2 k3;go_wp2_with fail;refine ci.mono ?_
   cases hz:evK K d M0 u6 b with
   |fault er u9=>
    rintro e w9 ⟨yA,⟨v9,rfl⟩,N4,D3⟩
    have xA:Hi (EvG K W c X (.returned (Iv v9)) w9):=by
     rw[Hi,HX.o,HY.o,RN.bind_val,if_pos rfl,hz];exact⟨yA,⟨_,rfl⟩,N4,M1.o.trans (Chg.trans M2.o D3)⟩
    go_wp2;go_ret;exact xA.o
   |val v9 u9=>
    rintro e w9 ⟨rfl,N4,D3⟩
    have xA:Hi (EvG K W c X (.returned (Iv v9)) w9):=by
     exact zA4
    go_wp2;go_ret;exact xA.o
  ·have xA:Hi (EvG K W c X (.returned (Iv 1)) w6):=by
    rw[Hi,HX.o,HY.o,RN.bind_val,if_neg zd];exact⟨rfl,eA.o,M1.o.trans M2.o⟩
   go_wp2;go_ret;exact xA.o
def QlR(K:Qar)(hk:K.Ok)(c d n:Nat)(IH:QcO K c d n)(nn:Int)(s:By)(z a b:Exp)(cs:Array Value)(M0 N0:List Int)(vv:Value)(Qad:Nat)(t:Int)(W:World)(u:Nat)(hn:Qaz (utL [z,a,b])<=n)(h:Qdp K c (.mk 18 nn s [z,a,b]) cs M0 N0 vv Qad t W u):
  Calls prog 45 #[Pt K.p,.agg cs,vv] W (EvG K W c (evK K d M0 u (.mk 18 nn s [z,a,b]))):=by
 obtain⟨ad,cc,rfl,jB,hK⟩:=h.x.kids;obtain⟨va,vc,rfl⟩:=h.ints.form';obtain⟨X,hX⟩:∃X,evK K d M0 u (.mk 18 nn s [z,a,b])=X:=⟨_,rfl⟩
 rw[hX];rw[Jko]at hX;have kA:=hX.symm;clear hX;have hX:=kA;clear kA;have HX:=Zh hX;have A0:Below W.heap.size W (W.alloc (.cells #[Iv 18,Iv nn,Sv s,.slice ad [z,a,b].length cc] 50)):=zzb.alloc zzl _;have H2:=Zh (h.at'.up A0);have M1:Hi (Chg [K.p] W (W.alloc (.cells #[Iv 18,Iv nn,Sv s,.slice ad [z,a,b].length cc] 50))):=Chg.of_below A0 [K.p];have S0:=Zh (zzw W (.cells #[Iv 18,Iv nn,Sv s,.slice ad [z,a,b].length cc] 50));have S1:Hi (W.heap.size≠K.p):=by have:=h.at'.lt;unfold Hi;omega
 have HH:=Zh h;have bB:=Zh hK;have aA:=Zh IH;have HN:=Zh hn;clear A0 h hK hX IH hn;go_enter func45,ntmps45;go_upto_region 1 with fail;generalize World.alloc W _=w1 at*;generalize W.heap.size=eb at*
 have FF:Hi (∀W',Chg [K.p] w1 W'->W'.cell? ⟨eb,0,none⟩=some (Iv 18)/\W'.cell? ⟨eb,1,none⟩=some (Iv nn)/\W'.cell? ⟨eb,2,none⟩=some (Sv s)/\W'.cell? ⟨eb,3,none⟩=some (.slice ad [z,a,b].length cc)):=by
  exact zAz
 have B0:Hi (∀W',Chg [K.p] w1 W'->Bel K.w0 W'):=λW' hW=>QdL H2.o.bel hk.num hW
 obtain⟨b0,b1,b2,b3⟩:=FF.o _ (Chg.refl _ _);obtain⟨kb,o,tA,B5,zA⟩:=bB.o.at0 zp;obtain⟨dz,cz,vB,gB⟩:=zA 0 z rfl;have uB:=Zh vB;have xB:=Zh gB;obtain⟨da,ca,cB,G3⟩:=zA 1 a rfl;have qA:=Zh cB;have pA:=Zh G3;obtain⟨db,cb,rA,yB⟩:=zA 2 b rfl;have aB:=Zh rA;have T7:=Zh yB;clear zA;subst tA;have cA:=HH.o.kid zd (i:=0) (y:=z) rfl uB.o H2.o (M1.o.trans (Chg.refl _ _)) HH.o.us;have nA:=Zh (cA.ok hk d);have ci:=aA.o z _ M0 N0 _ _ _ w1 u (zu HN.o (KE (l:=[z,a,b]) (y:=z) zp)) cA;obtain⟨k0,k1,k2,k3⟩:=xB.o _ (B0.o _ ((Chg.refl _ _)));simp only[zero_mul,add_zero,one_mul,Nat.reduceMul]at k0 k1 k2 k3;go_wp2_with fail;refine ci.mono ?_
 cases hy:evK K d M0 u z with
 |fault er u6=>
  rintro e w6 ⟨xA,⟨vx,rfl⟩,vA,eA⟩;have dB:w6.cell? ⟨K.p,17,none⟩=some (Iv er):=Ja vA.self 17;have eB:(er==0)=false:=zzq xA;have sA:(er !=0)=true:=by rw[bne,eB];rfl
  have yA:Hi (EvG K W c X (.returned (Iv 0)) w6):=by
   rw[Hi,HX.o,hy,RN.bind_fault];exact⟨xA,⟨_,rfl⟩,vA,M1.o.trans eA⟩
  go_wp2;go_ret;exact yA.o
 |val v u6=>
  rintro e w6 ⟨rfl,T3,j0⟩;have dB:w6.cell? ⟨K.p,17,none⟩=some (Iv 0):=Ja T3.self 17;have jA:=nA.o;rw[hy]at jA;obtain⟨zB,gA,iA⟩:=jA;have HY:=Zh hy;have hA:=Zh T3;have M2:=Zh j0;have dA:=Zh gA;have mA:=Zh iA;obtain⟨b0,b1,b2,b3⟩:=FF.o _ M2.o
  have uA:v=0\/v=1:=by
   have ht:=QmY HH.o.ty;have h:=mA.o;rw[ht]at h
   rcases h with⟨h,_⟩|⟨_,h⟩
   ·cases h
   ·exact h
  rcases uA with rfl|rfl
  ·have Q5:=HH.o.kid zd (i:=2) (y:=b) rfl aB.o hA.o (M1.o.trans M2.o) dA.o;have hB:=Zh (Q5.ok hk d);have ci:=aA.o b _ M0 N0 _ _ _ w6 u6 (zu HN.o (KE (l:=[z,a,b]) (y:=b) zp)) Q5;obtain⟨k0,k1,k2,k3⟩:=T7.o _ (B0.o _ (M2.o));simp only[zero_mul,add_zero,one_mul,Nat.reduceMul]at k0 k1 k2 k3;go_wp2_with fail;refine ci.mono ?_
   cases hz:evK K d M0 u6 b with
   |fault er u9=>
    rintro e w9 ⟨xA,⟨v9,rfl⟩,N4,D3⟩
    have yA:Hi (EvG K W c X (.returned (Iv v9)) w9):=by
     rw[Hi,HX.o,HY.o,RN.bind_val,if_pos rfl,hz];exact⟨xA,⟨_,rfl⟩,N4,M1.o.trans (Chg.trans M2.o D3)⟩
    go_wp2;go_ret;exact yA.o
   |val v9 u9=>
    rintro e w9 ⟨rfl,N4,D3⟩
    have yA:Hi (EvG K W c X (.returned (Iv v9)) w9):=by
     exact zA4
    go_wp2;go_ret;exact yA.o
  ·have bA:=HH.o.kid zd (i:=1) (y:=a) rfl qA.o hA.o (M1.o.trans M2.o) dA.o;have iB:=Zh (bA.ok hk d);have ci:=aA.o a _ M0 N0 _ _ _ w6 u6 (zu HN.o (KE (l:=[z,a,b]) (y:=a) zp)) bA;obtain⟨k0,k1,k2,k3⟩:=pA.o _ (B0.o _ (M2.o));simp only[zero_mul,add_zero,one_mul,Nat.reduceMul]at k0 k1 k2 k3;go_wp2_with fail;refine ci.mono ?_
   cases hz:evK K d M0 u6 a with
   |fault er u9=>
    rintro e w9 ⟨xA,⟨v9,rfl⟩,N4,D3⟩
    have yA:Hi (EvG K W c X (.returned (Iv v9)) w9):=by
     rw[Hi,HX.o,HY.o,RN.bind_val,if_neg zd,hz];exact⟨xA,⟨_,rfl⟩,N4,M1.o.trans (Chg.trans M2.o D3)⟩
    go_wp2;go_ret;exact yA.o
   |val v9 u9=>
    rintro e w9 ⟨rfl,N4,D3⟩
    have yA:Hi (EvG K W c X (.returned (Iv v9)) w9):=by
     exact zA5
    go_wp2;go_ret;exact yA.o
def Qkw(K:Qar)(hk:K.Ok)(c d n:Nat)(IH:QcO K c d n)(nn:Int)(s:By)(a b:Exp)(cs:Array Value)(M0 N0:List Int)(vv:Value)(Qad:Nat)(t:Int)(W:World)(u:Nat)(hn:Qaz (utL [a,b])<=n)(h:Qdp K c (.mk 19 nn s [a,b]) cs M0 N0 vv Qad t W u):
  Calls prog 45 #[Pt K.p,.agg cs,vv] W (EvG K W c (evK K d M0 u (.mk 19 nn s [a,b]))):=by
 obtain⟨ad,cc,rfl,zC,hK⟩:=h.x.kids;obtain⟨va,vc,rfl⟩:=h.ints.form';obtain⟨X,hX⟩:∃X,evK K d M0 u (.mk 19 nn s [a,b])=X:=⟨_,rfl⟩
 rw[hX];rw[Jju]at hX;have vB:=hX.symm;clear hX;have hX:=vB;clear vB;have HX:=Zh hX;have A0:Below W.heap.size W (W.alloc (.cells #[Iv 19,Iv nn,Sv s,.slice ad [a,b].length cc] 50)):=zzb.alloc zzl _;have H2:=Zh (h.at'.up A0);have M1:Hi (Chg [K.p] W (W.alloc (.cells #[Iv 19,Iv nn,Sv s,.slice ad [a,b].length cc] 50))):=Chg.of_below A0 [K.p];have S0:=Zh (zzw W (.cells #[Iv 19,Iv nn,Sv s,.slice ad [a,b].length cc] 50));have S1:Hi (W.heap.size≠K.p):=by have:=h.at'.lt;unfold Hi;omega
 have HH:=Zh h;have qB:=Zh hK;have tA:=Zh IH;have HN:=Zh hn;clear A0 h hK hX IH hn;go_enter func45,ntmps45;go_upto_region 1 with fail;generalize World.alloc W _=w1 at*;generalize W.heap.size=eb at*
 have FF:Hi (∀W',Chg [K.p] w1 W'->W'.cell? ⟨eb,0,none⟩=some (Iv 19)/\W'.cell? ⟨eb,1,none⟩=some (Iv nn)/\W'.cell? ⟨eb,2,none⟩=some (Sv s)/\W'.cell? ⟨eb,3,none⟩=some (.slice ad [a,b].length cc)):=by
  exact zAz
 have B0:Hi (∀W',Chg [K.p] w1 W'->Bel K.w0 W'):=λW' hW=>QdL H2.o.bel hk.num hW
 obtain⟨b0,b1,b2,b3⟩:=FF.o _ (Chg.refl _ _);obtain⟨kb,o,kB,B5,gA⟩:=qB.o.at0 zp;obtain⟨da,ca,rB,G3⟩:=gA 0 a rfl;have eB:=Zh rB;have dB:=Zh G3;obtain⟨db,cb,hB,mB⟩:=gA 1 b rfl;have pB:=Zh hB;have T7:=Zh mB;clear gA;subst kB;have jA:=HH.o.let1 eB.o H2.o (M1.o.trans (Chg.refl _ _)) HH.o.us;have zB:=Zh (jA.ok hk d);have ci:=tA.o a _ M0 N0 _ _ _ w1 u (zu HN.o (KE (l:=[a,b]) (y:=a) zp)) jA;clear jA;obtain⟨k0,k1,k2,k3⟩:=dB.o _ (B0.o _ ((Chg.refl _ _)));simp only[zero_mul,add_zero,one_mul,Nat.reduceMul]at k0 k1 k2 k3;go_wp2_with fail;refine ci.mono ?_;clear ci k0 k1 k2 k3 b0 b1 b2 b3
 cases hy:evK K d M0 u a with
 |fault er u6=>
  rintro e w6 ⟨aA,⟨vx,rfl⟩,hA,qA⟩;have aB:w6.cell? ⟨K.p,17,none⟩=some (Iv er):=Ja hA.self 17;have sB:(er==0)=false:=zzq aA;have iB:(er !=0)=true:=by rw[bne,sB];rfl
  have dA:Hi (EvG K W c X (.returned (Iv 0)) w6):=by
   rw[Hi,HX.o,hy,RN.bind_fault];exact⟨aA,⟨_,rfl⟩,hA,M1.o.trans qA⟩
  clear hA qA aA;go_wp2;go_ret;exact dA.o
 |val v u6=>
  rintro e w6 ⟨rfl,T3,j0⟩;have aB:w6.cell? ⟨K.p,17,none⟩=some (Iv 0):=Ja T3.self 17;have uB:=zB.o;rw[hy]at uB;obtain⟨nB,rA,yB⟩:=uB;have HY:=Zh hy;have iA:=Zh T3;have M2:=Zh j0;have cB:=Zh rA;have jB:=Zh yB;clear hy T3 j0 nB rA yB zB;obtain⟨b0,b1,b2,b3⟩:=FF.o _ M2.o;go_upto_region 36 with fail;clear b0 b1 b2 b3 aB;have HOW:=Zh (Vj w6 3 1);have E4:Below w6.heap.size w6 (w6.alloc (.cells #[] 3)):=zzb.alloc zzl _;have I3:=Zh E4;have xB:=Zh (Qki (HH.o.ints.chg (M1.o.trans (M2.o.trans (Chg.of_below E4 [K.p])))));have sA:Hi (K.p<w6.heap.size):=iA.o.lt;have zA:Hi (M0.length<=900000000):=by have:=HH.o.sz;unfold Hi;omega
  clear E4;go_wp2_with (at_builtin;go_loud (refine zV elI QeC QeB rfl _ _ rfl w6.heap.size _ 0 [] rfl HOW.o va vc M0.length M0 rfl xB.o rfl (zt zA.o) I3.o.size ?_));intro v8 w8 yA Q3
  (try simp only[Nat.zero_add,List.nil_append]at yA)
  obtain⟨a8,c8,gB⟩:=JB yA;subst gB;have hq:Below w8.heap.size w8 (w8.alloc (.cells #[Iv v] 3)):=zzb.alloc zzl _;have bA:=Zh (JZ yA hq);have bB:=Zh (zzw w8 (.cells #[Iv v] 3));have vA:=I3.o.trans Q3;have L8:Hi (Below w6.heap.size w6 (w8.alloc (.cells #[Iv v] 3))):=vA.alloc vA.size _;clear yA Q3 hq vA HOW xB I3;go_wp2_with (at_builtin;go_loud (refine zV elI QeC QeB rfl _ _ rfl w6.heap.size _ M0.length _ rfl bA.o _ 1 1 [v] rfl (.inr (Vk (g:=gI) (x:=v) bB.o)) rfl (zt zA.o) L8.o.size ?_));intro v9 kA xA cA;have eA:QaP kA K.p v9 (M0++[v]):=QgQ (by rw[List.length_append,List.length_singleton]) (by rw[List.flatMap_append];exact xA) sA.o;have X6:=L8.o.trans cA;have nA:=Zh (iA.o.up X6);have uA:Hi (Chg [K.p] w1 kA):=M2.o.trans (Chg.of_below X6 [K.p]);have pA:=Zh eA;obtain⟨xC,yC,mA⟩:=JB xA;subst mA;clear eA xA cA X6 bA bB L8 zA sA iA M2;obtain⟨b0,b1,b2,b3⟩:=FF.o _ uA.o;have Q5:=HH.o.let2 pB.o nA.o jB.o pA.o cB.o;have tB:=Zh (Q5.ok hk d);have ci:=tA.o b _ (M0++[v]) (N0++[(ofN K.r.sigs N0 (utN a)).1]) _ _ _ kA u6 (zu HN.o (KE (l:=[a,b]) (y:=b) zp)) Q5;clear Q5;obtain⟨k0,k1,k2,k3⟩:=T7.o _ (B0.o _ (uA.o));simp only[zero_mul,add_zero,one_mul,Nat.reduceMul]at k0 k1 k2 k3;go_wp2_with fail;refine ci.mono ?_;clear ci k0 k1 k2 k3 b0 b1 b2 b3
  cases hz:evK K d (M0++[v]) u6 b with
  |fault er u9=>
   rintro e w9 ⟨aA,⟨v9,rfl⟩,N4,D3⟩
   have dA:Hi (EvG K W c X (.returned (Iv v9)) w9):=by
    rw[Hi,HX.o,HY.o,RN.bind_val,hz];exact⟨aA,⟨_,rfl⟩,N4,M1.o.trans (Chg.trans uA.o D3)⟩
   clear hz N4 D3 aA;go_wp2;go_ret;exact dA.o
  |val v9 u9=>
   rintro e w9 ⟨rfl,N4,D3⟩
   have dA:Hi (EvG K W c X (.returned (Iv v9)) w9):=by
    rw[Hi,HX.o,HY.o,RN.bind_val,hz];exact⟨rfl,N4,M1.o.trans (Chg.trans uA.o D3)⟩
   clear hz N4 D3;go_wp2;go_ret;exact dA.o
def QiG(K:Qar)(hk:K.Ok)(c d n:Nat)(IH:QcO K c d n)(k nn:Int)(s:By)(a b:Exp)(cs:Array Value)(M0 N0:List Int)(vv:Value)(Qad:Nat)(t:Int)(W:World)(u:Nat)(hn:Qaz (utL [a,b])<=n)(h:Qdp K c (.mk k nn s [a,b]) cs M0 N0 vv Qad t W u)(s9:8<=k/\k<=15):
  Calls prog 45 #[Pt K.p,.agg cs,vv] W (EvG K W c (evK K d M0 u (.mk k nn s [a,b]))):=by
 obtain⟨ad,cc,rfl,iB,hK⟩:=h.x.kids;obtain⟨va,vc,rfl⟩:=h.ints.form';obtain⟨X,hX⟩:∃X,evK K d M0 u (.mk k nn s [a,b])=X:=⟨_,rfl⟩
 rw[hX];rw[QkA _ _ _ _ _ _ _ _ _ s9]at hX;have pA:=hX.symm;clear hX;have hX:=pA;clear pA;have HX:=Zh hX;have q0:(k==0)=false:=zzq zo;have q1:(k==1)=false:=zzq zo;have q2:(k==2)=false:=zzq zo;have q3:(k==3)=false:=zzq zo;have q4:(k==4)=false:=zzq zo;have q5:(k==5)=false:=zzq zo;have q6:(k==6)=false:=zzq zo;have q7:(k==7)=false:=zzq zo;have gB:(k==16)=false:=zzq zo;have kB:(k==17)=false:=zzq zo;have jB:(k==18)=false:=zzq zo;have eB:(k==19)=false:=zzq zo;have dB:(k==20)=false:=zzq zo;have qA:=Zh s9;have N2:k≠19:=zo
 have mA:=Zh N2;clear N2;have A0:Below W.heap.size W (W.alloc (.cells #[Iv k,Iv nn,Sv s,.slice ad [a,b].length cc] 50)):=zzb.alloc zzl _;have H2:=Zh (h.at'.up A0);have M1:Hi (Chg [K.p] W (W.alloc (.cells #[Iv k,Iv nn,Sv s,.slice ad [a,b].length cc] 50))):=Chg.of_below A0 [K.p];have S0:=Zh (zzw W (.cells #[Iv k,Iv nn,Sv s,.slice ad [a,b].length cc] 50));have S1:Hi (W.heap.size≠K.p):=by have:=h.at'.lt;unfold Hi;omega
 have HH:=Zh h;have bB:=Zh hK;have kA:=Zh IH;have HN:=Zh hn;clear A0 h hK hX IH hn s9;go_enter func45,ntmps45;go_upto_region 1 with fail;generalize World.alloc W _=w1 at*;generalize W.heap.size=eb at*
 have FF:Hi (∀W',Chg [K.p] w1 W'->W'.cell? ⟨eb,0,none⟩=some (Iv k)/\W'.cell? ⟨eb,1,none⟩=some (Iv nn)/\W'.cell? ⟨eb,2,none⟩=some (Sv s)/\W'.cell? ⟨eb,3,none⟩=some (.slice ad [a,b].length cc)):=by
  exact zAz
 have B0:Hi (∀W',Chg [K.p] w1 W'->Bel K.w0 W'):=λW' hW=>QdL H2.o.bel hk.num hW
 obtain⟨b0,b1,b2,b3⟩:=FF.o _ (Chg.refl _ _);obtain⟨kb,o,uB,B5,dA⟩:=bB.o.at0 zp;obtain⟨da,ca,cB,G3⟩:=dA 0 a rfl;have tA:=Zh cB;have sA:=Zh G3;obtain⟨db,cb,yB,vB⟩:=dA 1 b rfl;have aB:=Zh yB;have T7:=Zh vB;subst uB;have gA:=HH.o.kid mA.o (i:=0) (y:=a) rfl tA.o H2.o (M1.o.trans (Chg.refl _ _)) HH.o.us;have nA:=Zh (gA.ok hk d);have ci:=kA.o a _ M0 N0 _ _ _ w1 u (zu HN.o (KE (l:=[a,b]) (y:=a) zp)) gA;obtain⟨k0,k1,k2,k3⟩:=sA.o _ (B0.o _ ((Chg.refl _ _)));simp only[zero_mul,add_zero,one_mul,Nat.reduceMul]at k0 k1 k2 k3;go_wp2_with fail;refine ci.mono ?_
 cases hy:evK K d M0 u a with
 |fault er u6=>
  rintro e w6 ⟨yA,⟨vx,rfl⟩,zA,uA⟩;have cA:w6.cell? ⟨K.p,17,none⟩=some (Iv er):=Ja zA.self 17;have iA:(er==0)=false:=zzq yA;have eA:(er !=0)=true:=by rw[bne,iA];rfl
  have xA:Hi (EvG K W c X (.returned (Iv 0)) w6):=by
   rw[Hi,HX.o,hy,RN.bind_fault];exact⟨yA,⟨_,rfl⟩,zA,M1.o.trans uA⟩
  go_wp2;go_ret;exact xA.o
 |val v u6=>
  rintro e w6 ⟨rfl,T3,j0⟩;have cA:w6.cell? ⟨K.p,17,none⟩=some (Iv 0):=Ja T3.self 17;have aA:=nA.o;rw[hy]at aA;obtain⟨hA,bA,vA⟩:=aA;have HY:=Zh hy;have xB:=Zh T3;have M2:=Zh j0;have rA:=Zh bA;have zB:=Zh vA;obtain⟨b0,b1,b2,b3⟩:=FF.o _ M2.o;have Q5:=HH.o.kid mA.o (i:=1) (y:=b) rfl aB.o xB.o (M1.o.trans M2.o) rA.o;have jA:=Zh (Q5.ok hk d);have ci:=kA.o b _ M0 N0 _ _ _ w6 u6 (zu HN.o (KE (l:=[a,b]) (y:=b) zp)) Q5;obtain⟨k0,k1,k2,k3⟩:=T7.o _ (B0.o _ (M2.o));simp only[zero_mul,add_zero,one_mul,Nat.reduceMul]at k0 k1 k2 k3;go_wp2_with fail;refine ci.mono ?_
  cases hz:evK K d M0 u6 b with
  |fault er u9=>
   rintro e w9 ⟨yA,⟨vx,rfl⟩,zA,uA⟩;have cA:w9.cell? ⟨K.p,17,none⟩=some (Iv er):=Ja zA.self 17;have iA:(er==0)=false:=zzq yA;have eA:(er !=0)=true:=by rw[bne,iA];rfl
   have xA:Hi (EvG K W c X (.returned (Iv 0)) w9):=by
    rw[Hi,HX.o,HY.o,RN.bind_val,hz,RN.bind_fault];exact⟨yA,⟨_,rfl⟩,zA,M1.o.trans (M2.o.trans uA)⟩
   go_wp2;go_ret;exact xA.o
  |val v2 u9=>
   rintro e w9 ⟨rfl,N4,D3⟩;have cA:w9.cell? ⟨K.p,17,none⟩=some (Iv 0):=Ja N4.self 17;have aA:=jA.o;rw[hz]at aA;obtain⟨hA,bA,vA⟩:=aA;have I6:=Zh (M2.o.trans D3)
   have xA:Hi (∀e w',EvG K w9 c (Qap k v v2 u9) e w'->EvG K W c X e w'):=λe w' h=>by
    rw[HX.o,HY.o,RN.bind_val,hz,RN.bind_val];exact EvG.back (M1.o.trans I6.o) h
   have ct:=Qjp K hk w9 u9 c N4 k v v2 qA.o zB.o.wf vA.wf;obtain⟨b0,b1,b2,b3⟩:=FF.o _ I6.o;go_wp2_with fail;refine ct.mono ?_;intro e hB V3;have h11:=xA.o _ _ V3
   cases ho:Qap k v v2 u9 with
   |fault er u10=>
    rw[ho]at V3;obtain⟨_,⟨vx,rfl⟩,_,_⟩:=V3;have xA:=Zh h11;go_wp2;go_ret;exact xA.o
   |val vx u10=>
    rw[ho]at V3;obtain⟨rfl,_,_⟩:=V3;have xA:=Zh h11;go_wp2;go_ret;exact xA.o
def Qia(nf many:Nat)(k n:Int)(s:By)(l:List Exp):shN nf many (.mk k n s l)=(Qab nf many k n s&&(k==20||l.length==ar0 k)&&shL nf many k 0 l):=by conv=>lhs;unfold shN
def Qbn(nf many:Nat)(k:Int)(i:Nat)(a:Exp)(l:List Exp):shL nf many k i (a::l)=(shN nf (if k=19/\i=1 then many+1 else many) a&&shL nf many k (i+1) l):=by conv=>lhs;unfold shL
def QaS{nf many:Nat}{k n:Int}{s:By}{l:List Exp}(h:shN nf many (.mk k n s l)=true):Qab nf many k n s=true/\(0<=k/\k<21)/\(k≠20->l.length=ar0 k)/\shL nf many k 0 l=true:=by
 rw[Qia,Bool.and_eq_true,Bool.and_eq_true,Bool.or_eq_true,beq_iff_eq,beq_iff_eq]at h;refine⟨h.1.1,?_,λhk=>h.1.2.resolve_left hk,h.2⟩;have hf:=h.1.1;unfold Qab at hf;simp only[Bool.and_eq_true,decide_eq_true_eq]at hf;exact⟨hf.1.2,hf.2⟩
def Qib{nf m:Nat}{k:Int}:∀{l:List Exp}{j i:Nat}{y:Exp},shL nf m k j l=true->l[i]?=some y->shN nf (if k=19/\j+i=1 then m+1 else m) y=true
 |[],j,i,y,_,h=>by simp at h
 |a::l,j,0,y,h,hy=>by
  obtain rfl:a=y:=by simpa using hy
  rw[Qbn,Bool.and_eq_true]at h;exact h.1
 |a::l,j,i+1,y,h,hy=>by
  rw[Qbn,Bool.and_eq_true]at h;have:=Qib h.2 (show l[i]?=some y by simpa using hy);rw[show j+1+i=j+(i+1) by omega]at this;exact this
section
variable {fs:List FnM}{fa:Option Addr}{fc:Nat}{M0:List Int}{vv:Value}{k nn:Int}{s:By}{l:List Exp}{c:Array Value}{W:World}
def RfI.kidS(h:RfI fs fa fc M0 vv (.mk k nn s l) c W){i:Nat}{y:Exp}(hy:l[i]?=some y){d:Array Value}(hx:XAt W (In W) y d){sc:List Int}{sv:Value}(BA:sc.length=if k=19/\i=1 then M0.length+1 else M0.length)(hn:Qbc W (In W) sc sv):RfI fs fa fc sc sv y d W:=by
 obtain⟨_,_,_,hl⟩:=QaS h.sh;have hsz:=h.sz;rw[utN,JA]at hsz;have hm:=Jbz (List.mem_of_getElem? hy);have xA:=h.nm;unfold NmN at xA;have hg:=Qib hl hy;rw[Nat.zero_add]at hg;refine⟨h.fns,hn,hx,by rw[BA];exact hg,?_,JfA xA.2 y (List.mem_of_getElem? hy)⟩;rw[BA];split<;>omega
def RfI.kid{i:Nat}(h:RfI fs fa fc M0 vv (.mk k nn s l) c W)(N2:¬(k=19/\i=1)){y:Exp}(hy:l[i]?=some y){d:Array Value}(hx:XAt W (In W) y d):RfI fs fa fc M0 vv y d W:=h.kidS hy hx (by rw[if_neg N2]) h.nums
end
def QdA:maxLen=9223372036854775807:=rfl
def QdY{α:Type}(g:α->List Value)(m:Nat)(hm:0<m):∀(l:List α),(∀a∈l,(g a).length=m)->∀(i:Nat)(u:Value),(l.flatMap g)[i]?=some u->∃a,l[i / m]?=some a/\(g a)[i % m]?=some u
 |[],_,i,u,h=>by simp at h
 |a::l,hg,i,u,h=>by
  have ha:=hg a zp;rw[List.flatMap_cons]at h
  by_cases hi:i<m
  ·rw[List.getElem?_append_left (by rw[ha];exact hi)]at h;exact⟨a,by rw[Nat.div_eq_of_lt hi];rfl,by rw[Nat.mod_eq_of_lt hi];exact h⟩
  ·rw[List.getElem?_append_right (by rw[ha];omega),ha]at h;obtain⟨b,h1,h2⟩:=QdY g m hm l (λb hb=>hg b (by simp[hb])) (i-m) u h;refine⟨b,?_,?_⟩
   ·rw[Nat.div_eq_sub_div hm zo];exact h1
   ·rw[Nat.mod_eq_sub_mod zo];exact h2
def Qep{α:Type}{R:α->List Value->Prop}:∀(l:List (α×List Value)),(∀p∈l,R p.1 p.2)->Qck R (l.map (·.1)) (l.flatMap (·.2))
 |[],_=>rfl
 |p::l,h=>⟨p.2,_,h p zp,by simp,Qep l λq hq=>h q (by simp[hq])⟩
section
variable {H:Type}{enc:TypeId×Value->H}{P:Program}{w:World}{base:Nat}{spare:Nat->Bool}{held:Bool}
def Qdz{t e:TypeId}{m fuel:Nat}{v:Value}{x:DataW H×List MemPlace}{α:Type}(z:α)(R:α->List Value->Prop)(hm:0<m)(ht:P.underlying t=some (.slice e))(hC:P.cellsOf e=m)
  (hel:∀n,n<fuel->∀cs x,cs.length=m->DataW.trod enc P w base spare held n e cs=some x->∃a,R a cs) (h:DataW.trod enc P w base spare held fuel t [v]=some x):∃l:List α,Qao w (In w) R l v/\l.length<=9223372036854775807/\∀y∈l,∃cs,R y cs:=by
 rcases DataW.trod_slice ht h with⟨hcs,_⟩|⟨a,len,cap,elems,rest,n,hf,hcs,_,_,hle,hcm,hlen,UD,_,_⟩
 ·simp at hcs;subst hcs;exact⟨[],⟨none,0,[],rfl,le_refl _,rfl,.inl rfl⟩,by simp,λy hy=>by cases hy⟩
 ·simp at hcs;subst hcs hf
  have aA:∀i,i<len->∃p:α×List Value,p.2.length=m/\R p.1 p.2/\∀j,j<m->w.cell? (a.add (i*m+j))=p.2[j]?:=by
   intro i hi;have h1:=UD i hi;rw[hC,getElem?_eq_getElem zo]at h1;obtain⟨zA,hc,bA⟩:=Option.bind_eq_some_iff.1 h1;obtain⟨_,hcl,hat⟩:=World.cells?_some hc;obtain⟨y,hy⟩:=hel n (Nat.lt_succ_self _) zA _ hcl bA;exact⟨(y,zA),hcl,hy,λj hj=>by rw[<-Go.Deep.add_add];exact hat j hj⟩
  obtain⟨l,yA,E7,xA⟩:=Jeb (z,([]:List Value)) aA;rw[QdA]at hcm
  refine⟨l.map (·.1),⟨some a,cap,l.flatMap (·.2),by simp[yA],by simpa[yA] using hle,Qep l λp hp=>?_,?_⟩,by rw[List.length_map];omega,λy hy=>by
   obtain⟨p,hp,rfl⟩:=List.mem_map.1 hy;obtain⟨i,_,_,h2,_⟩:=xA p hp
   exact⟨_,h2⟩⟩
  ·obtain⟨i,_,_,h2,_⟩:=xA p hp;exact h2
  ·cases l with
   |nil=>exact .inl rfl
   |cons p0 l0=>
    refine .inr ?_;obtain⟨q1,_,q3⟩:=E7 0 p0 rfl;have h0:=q3 0 hm;obtain⟨u0,cA⟩:∃u,p0.2[0]?=some u:=⟨_,getElem?_eq_getElem zo⟩
    rw[cA]at h0;have vA:w.cell? a=some u0:=by simpa[Addr.add] using h0
    have uA:=JfQ vA;refine⟨a.block,a.off,by rw[<-uA],Jjn vA,λj u hj=>?_⟩;obtain⟨p,hp,hu⟩:=QdY (λp:α×List Value=>p.2) m hm _ (λp hp=>by obtain⟨_,_,h1,_⟩:=xA p hp;exact h1) _ _ hj;obtain⟨h1,_,h3⟩:=E7 _ p hp;have h4:=h3 (j % m) (Nat.mod_lt _ hm);rw[Jkk uA,show j / m*m+j % m=j by rw[Nat.mul_comm];exact Nat.div_add_mod j m]at h4;exact h4.trans hu
end
def Qih{W:World}{P:Nat->Prop}:∀{l:List Exp}{xs:List Value},Qck (λe c=>XAt W P e c.toArray/\NmN e) l xs->Qdc W P l xs/\NmL l
 |[],xs,h=>⟨by unfold Qdc;exact h,by unfold NmL;trivial⟩
 |e::l,xs,⟨c,r,h1,h2,h3⟩=>by
  obtain⟨g1,g2⟩:=Qih h3;exact⟨by unfold Qdc;exact⟨c.toArray,r,h1.1,h2,g1⟩,by unfold NmL;exact⟨h1.2,g2⟩⟩
section
variable {H:Type}{enc:TypeId×Value->H}{w:World}{base:Nat}{spare:Nat->Bool}{held:Bool}
def QbE{n:Nat}{t:TypeId}{l:List Value}{i:Nat}{o:Option (DataW H×List MemPlace)}{v:Value}(h:DataW.trod enc prog w base spare held n t ((l.drop i).take 1)=o)(ho:o.isSome=true)(hv:l[i]?=some v):∃y,DataW.trod enc prog w base spare held n t [v]=some y:=by
 obtain⟨y,hy⟩:=Option.isSome_iff_exists.1 ho;have hi:=(List.getElem?_eq_some_iff.1 hv).1
 have e:(l.drop i).take 1=[v]:=by
  rw[List.drop_eq_getElem_cons hi];have:=(List.getElem?_eq_some_iff.1 hv).2;rw[this];rfl
 exact⟨y,by rw[<-e,h,hy]⟩
def QgK:∀(yA:Nat)(cs:List Value)(x:DataW H×List MemPlace),DataW.trod enc prog w base spare held yA 50 cs=some x->∃E:Exp,XAt w (In w) E cs.toArray/\NmN E:=by
 intro yA
 induction yA using Nat.strongRecOn with
 |_ yA ih=>
  intro cs x h;obtain⟨xs,n,hf,_,hl,vA,hg⟩:=DataW.trod_struct underlying50 h;have uA:prog.cellsOf 50=4:=zk
  rw[uA]at hl
  match cs,hl with
  |[v0,v1,v2,v3],_=>
  have g0:=hg 0 _ rfl;have g1:=hg 1 _ rfl;have g2:=hg 2 _ rfl;have g3:=hg 3 _ rfl;have xA:∀i,i<4->(xs[i]?).isSome=true:=λi hi=>by rw[getElem?_eq_getElem (by rw[vA];exact hi)];rfl
  obtain⟨y0,t0⟩:=QbE g0 (xA 0 zd) rfl;obtain⟨y1,t1⟩:=QbE g1 (xA 1 zd) rfl;obtain⟨y2,t2⟩:=QbE g2 (xA 2 zd) rfl;obtain⟨y3,t3⟩:=QbE g3 (xA 3 zd) rfl;obtain⟨k,e0,_,_⟩:=DataW.trod_int underlying3 t0;obtain⟨nn,e1,_,_⟩:=DataW.trod_int underlying3 t1;obtain⟨s0,e2,_,zA⟩:=DataW.trod_string underlying9 t2;simp at e0 e1 e2;obtain⟨s,rfl⟩:=Jeq s0;subst e0 e1 e2;obtain⟨l,⟨ad,cc,ys,rfl,h2,h3,h4⟩,_,_⟩:=Qdz (m:=4) (.mk 0 0 [] []:Exp) (λe c=>XAt w (In w) e c.toArray/\NmN e) zd underlying48 uA (λn' hn' cs' x' _ ht'=>ih n' zo cs' x' ht') t3;obtain⟨g1,g2⟩:=Qih h3;rw[QdA,JP]at zA;refine⟨.mk k nn s l,?_,?_⟩
  ·unfold XAt;exact⟨ad,cc,ys,rfl,h2,g1,h4⟩
  ·unfold NmN;exact⟨zA,g2⟩
def QeD{n:Nat}{t:TypeId}{l:List Value}{i:Nat}{o:Option (DataW H×List MemPlace)}{v0 v1 v2 v3:Value}(h:DataW.trod enc prog w base spare held n t ((l.drop i).take 4)=o)(ho:o.isSome=true)(hv:(l.drop i).take 4=[v0,v1,v2,v3]):∃y,DataW.trod enc prog w base spare held n t [v0,v1,v2,v3]=some y:=by
 obtain⟨y,hy⟩:=Option.isSome_iff_exists.1 ho;exact⟨y,by rw[<-hv,h,hy]⟩
def Qin{fuel:Nat}{v:Value}{x:DataW H×List MemPlace}(h:DataW.trod enc prog w base spare held fuel 55 [v]=some x):∃l:List Int,Qbc w (In w) l v/\l.length<=9223372036854775807:=by
 obtain⟨l,⟨ad,cc,ys,h1,h2,h3,h4⟩,xA,_⟩:=Qdz (m:=1) (0:Int) (λn c=>c=[Iv n]) zd underlying55 zk (λn' _ cs' x' hc ht'=>by
  match cs',hc with
  |[u],_=>
   obtain⟨k,e,_,_⟩:=DataW.trod_int underlying3 ht'
   exact⟨k,e⟩) h
 refine⟨l,⟨ad,cc,h1,h2,h4.imp id ?_⟩,xA⟩;rintro⟨b,o,h5,h6,h7⟩;refine⟨b,o,h5,h6,λi n hi=>h7 i _ ?_⟩
 have hg:∀(l:List Int)(ys:List Value)(i:Nat)(n:Int),Qck (λn c=>c=[Value.int .i64 n]) l ys->l[i]?=some n->ys[i]?=some (Iv n):=by
  intro l
  induction l with
  |nil=>intro ys i n _ hi;simp at hi
  |cons a l ih=>
   rintro ys i n ⟨c,r,rfl,rfl,hr⟩ hi
   cases i with
   |zero=>simpa using hi
   |succ i=>simpa using ih r i n hr (by simpa using hi)
 exact hg l ys i n h3 hi
def QjZ{fuel:Nat}{cs:List Value}{x:DataW H×List MemPlace}(hl:cs.length=7)(h:DataW.trod enc prog w base spare held fuel 79 cs=some x):∃f:FnM,FnX w (In w) f cs/\f.name.length<=9223372036854775807/\f.params.length<=9223372036854775807/\NmN f.body:=by
 obtain⟨xs,n,_,_,_,zA,hg⟩:=DataW.trod_struct underlying79 h
 match cs,hl with
 |[v0,v1,v2,v3,v4,v5,v6],_=>
 have g0:=hg 0 _ rfl;have g1:=hg 1 _ rfl;have g2:=hg 2 _ rfl;have g3:=hg 3 _ rfl;have xA:∀i,i<4->(xs[i]?).isSome=true:=λi hi=>by rw[getElem?_eq_getElem (by rw[zA];exact hi)];rfl
 obtain⟨y0,t0⟩:=QbE g0 (xA 0 zd) rfl;obtain⟨y1,t1⟩:=QbE g1 (xA 1 zd) rfl;obtain⟨y2,t2⟩:=QbE g2 (xA 2 zd) rfl;obtain⟨y3,t3⟩:=QeD g3 (xA 3 zd) rfl;obtain⟨s0,e0,_,yA⟩:=DataW.trod_string underlying9 t0;obtain⟨rt,e2,_,_⟩:=DataW.trod_int underlying3 t2;simp at e0 e2;obtain⟨s,rfl⟩:=Jeq s0;subst e0 e2;obtain⟨ps,vA,uA⟩:=Qin t1;obtain⟨E,hE,hn⟩:=QgK n _ _ t3;rw[QdA,JP]at yA;exact⟨⟨s,ps,rt,E⟩,⟨v1,_,vA,hE,rfl⟩,yA,uA,hn⟩
def Qka{fuel:Nat}{cs:List Value}{x:DataW H×List MemPlace}(hl:cs.length=6)(h:DataW.trod enc prog w base spare held fuel 62 cs=some x):∃c:ClM,ClX w (In w) c cs/\NmN c.cond/\c.reason.length<=9223372036854775807:=by
 obtain⟨xs,n,_,_,_,zA,hg⟩:=DataW.trod_struct underlying62 h
 match cs,hl with
 |[v0,v1,v2,v3,v4,v5],_=>
 have g0:=hg 0 _ rfl;have g1:=hg 1 _ rfl;have g2:=hg 2 _ rfl;have xA:∀i,i<3->(xs[i]?).isSome=true:=λi hi=>by rw[getElem?_eq_getElem (by rw[zA];exact hi)];rfl
 obtain⟨y0,t0⟩:=QeD g0 (xA 0 zd) rfl;obtain⟨y1,t1⟩:=QbE g1 (xA 1 zd) rfl;obtain⟨y2,t2⟩:=QbE g2 (xA 2 zd) rfl;obtain⟨ac,e1,_,_⟩:=DataW.trod_int underlying3 t1;obtain⟨s0,e2,_,yA⟩:=DataW.trod_string underlying9 t2;simp at e1 e2;obtain⟨s,rfl⟩:=Jeq s0;subst e1 e2;obtain⟨E,hE,hn⟩:=QgK n _ _ t0;rw[QdA,JP]at yA;exact⟨⟨E,ac,s⟩,⟨_,hE,rfl⟩,hn,yA⟩
structure RNm(r:Qah):Prop where
 nf:r.funcs.length<=9223372036854775807
 nc:r.clauses.length<=9223372036854775807
 fn:∀f∈r.funcs,f.name.length<=9223372036854775807/\f.params.length<=9223372036854775807/\NmN f.body
 cl:∀c∈r.clauses,NmN c.cond/\c.reason.length<=9223372036854775807
def Qim{r:Go.Reach}{b0:Nat}{v:Value}{d:DataW H}{p:List MemPlace}(hv:Value.okWide prog w r b0 30 v)(h:DataW.Trod enc prog w base spare held 30 v d p):∃(q:Qah) (c:Array Value),v=.agg c/\QaV w (In w) q c/\RNm q:=by
 obtain⟨cs,rfl,xA,hg⟩:=JhI underlying30 zk zk hv h;obtain⟨v0,y0,k0,c0,t0⟩:=hg 0 _ rfl;obtain⟨v1,y1,k1,c1,t1⟩:=hg 1 _ rfl;obtain⟨v2,y2,k2,c2,t2⟩:=hg 2 _ rfl;obtain⟨ac,e2,_,_⟩:=DataW.trod_int underlying3 t2;simp at e2;subst e2;obtain⟨fs,vA,hfl,G3⟩:=Qdz (m:=7) (⟨[],[],0,.mk 0 0 [] []⟩:FnM) (λf c=>FnX w (In w) f c/\f.name.length<=9223372036854775807/\f.params.length<=9223372036854775807/\NmN f.body) zd underlying27 zk (λn' _ cs' x' hc ht'=>QjZ hc ht') t0;obtain⟨ks,uA,yA,zA⟩:=Qdz (m:=6) (⟨.mk 0 0 [] [],0,[]⟩:ClM) (λf c=>ClX w (In w) f c/\NmN f.cond/\f.reason.length<=9223372036854775807) zd underlying28 zk (λn' _ cs' x' hc ht'=>Qka hc ht') t1
 match cs,xA with
 |[u0,u1,u2],_=>
 simp at c0 c1 c2;subst c0 c1 c2;exact⟨⟨fs,ks,ac⟩,_,rfl,⟨_,_,rfl,vA.keep (λ_ _=>rfl) (λ_ h=>h) λ_ _ h=>h.1,uA.keep (λ_ _=>rfl) (λ_ h=>h) λ_ _ h=>h.1⟩,hfl,yA,λf hf=>by obtain⟨_,h⟩:=G3 f hf;exact h.2,λc hc=>by obtain⟨_,h⟩:=zA c hc;exact h.2⟩
end
def RNm.len{r:Qah}(h:RNm r):Qod r:=⟨h.nf,h.nc,λf hf=>(h.fn f hf).2.1⟩
def QiO{S:List Nat}{a b c:World}(h:Chg S a b)(k:Below a.heap.size b c):Chg S a c:=⟨k.os.trans h.os,k.tape.trans h.tape,k.output.trans h.output,Nat.le_trans h.size k.size,λi hi hn=>(k.block i hi).trans (h.block i hi hn)⟩
def LpG.step{K:Qar}{c d:Nat}{M0 N0:List Int}{u:Nat}{l:List Exp}{w1 w6:World}{i:Nat}{vs:List Int}{ui:Nat}{ov ov':Value}{W:World}(h:LpG K c d M0 N0 u l w1 i vs ui ov W){y:Exp}(hy:l[i]?=some y){v:Int}{u6:Nat}
  (he:evK K d M0 ui y=.val v u6) (hv:VOk (ofN K.r.sigs N0 (utN y)).1 v) (hu:u6<=10000) (hm:QbG K w6 u6 c 0) (hc:Chg [K.p] w1 w6) (hr:w6.ownsRow w1.heap.size 3 1 ov' (i+1) (vs.flatMap gI++[v].flatMap gI)):
  LpG K c d M0 N0 u l w1 (i+1) (vs++[v]) u6 ov' w6:=by
 have hi:i<l.length:=(List.getElem?_eq_some_iff.1 hy).1;have yA:l[i]=y:=(List.getElem?_eq_some_iff.1 hy).2;refine⟨hm,hc,by rw[List.flatMap_append];exact hr,?_,by rw[length_append,h.len];rfl,λj x z hj hz=>?_,hu⟩
 ·rw[h.ev,List.drop_eq_getElem_cons hi,yA,Jbp,he];simp only[RN.bind_val]
  cases QdZ K d M0 u6 (l.drop (i+1)) with
  |fault er u9=>rfl
  |val ws u9=>simp[RN.bind_val]
 ·by_cases C6:j<vs.length
  ·rw[List.getElem?_append_left C6]at hj;exact h.ok j x z hj hz
  ·have hlt:=(List.getElem?_eq_some_iff.1 hj).1;rw[length_append,List.length_singleton]at hlt;have xA:j=i:=by have:=h.len;omega
   subst xA;rw[List.getElem?_append_right zo,h.len,Nat.sub_self]at hj;obtain rfl:v=x:=by simpa using hj
   rw[hy]at hz;obtain rfl:=Option.some.inj hz;exact hv
def QkI(K:Qar)(W:World)(c:Nat)(N0:List Int)(l:List Exp):RN (List Int)->Ending->World->Prop
 |.val vs u,e,w'=>(∃A C,e=.returned (.slice A vs.length C)/\QaP w' K.p (.slice A vs.length C) vs)/\QbG K w' u c 0/\Chg [K.p] W w'/\u<=10000/\vs.length=l.length/\∀(j:Nat)(v:Int)(y:Exp),vs[j]?=some v->l[j]?=some y->VOk (ofN K.r.sigs N0 (utN y)).1 v
 |.fault er u,e,w'=>er≠0/\e=.returned Nl/\QbG K w' u c er/\Chg [K.p] W w'
def Qgp(K:Qar)(hk:K.Ok)(c d n:Nat)(IH:QcO K c d n)(nn:Int)(s:By)(l:List Exp)(ad:Option Addr)(cc:Nat)(M0 N0:List Int)(vv:Value)(Qad:Nat)(t:Int)(W:World)(u:Nat)(hn:Qaz (utL l)<=n)(h:Qdp K c (.mk 20 nn s l) #[Iv 20,Iv nn,Sv s,.slice ad l.length cc] M0 N0 vv Qad t W u):
  Calls prog 116 #[Pt K.p,.slice ad l.length cc,vv] W (QkI K W c N0 l (QdZ K d M0 u l)):=by
 obtain⟨aB,xB,hx,dB,hK⟩:=h.x.kids
 obtain⟨rfl,rfl⟩:ad=aB/\cc=xB:=by
  have:=congrArg (λc:Array Value=>c.getD 3 undef) hx;simp at this;exact this
 clear hx;obtain⟨va,vc,rfl⟩:=h.ints.form';obtain⟨X,hX⟩:∃X,QdZ K d M0 u l=X:=⟨_,rfl⟩
 rw[hX];have HX:=Zh hX;have HH:=Zh h;have vB:=Zh hK;have sA:=Zh IH;have HN:=Zh hn;have cB:l.length<=900000000:=by have:=Jfw l;have:=h.sz;rw[utN,JA]at this;omega
 have yA:Hi (LpG K c d M0 N0 u l W 0 [] u Nl W):=by
  refine⟨h.at',Chg.refl _ _,⟨by simp,.inl ⟨rfl,rfl⟩⟩,?_,rfl,λj v y hj=>by simp at hj,h.us⟩;rw[List.drop_zero]
  cases QdZ K d M0 u l with
  |fault er u9=>rfl
  |val ws u9=>simp[RN.bind_val]
 have B0:Hi (∀W',Chg [K.p] W W'->Bel K.w0 W'):=λW' hW=>QdL h.at'.bel hk.num hW
 have vA:Hi (K.p<W.heap.size):=h.at'.lt;clear h hK hX IH hn;go_enter func116,ntmps116;go_wp2_with fail;go_loopg [7,8] l.length λg v7 v8 wr=>∃i:Nat,g+i=l.length/\v8=Iv i/\Hi (∃vs ui,LpG K c d M0 N0 u l W i vs ui v7 wr)
 case atStart=>exact⟨0,rfl,rfl,_,_,yA.o⟩
 case round=>
 clear yA;obtain⟨wl,rfl⟩:=zG wr
 obtain⟨i,hg,rfl,rA⟩:=hrel;obtain⟨vs,ui,xA⟩:=rA.o;clear rA;obtain⟨oa,oc,uB⟩:=JB xA.row;subst uB
 by_cases hi:i<l.length
 ·have hil:(i:Int)<(l.length:Int):=zo
  have dil:decide ((i:Int)<(l.length:Int))=true:=zE hil;have bA:decide (i<l.length)=true:=zE hi;obtain⟨y,hy⟩:∃y,l[i]?=some y:=⟨l[i],getElem?_eq_getElem hi⟩
  obtain⟨b,o,yB,B5,gA⟩:=vB.o.at0 (List.ne_nil_of_mem (List.mem_of_getElem? hy));obtain⟨dy,cy,hxy,kA⟩:=gA i y hy;obtain⟨k0,k1,k2,k3⟩:=kA _ (B0.o _ xA.chg);have wk:=zI i;have hH:=HH.o.kid zd hy hxy xA.mr xA.chg xA.us;have HO:=Zh (hH.ok hk d);have ci:=sA.o y _ M0 N0 _ _ _ wl ui (zu HN.o (KE (List.mem_of_getElem? hy))) hH;have yA:=Zh xA;have HY:=Zh hy;have HG:=Zh hg;clear hH xA hy hg gA kA hxy B5;subst yB;go_wp2_with fail;refine ci.mono ?_;clear ci k0 k1 k2 k3
  cases hz:evK K d M0 ui y with
  |fault er u6=>
   rintro e w6 ⟨uA,⟨vx,rfl⟩,T3,j0⟩;have pA:w6.cell? ⟨K.p,17,none⟩=some (Iv er):=Ja T3.self 17;have bB:(er==0)=false:=zzq uA;have tA:(er !=0)=true:=by rw[bne,bB];rfl
   have cA:Hi (QkI K W c N0 l X (.returned Nl) w6):=by
    rw[Hi,<-HX.o,yA.o.fault HY.o hz];exact⟨uA,rfl,T3,yA.o.chg.trans j0⟩
   clear T3 j0 uA hz;go_wp2;go_ret;exact cA.o
  |val v u6=>
   rintro e w6 ⟨rfl,T3,j0⟩;have pA:w6.cell? ⟨K.p,17,none⟩=some (Iv 0):=Ja T3.self 17;have mA:=HO.o;rw[hz]at mA;obtain⟨zB,eA,iA⟩:=mA;have S9:=Jx yA.o.row j0 (by have:=vA.o;simpa using this);have hq:Below w6.heap.size w6 (w6.alloc (.cells #[Iv v] 3)):=zzb.alloc zzl _;have nA:=Zh (JZ S9 hq);have jA:=Zh (zzw w6 (.cells #[Iv v] 3));have M2:Hi (Chg [K.p] W w6):=yA.o.chg.trans j0;have hA:=Zh T3;have I3:=Zh hq;have HZ:=Zh hz;have HU:=Zh eA;have HV:=Zh iA;clear hz zB eA iA S9 hq T3 j0 HO;go_wp2_with (at_builtin;go_loud (refine zV elI QeC QeB rfl _ _ rfl W.heap.size _ i _ rfl nA.o _ 1 1 [v] rfl (.inr (Vk (g:=gI) (x:=v) jA.o)) rfl zo (Nat.le_trans M2.o.size I3.o.size) ?_));intro v8 w8 zA Q3;have X6:Below W.heap.size w6 w8:=(I3.o.mono M2.o.size).trans Q3;have dA:Chg [K.p] W w8:=QiO M2.o X6;have qA:QbG K w8 u6 c 0:=⟨(X6.block _ vA.o).trans hA.o.self,B0.o _ dA⟩
   have aA:Hi (LpG K c d M0 N0 u l W (i+1) (vs++[v]) u6 v8 w8):=yA.o.step HY.o HZ.o HV.o HU.o qA dA zA;clear zA Q3 X6 dA qA nA jA M2 hA I3 HZ HU HV pA yA;go_wp2;go_roundg (l.length-(i+1))
   case measure=>have:=HG.o;omega
   case rel=>exact⟨i+1,by have:=HG.o;omega,by go_num,_,_,aA.o⟩
 ·have hil:¬(i:Int)<(l.length:Int):=zo
  have dil:decide ((i:Int)<(l.length:Int))=false:=zF hil;have bA:decide (i<l.length)=false:=zF hi;obtain rfl:i=l.length:=zo
  have cA:Hi (QkI K W c N0 l X (.returned (.slice oa l.length oc)) wl):=by
   rw[Hi,<-HX.o,xA.fin];have UB:=QgQ xA.len xA.row vA.o;have he:=xA.len;refine⟨⟨oa,oc,by rw[he],by rw[he];exact UB⟩,xA.mr,xA.chg,xA.us,he,xA.ok⟩
  clear xA hg;go_wp2;go_ret;exact cA.o
def EvG.any{K:Qar}{W:World}{c:Nat}{x:RN Int}{e:Ending}{w':World}(h:EvG K W c x e w'):∃v f,e=.returned (Iv v)/\QbG K w' x.used c f/\Chg [K.p] W w'/\∀W2 w2 c2,QbG K w2 x.used c2 f->Chg [K.p] W2 w2->EvG K W2 c2 x (.returned (Iv v)) w2:=by
 cases x with
 |val v u=>exact⟨v,0,h.1,h.2.1,h.2.2,λW2 w2 c2 h1 h2=>⟨rfl,h1,h2⟩⟩
 |fault er u=>obtain⟨h0,⟨v,h1⟩,h2,h3⟩:=h;exact⟨v,er,h1,h2,h3,λW2 w2 c2 g1 g2=>⟨h0,⟨v,rfl⟩,g1,g2⟩⟩
def Qme(K:Qar)(c d n:Nat):Prop:=∀(nn:Int)(s:By)(l:List Exp)(cs:Array Value)(M0 N0:List Int)(vv:Value)(Qad:Nat)(t:Int)(W:World)(u:Nat),Qaz (utL l)<=n->Qdp K c (.mk 20 nn s l) cs M0 N0 vv Qad t W u->
 Calls prog 90 #[Pt K.p,.agg cs,vv] W (EvG K W c (evK K d M0 u (.mk 20 nn s l)))
set_option maxHeartbeats 40000000 in
def QiJ(K:Qar)(hk:K.Ok)(c d n:Nat)(NC:c+d=100)(IH:QcO K c d n)(IHB:∀d',d=d'+1->∀m,QcO K (c+1) d' m):Qme K c d n:=by
 intro nn s l cs M0 xA vv Qad t W u hn h;obtain⟨ad,cc,rfl,dC,hK⟩:=h.x.kids;obtain⟨va,vc,rfl⟩:=h.ints.form';obtain⟨X,hX⟩:∃X,evK K d M0 u (.mk 20 nn s l)=X:=⟨_,rfl⟩
 rw[hX];rw[JhM]at hX;have eB:=hX.symm;have HX:=Zh eB;have A0:Below W.heap.size W (W.alloc (.cells #[Iv 20,Iv nn,Sv s,.slice ad l.length cc] 50)):=zzb.alloc zzl _;have H2:=Zh (h.at'.up A0);have M1:Hi (Chg [K.p] W (W.alloc (.cells #[Iv 20,Iv nn,Sv s,.slice ad l.length cc] 50))):=Chg.of_below A0 [K.p];have S0:=Zh (zzw W (.cells #[Iv 20,Iv nn,Sv s,.slice ad l.length cc] 50));have S1:Hi (W.heap.size≠K.p):=by have:=h.at'.lt;unfold Hi;omega
 have h1:Qdp K c (.mk 20 nn s l) #[Iv 20,Iv nn,Sv s,.slice ad l.length cc] M0 xA (.slice va M0.length vc) Qad t (W.alloc (.cells #[Iv 20,Iv nn,Sv s,.slice ad l.length cc] 50)) u:=⟨h.nm,h.sz,h.x,h.fit,h.ty,h.vs,h.us,h.at'.up A0,h.ints.chg (Chg.of_below A0 [K.p])⟩
 have cv:=Qgp K hk c d n IH nn s l ad cc M0 xA _ Qad t _ u hn h1;have HH:=Zh h;have xC:=Zh IHB
 have gB:0<=nn/\nn<((QbH K.r.sigs).length:Int):=by
  obtain⟨_,hf,_,_⟩:=J6 h.fit;unfold Qab at hf;simp at hf;exact⟨hf.1.1,hf.1.2⟩
 clear A0 h hK hX eB IH IHB hn h1;obtain⟨i,rfl⟩:∃i:Nat,nn=i:=⟨nn.toNat,by omega⟩
 obtain⟨sg,xB⟩:∃sg,K.r.sigs[i]?=some sg:=⟨K.r.sigs[i]'(by have:=gB.2;rw[K6]at this;omega),getElem?_eq_getElem _⟩
 obtain⟨g,hg,kA,e1,e2⟩:=Jig xB;have vB:K.r.funcs.getD i Qmv=g:=by rw[List.getD_eq_getElem?_getD,hg];rfl
 have hil:(i:Int)<(K.r.funcs.length:Int):=by have:=(List.getElem?_eq_some_iff.1 hg).1;omega
 obtain⟨bf,of,pa,pc,da,dc,G3,hfc⟩:=hk.fns.get hg;obtain⟨_,nB,dB,hsz⟩:=hk.rsz.fn g kA
 have cB:Hi (∀vs:List Int,vs.length=l.length->(∀(j:Nat)(v:Int)(y:Exp),vs[j]?=some v->l[j]?=some y->VOk (ofN K.r.sigs xA (utN y)).1 v)->Qel g.params vs):=by
  intro vs yA jA;obtain⟨h1,h2⟩:=Jeg HH.o.ty;have hs:K.r.sigs.getD (i:Int).toNat ⟨[],0⟩=sg:=by rw[Int.toNat_natCast,List.getD_eq_getElem?_getD,xB];rfl
  rw[hs,e1]at h1 h2;refine⟨by omega,λj t v ht hv=>?_⟩;obtain⟨y,hy⟩:∃y,l[j]?=some y:=⟨l[j]'(zt ((List.getElem?_eq_some_iff.1 hv).1)),getElem?_eq_getElem _⟩
  have:=jA j v y hv hy;rw[h2 j y t hy ht]at this;exact this
 have uC:Hi (∀vs av w' u',Qel g.params vs->QaP w' K.p av vs->QbG K w' u' (c+1) 0->u'<=10000->Qdp K (c+1) g.body #[Iv g.body.kind,Iv g.body.num,.string (bs g.body.name),.slice da g.body.kids.length dc] vs g.params av 40 g.result w' u'):=λvs av w' u' hv hi h1 h3=>
  ⟨dB,by have:=hv.1;omega,hfc.body,JfD hk.tr kA,Jdc hk.ty kA,hv,h3,h1,hi⟩
 have eA:=Zh hfc;have vA:K.fa=some ⟨bf,of,none⟩:=G3;have yC:=Zh vA;have aC:=Zh vB;clear gB xB hg kA e1 e2 vB G3 hfc vA dB hsz nB;go_enter func90,ntmps90;go_upto_region 1 with fail;generalize World.alloc W _=w1 at*;generalize W.heap.size=eb at*
 have FF:Hi (∀W',Chg [K.p] w1 W'->W'.cell? ⟨eb,0,none⟩=some (Iv 20)/\W'.cell? ⟨eb,1,none⟩=some (Iv i)/\W'.cell? ⟨eb,2,none⟩=some (Sv s)/\W'.cell? ⟨eb,3,none⟩=some (.slice ad l.length cc)):=by
  exact zAz
 obtain⟨b0,b1,b2,b3⟩:=FF.o _ (Chg.refl _ _);go_wp2_with fail;refine cv.mono ?_;clear cv b0 b1 b2 b3
 cases hz:QdZ K d M0 u l with
 |fault er u6=>
  rintro e w6 ⟨nA,rfl,T3,j0⟩;have uA:w6.cell? ⟨K.p,17,none⟩=some (Iv er):=Ja T3.self 17;have vC:(er==0)=false:=zzq nA;have sB:(er !=0)=true:=by rw[bne,vC];rfl
  have zA:Hi (EvG K W c X (.returned (Iv 0)) w6):=by
   rw[Hi,HX.o,hz,RN.bind_fault];exact⟨nA,⟨_,rfl⟩,T3,M1.o.trans j0⟩
  clear T3 j0 nA hz;go_wp2;go_ret;exact zA.o
 |val vs u6=>
  rintro e w6 ⟨⟨oa,oc,rfl,jB⟩,T3,j0,qA,yA,jA⟩;have uA:w6.cell? ⟨K.p,17,none⟩=some (Iv 0):=Ja T3.self 17;have cs:=QfD K hk w6 u6 c T3 qA;have tB:=Zh (cB.o vs yA jA);have aB:=Zh jB;have M2:=Zh j0;have rA:=HX.o;rw[hz,RN.bind_val]at rA;have Q2:=Zh rA;have mB:=Zh qA;clear hz jB T3 j0 qA yA jA rA cB HX;go_wp2_with fail;refine cs.mono ?_;rintro e w7 ⟨rfl,hst,O3⟩;have hA:=Zh (M2.o.trans O3);have iB:=Zh (aB.o.chg O3);clear cs uA O3 M2 aB
  by_cases h:u6=10000
  ·rw[if_pos h]at hst;have uA:w7.cell? ⟨K.p,17,none⟩=some (Iv 14):=Ja hst.self 17
   have zA:Hi (EvG K W c X (.returned (Iv 0)) w7):=by
    rw[Hi,Q2.o]
    have:Qca K.r.funcs K.F d (i:Int) vs u6=.fault 14 u6:=by
     cases d<;>(unfold Qca;rw[if_pos h])
    rw[this];exact⟨by decide,⟨_,rfl⟩,hst,M1.o.trans hA.o⟩
   clear hst h;go_wp2;go_ret;exact zA.o
  rw[if_neg h]at hst;have qB:Hi (u6+1<=10000):=by have:=mB.o;unfold Hi;omega
  have uA:w7.cell? ⟨K.p,17,none⟩=some (Iv 0):=Ja hst.self 17;have gA:w7.cell? ⟨K.p,16,none⟩=some (Iv c):=Ja hst.self 16;have bB:=Jc hst.self 17;have pA:=Jc hst.self 16;have hlt:=hst.lt
  cases d with
  |zero=>
   obtain rfl:c=100:=zo
   have uB:=hst.setF hk 7
   have zA:Hi (EvG K W 100 X (.returned (Iv 0)) (w7.setCell ⟨K.p,17,none⟩ (Iv 7))):=by
    rw[Hi,Q2.o]
    have:Qca K.r.funcs K.F 0 (i:Int) vs u6=.fault 7 (u6+1):=by
     unfold Qca;rw[if_neg h]
    rw[this];exact⟨by decide,⟨_,rfl⟩,uB,(M1.o.trans hA.o).setCell (.inl zp) _⟩
   have aA:(w7.setCell ⟨K.p,17,none⟩ (Iv 7)).cell? ⟨K.p,17,none⟩=some (Iv 7):=Ja uB.self 17;have cA:=Zh aA;rw[show ((100:Nat):Int)=100 from rfl]at gA;clear hst h uB aA;go_upto_region 7 with fail;generalize World.setCell w7 _ _=w8 at*;have uA:=cA.o;go_wp2;go_ret;exact zA.o
  |succ d=>
  have yB:((c:Int)==100)=false:=zzq zo;have dA:(c==100)=false:=zzq zo;have bC:=zI c;have tA:=hst.setC hk (c+1);have A5:Chg [K.p] w1 (w7.setCell ⟨K.p,16,none⟩ (Iv ((c+1:Nat):Int))):=hA.o.setCell (.inl zp) _;rw[Int.natCast_add,Int.natCast_one]at tA A5;have zC:=Zh tA;have A7:=Zh A5;have rB:=Zh (iB.o.chg ((Chg.refl [K.p] w7).setCell (p:=⟨K.p,16,none⟩) (.inl zp) (Iv ((c:Int)+1))))
  have D6:Hi (X=evK K d vs (u6+1) g.body):=by
   rw[Hi,Q2.o];unfold Qca;rw[if_neg h,Int.toNat_natCast,aC.o];rfl
  go_upto_region 10 with fail;generalize World.setCell w7 _ _=w3 at*
  have sA:Hi (∀W' u' f,QbG K W' u' (c+1) f->Chg [K.p] w1 W'->(W'.cell? ⟨K.p,0,none⟩=some (.slice (some ⟨bf,of,none⟩) K.r.funcs.length K.fc)/\W'.cell? ⟨eb,1,none⟩=some (Iv i)/\W'.cell? ⟨bf,of+i*7+3,none⟩=some (Iv g.body.kind)/\W'.cell? ⟨bf,of+i*7+4,none⟩=some (Iv g.body.num)/\W'.cell? ⟨bf,of+i*7+5,none⟩=some (.string (bs g.body.name))/\W'.cell? ⟨bf,of+i*7+6,none⟩=some (.slice da g.body.kids.length dc))):=by
   intro W' u' f hM hC;have b0:W'.cell? ⟨K.p,0,none⟩=some (.slice K.fa K.r.funcs.length K.fc):=Ja hM.self 0;rw[yC.o]at b0;have iA:∀j u,K.w0.cell? ⟨bf,of+i*7+j,none⟩=some u->W'.cell? ⟨bf,of+i*7+j,none⟩=some u:=λj u hu=>(hM.bel.cell (p:=⟨bf,of+i*7+j,none⟩) eA.o.blt).trans hu
   exact⟨b0,(FF.o _ hC).2.1,iA 3 _ eA.o.c3,iA 4 _ eA.o.c4,iA 5 _ eA.o.c5,iA 6 _ eA.o.c6⟩
  have zB:=Zh zC.o.drew;have mA:Hi (Chg [K.p] w1 w3.drew):=A7.o.trans (Chg.of_below (Below.refl w3.heap.size w3).drew [K.p]);have hB:=Zh (rB.o.chg (Chg.of_below (Below.refl w3.heap.size w3).drew [K.p]));refine wp_region_held_drew (S:=(λW'=>Chg [K.p] w1 W'/\(W'.cell? ⟨K.p,0,none⟩=some (.slice (some ⟨bf,of,none⟩) K.r.funcs.length K.fc)/\W'.cell? ⟨eb,1,none⟩=some (Iv i)/\W'.cell? ⟨bf,of+i*7+3,none⟩=some (Iv g.body.kind)/\W'.cell? ⟨bf,of+i*7+4,none⟩=some (Iv g.body.num)/\W'.cell? ⟨bf,of+i*7+5,none⟩=some (.string (bs g.body.name))/\W'.cell? ⟨bf,of+i*7+6,none⟩=some (.slice da g.body.kids.length dc)))) zk (⟨mA.o,sA.o _ _ _ zB.o mA.o⟩) λhHeld=>?_;refine wpAnyH_take (i:=0) (oi:={dst:=some 48,op:=Go.Op.move (Go.Operand.tmp 0),type:=86,pos:="ref.go:155",after:=#[],guard:=none}) (v:=?vT1_0) rfl zk zk zk (λ_ _ _ h=>h) (Or.inl ⟨by rfl,?yT1_0⟩) (by assumption) ?_
  case yT1_0=>(intro wX hSw;(try dsimp only at hSw);go_simp<;>with_reducible rfl)
  refine wpAnyH_take (i:=1) (oi:={dst:=some 49,op:=Go.Op.move (Go.Operand.tmp 0),type:=86,pos:="ref.go:155",after:=#[],guard:=none}) (v:=?vT1_1) rfl zk zk zk (λ_ _ _ h=>h) (Or.inl ⟨by rfl,?yT1_1⟩) (by assumption) ?_
  case yT1_1=>(intro wX hSw;(try dsimp only at hSw);go_simp<;>with_reducible rfl)
  refine wpAnyH_take (i:=2) (oi:={dst:=some 50,op:=Go.Op.nilCheck (Go.Operand.tmp 49),type:=0,pos:="ref.go:155",after:=#[{on:=1,ground:=Go.Ground.data}],guard:=none}) (v:=?vT1_2) rfl zk zk zk (λ_ _ _ h=>h) (Or.inl ⟨by rfl,?yT1_2⟩) (by assumption) ?_
  case yT1_2=>(intro wX hSw;(try dsimp only at hSw);go_simp<;>with_reducible rfl)
  refine wpAnyH_take (i:=3) (oi:={dst:=some 51,op:=Go.Op.fieldAddr 88 (Go.Operand.tmp 50) 0,type:=0,pos:="ref.go:155",after:=#[{on:=2,ground:=Go.Ground.data}],guard:=none}) (v:=?vT1_3) rfl zk zk zk (λ_ _ _ h=>h) (Or.inl ⟨by rfl,?yT1_3⟩) (by assumption) ?_
  case yT1_3=>(intro wX hSw;(try dsimp only at hSw);go_simp<;>with_reducible rfl)
  refine wpAnyH_take (i:=4) (oi:={dst:=some 52,op:=Go.Op.fieldAddr 30 (Go.Operand.tmp 51) 0,type:=0,pos:="ref.go:155",after:=#[{on:=3,ground:=Go.Ground.data}],guard:=none}) (v:=?vT1_4) rfl zk zk zk (λ_ _ _ h=>h) (Or.inl ⟨by rfl,?yT1_4⟩) (by assumption) ?_
  case yT1_4=>(intro wX hSw;(try dsimp only at hSw);go_simp<;>with_reducible rfl)
  refine wpAnyH_take (i:=5) (oi:={dst:=some 53,op:=Go.Op.load 27 (Go.Operand.tmp 52),type:=27,pos:="ref.go:155",after:=#[{on:=4,ground:=Go.Ground.data}],guard:=none}) (v:=?vT1_5) rfl zk zk zk (λ_ _ _ h=>h) (Or.inl ⟨by rfl,?yT1_5⟩) (by assumption) ?_
  case yT1_5=>(intro wX hSw;(try dsimp only at hSw);go_simp<;>with_reducible rfl)
  refine wpAnyH_take (i:=6) (oi:={dst:=some 54,op:=Go.Op.fieldAddr 50 (Go.Operand.tmp 4) 1,type:=0,pos:="ref.go:155",after:=#[],guard:=none}) (v:=?vT1_6) rfl zk zk zk (λ_ _ _ h=>h) (Or.inl ⟨by rfl,?yT1_6⟩) (by assumption) ?_
  case yT1_6=>(intro wX hSw;(try dsimp only at hSw);go_simp<;>with_reducible rfl)
  refine wpAnyH_take (i:=7) (oi:={dst:=some 55,op:=Go.Op.load 3 (Go.Operand.tmp 54),type:=3,pos:="ref.go:155",after:=#[{on:=6,ground:=Go.Ground.data}],guard:=none}) (v:=?vT1_7) rfl zk zk zk (λ_ _ _ h=>h) (Or.inl ⟨by rfl,?yT1_7⟩) (by assumption) ?_
  case yT1_7=>(intro wX hSw;(try dsimp only at hSw);go_simp<;>with_reducible rfl)
  refine wpAnyH_take (i:=8) (oi:={dst:=some 56,op:=Go.Op.indexAddr 27 (Go.Operand.tmp 53) (Go.Operand.tmp 55),type:=0,pos:="ref.go:155",after:=#[{on:=5,ground:=Go.Ground.data},{on:=7,ground:=Go.Ground.data}],guard:=none}) (v:=?vT1_8) rfl zk zk zk (λ_ _ _ h=>h) (Or.inl ⟨by rfl,?yT1_8⟩) (by assumption) ?_
  case yT1_8=>(intro wX hSw;(try dsimp only at hSw);go_simp<;>with_reducible rfl)
  refine wpAnyH_take (i:=9) (oi:={dst:=some 57,op:=Go.Op.fieldAddr 79 (Go.Operand.tmp 56) 3,type:=0,pos:="ref.go:155",after:=#[{on:=8,ground:=Go.Ground.data}],guard:=none}) (v:=?vT1_9) rfl zk zk zk (λ_ _ _ h=>h) (Or.inl ⟨by rfl,?yT1_9⟩) (by assumption) ?_
  case yT1_9=>(intro wX hSw;(try dsimp only at hSw);go_simp<;>with_reducible rfl)
  refine wpAnyH_take (i:=10) (oi:={dst:=some 58,op:=Go.Op.load 50 (Go.Operand.tmp 57),type:=50,pos:="ref.go:155",after:=#[{on:=9,ground:=Go.Ground.data}],guard:=none}) (v:=?vT1_10) rfl zk zk zk (λ_ _ _ h=>h) (Or.inl ⟨by rfl,?yT1_10⟩) (by assumption) ?_
  case yT1_10=>(intro wX hSw;(try dsimp only at hSw);go_simp<;>with_reducible rfl)
  refine wpAnyH_take (i:=11) (oi:={dst:=some 59,op:=Go.Op.move (Go.Operand.tmp 7),type:=55,pos:="ref.go:155",after:=#[],guard:=none}) (v:=?vT1_11) rfl zk zk zk (λ_ _ _ h=>h) (Or.inl ⟨by rfl,?yT1_11⟩) (by assumption) ?_
  case yT1_11=>(intro wX hSw;(try dsimp only at hSw);go_simp<;>with_reducible rfl)
  refine wpAnyH_ready (rs:=[12]) zk zp (AllReadyH.cons (o:={dst:=some 60,op:=Go.Op.call {callee:=Go.Callee.value (Go.Operand.func 45),args:=#[Go.Operand.tmp 48,Go.Operand.tmp 58,Go.Operand.tmp 59],argTypes:=#[86,50,55]},type:=3,pos:="ref.go:155",after:=#[{on:=0,ground:=Go.Ground.data},{on:=10,ground:=Go.Ground.data},{on:=11,ground:=Go.Ground.data}],guard:=none}) rfl (λK hK=>?_) AllReadyH.nil);have hH:=uC.o vs _ w3.drew (u6+1) tB.o hB.o zB.o qB.o;have ci:=xC.o d rfl _ g.body _ vs g.params _ _ _ w3.drew (u6+1) zzl hH;clear hH
  (go_simp;go_at_call 45;refine ci.mono ?_;intro e w9 h9)
  rw[<-D6.o]at h9;obtain⟨v9,f9,rfl,N4,D3,bA⟩:=h9.any;have d7:=Zh N4;have I6:=Zh (mA.o.trans D3);have kB:=Zh bA;clear ci h9 N4 D3 bA;refine zU hK (⟨I6.o,sA.o _ _ _ d7.o I6.o⟩) λhHeld=>?_;clear hK K
  refine wpAnyH_take (i:=13) (oi:={dst:=some 8,op:=Go.Op.assign (Go.Operand.tmp 60),type:=3,pos:="ref.go:155",after:=#[{on:=12,ground:=Go.Ground.data},{on:=12,ground:=Go.Ground.chain},{on:=0,ground:=Go.Ground.phase},{on:=1,ground:=Go.Ground.phase},{on:=2,ground:=Go.Ground.phase},{on:=3,ground:=Go.Ground.phase},{on:=4,ground:=Go.Ground.phase},{on:=5,ground:=Go.Ground.phase},{on:=6,ground:=Go.Ground.phase},{on:=7,ground:=Go.Ground.phase},{on:=8,ground:=Go.Ground.phase},{on:=9,ground:=Go.Ground.phase},{on:=10,ground:=Go.Ground.phase},{on:=11,ground:=Go.Ground.phase},{on:=12,ground:=Go.Ground.phase}],guard:=none}) (v:=?vT2_13) rfl zk zk zk (λ_ _ _ h=>h) (Or.inl ⟨by rfl,?yT2_13⟩) (by assumption) ?_
  case yT2_13=>(intro wX hSw;(try dsimp only at hSw);go_simp<;>with_reducible rfl)
  refine wpAnyH_done zk ?_ _;have gA:w9.cell? ⟨K.p,16,none⟩=some (Iv ((c:Int)+1)):=Ja d7.o.self 16;have pA:=Jc d7.o.self 16;have hlt:=d7.o.lt;have cC:IntKind.i64.wrap ((c:Int)+1-1)=(c:Int):=by rw[IntWalk.i64_in _ zo];omega
  have pB:(c:Int)+1-1=(c:Int):=zo
  have zA:Hi (EvG K W c X (.returned (Iv v9)) (w9.setCell ⟨K.p,16,none⟩ (Iv c))):=kB.o _ _ _ (d7.o.setC hk c) ((M1.o.trans I6.o).setCell (.inl zp) _);clear hHeld d7 I6 kB zB mA hB sA;go_wp2;go_ret;exact zA.o
def Qjs(K:Qar)(hk:K.Ok)(c d n:Nat)(MC:Qme K c d n)(nn:Int)(s:By)(l:List Exp)(cs:Array Value)(M0 N0:List Int)(vv:Value)(Qad:Nat)(t:Int)(W:World)(u:Nat)(hn:Qaz (utL l)<=n)(h:Qdp K c (.mk 20 nn s l) cs M0 N0 vv Qad t W u):
  Calls prog 45 #[Pt K.p,.agg cs,vv] W (EvG K W c (evK K d M0 u (.mk 20 nn s l))):=by
 obtain⟨ad,cc,rfl,zA,hK⟩:=h.x.kids;obtain⟨va,vc,rfl⟩:=h.ints.form';obtain⟨X,hX⟩:∃X,evK K d M0 u (.mk 20 nn s l)=X:=⟨_,rfl⟩
 rw[hX];have HX:=Zh hX;have A0:Below W.heap.size W (W.alloc (.cells #[Iv 20,Iv nn,Sv s,.slice ad l.length cc] 50)):=zzb.alloc zzl _;have H2:=Zh (h.at'.up A0);have M1:Hi (Chg [K.p] W (W.alloc (.cells #[Iv 20,Iv nn,Sv s,.slice ad l.length cc] 50))):=Chg.of_below A0 [K.p];have S0:=Zh (zzw W (.cells #[Iv 20,Iv nn,Sv s,.slice ad l.length cc] 50));have S1:Hi (W.heap.size≠K.p):=by have:=h.at'.lt;unfold Hi;omega
 have HH:=Zh h;have HN:=Zh hn;go_enter func45,ntmps45;go_upto_region 1 with fail;generalize World.alloc W _=w1 at*;generalize W.heap.size=eb at*
 have FF:Hi (∀W',Chg [K.p] w1 W'->W'.cell? ⟨eb,0,none⟩=some (Iv 20)/\W'.cell? ⟨eb,1,none⟩=some (Iv nn)/\W'.cell? ⟨eb,2,none⟩=some (Sv s)/\W'.cell? ⟨eb,3,none⟩=some (.slice ad l.length cc)):=by
  exact zAz
 obtain⟨b0,b1,b2,b3⟩:=FF.o _ (Chg.refl _ _);have h1:Qdp K c (.mk 20 nn s l) #[Iv 20,Iv nn,Sv s,.slice ad l.length cc] M0 N0 (.slice va M0.length vc) Qad t w1 u:=⟨HH.o.nm,HH.o.sz,HH.o.x,HH.o.fit,HH.o.ty,HH.o.vs,HH.o.us,H2.o,HH.o.ints.chg M1.o⟩
 have cf:=MC nn s l _ M0 N0 _ Qad t w1 u HN.o h1;rw[HX.o]at cf;go_wp2_with fail;refine cf.mono ?_;intro e w2 h2;have xA:=EvG.back M1.o h2;obtain⟨v9,f9,rfl,_,_,_⟩:=xA.any;have yA:=Zh xA;go_wp2;go_ret;exact yA.o
def Qfg(K:Qar)(hk:K.Ok)(c d:Nat)(NC:c+d=100)(IHB:∀d',d=d'+1->∀m,QcO K (c+1) d' m):∀n,QcO K c d n
 |0=>λe cs M0 N0 vv Qad t W u hn h=>by
  have:=KN (utN e);omega
 |n+1=>λe cs M0 N0 vv Qad t W u hn h=>by
  have IH:=Qfg K hk c d NC IHB n;obtain⟨k,nn,s,l⟩:=e;have xA:Qaz (utL l)<=n:=by rw[utN,JA]at hn;omega
  obtain⟨_,hf,ha,_⟩:=J6 h.fit
  have yA:l.length=1->∃a,l=[a]:=λh=>by
   match l,h with
   |[a],_=>exact⟨a,rfl⟩
  rcases Jbb hf with rfl|rfl|rfl|rfl|rfl|rfl|rfl|rfl|h8|rfl|rfl|rfl|rfl|rfl|rfl
  ·exact Qkx K hk c d n IH nn s l cs M0 N0 vv Qad t W u xA h
  ·exact Qjt K hk c d n IH nn s l cs M0 N0 vv Qad t W u xA h
  ·exact Qkt K hk c d n IH nn s l cs M0 N0 vv Qad t W u xA h
  ·exact Qjr K hk c d n IH nn s l cs M0 N0 vv Qad t W u xA h
  ·exact QiH K hk c d n IH nn s l cs M0 N0 vv Qad t W u xA h
  ·exact Qjq K hk c d n IH nn s l cs M0 N0 vv Qad t W u xA h
  ·obtain⟨a,rfl⟩:=yA ha;exact Qkv K hk c d n IH nn s a cs M0 N0 vv Qad t W u xA h
  ·obtain⟨a,rfl⟩:=yA ha;exact Qku K hk c d n IH nn s a cs M0 N0 vv Qad t W u xA h
  ·have h2:l.length=2:=by
    rw[ha];unfold Qbi;rw[if_neg zo,if_neg zo,if_neg zo,if_neg zo]
   obtain⟨a,b,rfl⟩:=KD h2;exact QiG K hk c d n IH k nn s a b cs M0 N0 vv Qad t W u xA h ⟨h8.1,by omega⟩
  ·obtain⟨a,b,rfl⟩:=KD (show l.length=2 from ha);exact QiG K hk c d n IH 15 nn s a b cs M0 N0 vv Qad t W u xA h ⟨by decide,by decide⟩
  ·obtain⟨a,b,rfl⟩:=KD (show l.length=2 from ha);exact Qky K hk c d n IH nn s a b cs M0 N0 vv Qad t W u xA h
  ·obtain⟨a,b,rfl⟩:=KD (show l.length=2 from ha);exact QlQ K hk c d n IH nn s a b cs M0 N0 vv Qad t W u xA h
  ·obtain⟨z,a,b,rfl⟩:=Zu (show l.length=3 from ha);exact QlR K hk c d n IH nn s z a b cs M0 N0 vv Qad t W u xA h
  ·obtain⟨a,b,rfl⟩:=KD (show l.length=2 from ha);exact Qkw K hk c d n IH nn s a b cs M0 N0 vv Qad t W u xA h
  ·exact Qjs K hk c d n (QiJ K hk c d n NC IH IHB) nn s l cs M0 N0 vv Qad t W u xA h
def QiI(K:Qar)(hk:K.Ok):∀d c,c+d=100->∀n,QcO K c d n
 |0,c,h=>Qfg K hk c 0 h (λd' h=>by cases h)
 |d+1,c,h=>Qfg K hk c (d+1) h (λd' h'=>by
  obtain rfl:d=d':=zo
  exact QiI K hk d (c+1) zo)
mutual
def Qfp:Exp->Nat
 |.mk _ _ _ l=>Qek l+1
def Qek:List Exp->Nat
 |[]=>0
 |a::l=>max (Qfp a) (Qek l)
end
def Qfi(k n:Int)(s:By)(l:List Exp):Qfp (.mk k n s l)=Qek l+1:=by conv=>lhs;unfold Qfp
def Qbu(a:Exp)(l:List Exp):Qek (a::l)=max (Qfp a) (Qek l):=by conv=>lhs;unfold Qek
def Qfj:∀{l:List Exp}{a:Exp},a∈l->Qfp a<=Qek l
 |b::l,a,h=>by
  rw[Qbu]
  rcases List.mem_cons.1 h with rfl|h
  ·omega
  ·have:=Qfj h;omega
def Qgs:∀{l:List Exp}{n:Nat},(∀a∈l,Qfp a<=n)->Qek l<=n
 |[],n,h=>by unfold Qek;omega
 |b::l,n,h=>by
  rw[Qbu];have h1:=h b zp;have h2:=Qgs (l:=l) (n:=n) λa ha=>h a (by simp[ha])
  omega
def QfX(nf many:Nat)(k:Int)(i:Nat):shL nf many k i []=true:=by unfold shL;rfl
def QfY{nf many:Nat}{k:Int}(hk:k≠19):∀{l:List Exp}{i:Nat},shL nf many k i l=true->∀a∈l,shN nf many a=true
 |[],_,_,a,ha=>by cases ha
 |b::l,i,h,a,ha=>by
  rw[Qbn,if_neg λh=>hk h.1,Bool.and_eq_true]at h
  rcases List.mem_cons.1 ha with rfl|ha
  ·exact h.1
  ·exact QfY hk h.2 a ha
def QgX{pa:List Nat}{m Qad:Nat}{k:Int}(hk:k≠19):∀{l:List Exp}{i:Nat},(∀a∈l,QaC pa m Qad a=true)->QaD pa m Qad k i l=true
 |[],_,_=>by unfold QaD;rfl
 |b::l,i,h=>by
  unfold QaD;rw[if_neg λh=>hk h.1,Bool.and_eq_true];exact⟨h b zp,QgX hk λa ha=>h a (by simp[ha])⟩
def Qjz{nf m:Nat}{k:Int}(hk:k≠19):∀{l:List Exp}{i:Nat},(∀a∈l,shN nf m a=true)->shL nf m k i l=true
 |[],_,_=>QfX _ _ _ _
 |b::l,i,h=>by
  rw[Qbn,if_neg λh=>hk h.1,Bool.and_eq_true];exact⟨h b zp,Qjz hk λa ha=>h a (by simp[ha])⟩
def QfJ{pa:List Nat}{m Qad:Nat}{k:Int}(hk:k≠19):∀{l:List Exp}{i:Nat},QaD pa m Qad k i l=true->∀a∈l,QaC pa m Qad a=true
 |[],_,_,a,ha=>by cases ha
 |b::l,i,h,a,ha=>by
  unfold QaD at h;rw[if_neg λh=>hk h.1,Bool.and_eq_true]at h
  rcases List.mem_cons.1 ha with rfl|ha
  ·exact h.1
  ·exact QfJ hk h.2 a ha
def Qjw{fs:List Qau}{M0:List Int}{n:Int}{s:By}{l:List Exp}(h:(ofN fs M0 (utN (.mk 20 n s l))).2=[]):l.length=(fs.getD n.toNat ⟨[],0⟩).params.length:=by
 rw[utN,YX]at h;simp only[show ¬((20:Int)=1\/(20:Int)=5) by decide,show ¬(20:Int)=2 by decide,show ¬(20:Int)=3 by decide,show ¬((20:Int)=6\/(8<=(20:Int)/\(20:Int)<=12)) by decide,show ¬((20:Int)=13\/(20:Int)=14) by decide,show ¬(20:Int)=15 by decide,show ¬((20:Int)=7\/(20:Int)=16\/(20:Int)=17) by decide,show ¬(20:Int)=18 by decide,show ¬(20:Int)=19 by decide,if_false,if_true]at h;have h2:=(List.append_eq_nil_iff.1 h).1
 by_cases hl:(utL l).length≠(fs.getD n.toNat ⟨[],0⟩).params.length
 ·rw[if_pos hl]at h2;cases h2
 ·rw[JR]at hl;exact Decidable.not_not.1 hl
def Qgj{fs:List Qau}{M0:List Int}{n:Int}{s:By}{a b:Exp}:(ofN fs M0 (utN (.mk 19 n s [a,b])))=((ofN fs (M0++[(ofN fs M0 (utN a)).1]) (utN b)).1,(ofN fs M0 (utN a)).2++(ofN fs (M0++[(ofN fs M0 (utN a)).1]) (utN b)).2):=by
 rw[utN,utL,utL,utL,YX];simp only[show ¬((19:Int)=1\/(19:Int)=5) by decide,show ¬(19:Int)=2 by decide,show ¬(19:Int)=3 by decide,show ¬((19:Int)=6\/(8<=(19:Int)/\(19:Int)<=12)) by decide,show ¬((19:Int)=13\/(19:Int)=14) by decide,show ¬(19:Int)=15 by decide,show ¬((19:Int)=7\/(19:Int)=16\/(19:Int)=17) by decide,show ¬(19:Int)=18 by decide,if_false,if_true]
mutual
def QhZ(fs:List Qau):∀(e:Exp)(M0:List Int)(Qad:Nat),shN fs.length M0.length e=true->Qfp e<=Qad->(ofN fs M0 (utN e)).2=[]->QaC (QbH fs) M0.length Qad e=true
 |.mk k n s l,M0,Qad,h1,h2,h3=>by
  have hl:=QgC fs l;obtain⟨hf,hk,hlen,hs⟩:=QaS h1;rw[Qfi]at h2;have h3':=h3;rw[utN]at h3'
  have W6:k≠19->∀a∈l,(ofN fs M0 (utN a)).2=[]:=λN2 a ha=>
   Jcr h3' N2 hk (λO2=>by rw[JR];exact hlen O2) (utN a) (by rw[Jfv];exact List.mem_map.2 ⟨a,ha,rfl⟩)
  have har:l.length=Qbi (QbH fs) k n:=by
   by_cases O2:k=20
   ·subst O2;rw[Qjw h3];unfold Qbi;rw[if_neg (by decide),if_neg (by decide),if_neg (by decide),if_pos rfl];unfold QbH;rw[List.getD_eq_getElem?_getD,List.getD_eq_getElem?_getD,List.getElem?_map]
    cases fs[n.toNat]?<;>rfl
   ·rw[hlen O2,Jkm hk O2]
  unfold QaC;simp only[Bool.and_eq_true,decide_eq_true_eq,beq_iff_eq];refine⟨⟨⟨by omega,by rw[K6];exact hf⟩,har⟩,?_⟩
  by_cases N2:k=19
  ·subst N2;have h2l:l.length=2:=by rw[hlen (by decide)];rfl
   obtain⟨a,b,hab⟩:=KD h2l;have ha:=hl a (by rw[hab];simp);have hb:=hl b (by rw[hab];simp);rw[hab]at h3 hs h2;rw[Qgj]at h3;obtain⟨g1,g2⟩:=List.append_eq_nil_iff.1 h3;rw[Qbn,Qbn,if_neg (by simp),if_pos ⟨rfl,rfl⟩,Bool.and_eq_true,Bool.and_eq_true]at hs;rw[Qbu,Qbu]at h2;rw[hab];unfold QaD QaD QaD;rw[if_neg (by simp),if_pos ⟨rfl,rfl⟩,Bool.and_eq_true,Bool.and_eq_true];refine⟨ha M0 _ hs.1 (by omega) g1,?_,rfl⟩;have:=hb (M0++[(ofN fs M0 (utN a)).1]) (Qad-1) (by rw[length_append,List.length_singleton];exact hs.2.1) (by omega) g2;rw[length_append,List.length_singleton]at this;exact this
  ·exact QgX N2 λa ha=>hl a ha M0 _ (QfY N2 hs a ha) (by have:=Qfj ha;omega) (W6 N2 a ha)
def QgC(fs:List Qau):∀(l:List Exp),∀a∈l,∀(M0:List Int)(Qad:Nat),shN fs.length M0.length a=true->Qfp a<=Qad->(ofN fs M0 (utN a)).2=[]->QaC (QbH fs) M0.length Qad a=true
 |[],a,ha=>by cases ha
 |b::l,a,ha=>by
  rcases List.mem_cons.1 ha with h|h
  ·rw[h];exact QhZ fs b
  ·exact QgC fs l a h
end
mutual
def QiK(pa:List Nat):∀(e:Exp)(m Qad:Nat),QaC pa m Qad e=true->shN pa.length m e=true/\Qfp e<=Qad
 |.mk k n s l,m,Qad,h=>by
  have hl:=QgW pa l;obtain⟨hn,hf,ha,hL⟩:=J6 h
  have hk:0<=k/\k<21:=by
   unfold Qab at hf;simp only[Bool.and_eq_true,decide_eq_true_eq]at hf;exact⟨hf.1.2,hf.2⟩
  have hlen:k≠20->l.length=ar0 k:=λO2=>by rw[ha,Jkm hk O2]
  rw[Qia,Qfi,Bool.and_eq_true,Bool.and_eq_true,Bool.or_eq_true,beq_iff_eq,beq_iff_eq]
  have O2:k=20\/l.length=ar0 k:=by
   by_cases O2:k=20
   ·exact .inl O2
   ·exact .inr (hlen O2)
  by_cases N2:k=19
  ·subst N2;obtain⟨a,b,hab⟩:=KD (show l.length=2 by rw[hlen (by decide)];rfl);have hla:=hl a (by rw[hab];simp);have hlb:=hl b (by rw[hab];simp);rw[hab]at hL;obtain⟨g1,g2⟩:=KJ hL;rw[if_pos rfl]at g2;have ea:=hla _ _ g1;have eb:=hlb _ _ g2;rw[hab]at O2 |-;refine⟨⟨⟨hf,O2⟩,?_⟩,?_⟩
   ·rw[Qbn,Qbn,if_neg (by simp),if_pos ⟨rfl,rfl⟩,ea.1,eb.1,QfX];rfl
   ·rw[Qbu,Qbu];have h0:Qek []=0:=by unfold Qek;rfl
    omega
  ·have hm:=QfJ N2 hL;refine⟨⟨⟨hf,O2⟩,Qjz N2 λa ha=>(hl a ha _ _ (hm a ha)).1⟩,?_⟩;have:=Qgs (l:=l) (n:=Qad-1) λa ha=>(hl a ha _ _ (hm a ha)).2
   omega
def QgW(pa:List Nat):∀(l:List Exp),∀a∈l,∀(m Qad:Nat),QaC pa m Qad a=true->shN pa.length m a=true/\Qfp a<=Qad
 |[],a,ha=>by cases ha
 |b::l,a,ha=>by
  rcases List.mem_cons.1 ha with h|h
  ·rw[h];exact QiK pa b
  ·exact QgW pa l a h
end
def Qct(fs:List Qau)(M0:List Int)(e:Exp)(t:Int):Bool:=decide (Qfp e<=40)&&shN fs.length M0.length e&&decide ((ofN fs M0 (utN e)).2=[])&&decide ((ofN fs M0 (utN e)).1=t)
def Qgf{fs:List Qau}{M0:List Int}{e:Exp}{t:Int}:Qct fs M0 e t=(QaC (QbH fs) M0.length 40 e&&(QcW fs M0 t (utN e)==[])):=by
 rw[Bool.eq_iff_iff];unfold Qct QcW;simp only[Bool.and_eq_true,decide_eq_true_eq,beq_iff_eq,List.append_eq_nil_iff]
 constructor
 ·rintro⟨⟨⟨h1,h2⟩,h3⟩,h4⟩;exact⟨QhZ fs e M0 40 h2 h1 h3,h3,by rw[if_neg λh=>h h4]⟩
 ·rintro⟨h1,h2,h3⟩;obtain⟨g1,g2⟩:=QiK _ e _ _ h1;rw[K6]at g1;refine⟨⟨⟨g2,g1⟩,h2⟩,?_⟩
  by_cases h:(ofN fs M0 (utN e)).1=t
  ·exact h
  ·rw[if_pos h]at h3;cases h3
def Qfw(r:Qah):Bool:=QaZ [] r.funcs&&QdU r.action&&r.funcs.all (λf=>Qct r.sigs f.params f.body f.result)&&r.clauses.all λc=>QdU c.action&&QbM c.reason&&Qct r.sigs [] c.cond 1
def Qij(r:Qah):Qfw r=QbJ r:=by
 rw[Bool.eq_iff_iff];unfold Qfw QbJ QbI QbX QkE;simp only[Qgf,Bool.and_eq_true,List.all_eq_true,Zx]
 constructor
 ·rintro⟨⟨⟨h1,h2⟩,h3⟩,h4⟩;exact⟨⟨⟨⟨h1,λc hc=>(h4 c hc).1⟩,h2⟩,λf hf=>(h3 f hf).1,λc hc=>(h4 c hc).2.1⟩,λf hf=>(h3 f hf).2,λc hc=>(h4 c hc).2.2⟩
 ·rintro⟨⟨⟨⟨h1,h2⟩,h3⟩,h4,h5⟩,h6,h7⟩;exact⟨⟨⟨h1,h3⟩,λf hf=>⟨h4 f hf,h6 f hf⟩⟩,λc hc=>⟨h2 c hc,h5 c hc,h7 c hc⟩⟩
end Go.Proofs.YtncanmdgdflnpaaGreatDoor


