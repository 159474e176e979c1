import Derived.Deep.RegionHeld3
import Derived.Test.YtncanmdgdflnpaaGreatDoorL11
open Nat(add_zero le_refl one_mul zero_mul)
open List(drop_drop getElem?_eq_getElem length_append length_drop setIfInBounds_toArray set_cons_succ set_cons_zero)
namespace Go.Proofs.YtncanmdgdflnpaaGreatDoor
open Go Go.Lib
open Go.ChangeShapes Go.WideShapes Go.ChangeAt Go.RowKit Go.Lib
open Go.ChangeShapes Go.WideShapes Go.RowKit Go.Deep
open Go.Joins
open _root_.Go.Proofs.Tryz
set_option linter.all false
set_option maxRecDepth 100000
set_option maxHeartbeats 32000000
theorem zV{α:Type}{g:α->List Value}{t e sz by':Nat}(E:ElT t e sz by')(hg:∀a,(g a).length=sz)(h1:∀a,∀u∈g a,u.oneCell'=true){w:World}{ops:Array Oper}{rest:List Oper}{o:Oper}{a:Act}{Q:Exit->Act->World->Prop}(hgd:Region.wanted o (yielded ops a.tmps)=true)(s x:Operand)(ho:o.op=.call {callee:=.builtin .append,args:=#[s,x],argTypes:=#[t,t]})(base:Nat)(v:Value)(n:Nat)(xs:List Value)(hs:a.eval s=v)(hown:w.ownsRow base e sz v n xs)(A:Option Addr)(C m:Nat)(l:List α)(hm:l.length=m)(hA:l=[]\/QlY g w A l)(hx:a.eval x=.slice A m C)(h63:n+m<=1000000000)(hbase:base<=w.heap.size)(h:∀v' w',w'.ownsRow base e sz v' (n+m) (xs++l.flatMap g)->Below base w w'->wpList prog ops Q rest (a.put o.dst v') w'):wpList prog ops Q (o::rest) a w:=by
 refine wpList_step λK hK=>?_
 rw[if_pos hgd]
 exact Jr E hg h1 s x ho base v n xs hs hown A C m l hm hA hx h63 hbase λv' w' h1 h2 _=>hK _ _ (h v' w' h1 h2)
def QcO(K:Qar)(c d n:Nat):Prop:=∀(e:Exp)(cs:Array Value)(vars types:List Int)(vv:Value)(Qad:Nat)(t:Int)(W:World)(u:Nat),siz (utN e)<=n->Qdp K c e cs vars types vv Qad t W u->
 Calls prog 45 #[Pt K.p,.agg cs,vv] W (EvG K W c (evK K d vars u e))
def EvG.back{K:Qar}{W W':World}{c:Nat}{x:RN Int}{e:Ending}{w':World}(hc:Chg [K.p] W W')(h:EvG K W' c x e w'):EvG K W c x e w':=by
 cases x with
 |val v u=>exact⟨h.1,h.2.1,hc.trans h.2.2⟩
 |fault er u=>exact⟨h.1,h.2.1,h.2.2.1,hc.trans h.2.2.2⟩
def Qdp.kid{K:Qar}{c:Nat}{k nn:Int}{s:By}{l:List Exp}{cs:Array Value}{vars types:List Int}{vv:Value}{Qad:Nat}{t:Int}{W:World}{u:Nat}(h:Qdp K c (.mk k nn s l) cs vars types vv Qad t W u)(h19:k≠19){i:Nat}{y:Exp}(hi:l[i]?=some y)
  {d:Array Value} (hx:XAt K.w0 (In K.w0) y d) {W':World} {u':Nat} (hm:QbG K W' u' c 0) (hc:Chg [K.p] W W') (hu:u'<=10000):Qdp K c y d vars types vv (Qad-1) (ofN K.r.sigs types (utN y)).1 W' u':=by
 have hmem:=List.mem_of_getElem? hi;have yA:=h.nm;unfold NmN at yA;have hsz:=h.sz;rw[utN,JA]at hsz;have hs:=KE hmem;obtain⟨_,_,_,hl⟩:=J6 h.fit;obtain⟨hk,xA⟩:=Jih h.fit;have zA:=h.ty;rw[utN]at zA;have uA:=Jcr (fs:=K.r.sigs) (vars:=types) (by rw[zA]) h19 hk (λh20=>by rw[JR];exact xA h20) (utN y) (by rw[Jfv];exact List.mem_map.2 ⟨y,hmem,rfl⟩);exact⟨JfA yA.2 y hmem,by omega,hx,Jbo h19 hl y hmem,Prod.ext rfl uA,h.vs,hu,hm,h.ints.chg hc⟩
def Qdp.let1{K:Qar}{c:Nat}{nn:Int}{s:By}{a b:Exp}{cs:Array Value}{vars types:List Int}{vv:Value}{Qad:Nat}{t:Int}{W:World}{u:Nat}(h:Qdp K c (.mk 19 nn s [a,b]) cs vars types vv Qad t W u)
  {d:Array Value} (hx:XAt K.w0 (In K.w0) a d) {W':World} {u':Nat} (hm:QbG K W' u' c 0) (hc:Chg [K.p] W W') (hu:u'<=10000):Qdp K c a d vars types vv (Qad-1) (ofN K.r.sigs types (utN a)).1 W' u':=by
 have yA:=h.nm;unfold NmN NmL at yA;have hsz:=h.sz;rw[utN,JA,utL,Ju]at hsz;obtain⟨_,_,_,hl⟩:=J6 h.fit;have zA:=KJ hl;have xA:=h.ty;rw[utN,utL,utL,utL,YX]at xA;simp at xA;exact⟨yA.2.1,by omega,hx,zA.1,Prod.ext rfl xA.2.1,h.vs,hu,hm,h.ints.chg hc⟩
def Qdp.let2{K:Qar}{c:Nat}{nn:Int}{s:By}{a b:Exp}{cs:Array Value}{vars types:List Int}{vv:Value}{Qad:Nat}{t:Int}{W:World}{u:Nat}(h:Qdp K c (.mk 19 nn s [a,b]) cs vars types vv Qad t W u)
  {d:Array Value} (hx:XAt K.w0 (In K.w0) b d) {W':World} {u':Nat} {v:Int} {vv':Value} (hm:QbG K W' u' c 0) (hv:VOk (ofN K.r.sigs types (utN a)).1 v) (hi:QaP W' K.p vv' (vars++[v])) (hu:u'<=10000):
  Qdp K c b d (vars++[v]) (types++[(ofN K.r.sigs types (utN a)).1]) vv' (Qad-1) t W' u':=by
 have yA:=h.nm;unfold NmN NmL NmL at yA;have hsz:=h.sz;rw[utN,JA,utL,utL,Ju,Ju]at hsz;obtain⟨_,_,_,hl⟩:=J6 h.fit;have zA:=KJ hl;have xA:=h.ty;rw[utN,utL,utL,utL,YX]at xA;simp at xA;have hp:=KN (utN a);refine⟨yA.2.2.1,by rw[List.length_append,List.length_singleton];omega,hx,?_,?_,Qel.snoc h.vs hv,hu,hm,hi⟩
 ·rw[List.length_append,List.length_singleton];simpa using zA.2
 ·exact Prod.ext xA.1 xA.2.2
def QkC(K:Qar)(d:Nat)(vars:List Int)(u:Nat)(nn:Int)(s:By)(a:Exp):evK K d vars u (.mk 6 nn s [a])=(evK K d vars u a).bind λv u'=>.val (Qbw (0-v)) u':=by
 rw[JhN _ _ _ _ _ _ _ _ zd,Jbp]
 cases evK K d vars u a with
 |fault er u6=>rfl
 |val v u6=>simp only[RN.bind_val];rw[JhL];rfl
def QkB(K:Qar)(d:Nat)(vars:List Int)(u:Nat)(nn:Int)(s:By)(a:Exp):evK K d vars u (.mk 7 nn s [a])=(evK K d vars u a).bind λv u'=>.val (1-v) u':=by
 rw[JhN _ _ _ _ _ _ _ _ zd,Jbp]
 cases evK K d vars u a with
 |fault er u6=>rfl
 |val v u6=>simp only[RN.bind_val];rw[JhL];rfl
def QkA(K:Qar)(d:Nat)(vars:List Int)(u:Nat)(k nn:Int)(s:By)(a b:Exp)(hk:8<=k/\k<=15):evK K d vars u (.mk k nn s [a,b])=(evK K d vars u a).bind λv u'=>(evK K d vars u' b).bind λv2 u2=>Qap k v v2 u2:=by
 rw[JhN _ _ _ _ _ _ _ _ ⟨by omega,hk.2⟩,Jbp]
 cases evK K d vars u a with
 |fault er u6=>rfl
 |val v u6=>
  simp only[RN.bind_val];rw[Jbp]
  cases evK K d vars u6 b with
  |fault er u9=>rfl
  |val v2 u9=>simp only[RN.bind_val];rw[JhL];rfl
def QjJ{fs:List Qau}{types:List Int}{k nn:Int}{s:By}{a b:Exp}{t:Int}(hk:k=16\/k=17)(h:ofN fs types (utN (.mk k nn s [a,b]))=(t,[])):(ofN fs types (utN a)).1=1:=by
 rw[utN,utL,utL,utL,YX]at h
 have hn:QaU fs types 1 [utN a,utN b]=[]:=by
  rcases hk with rfl|rfl
  ·simpa using congrArg Prod.snd h
  ·simpa using congrArg Prod.snd h
 unfold QaU at hn;rw[Vp (List.append_eq_nil_iff.1 hn).1]
def QmY{fs:List Qau}{types:List Int}{nn:Int}{s:By}{z a b:Exp}{t:Int}(h:ofN fs types (utN (.mk 18 nn s [z,a,b]))=(t,[])):(ofN fs types (utN z)).1=1:=by
 rw[utN,utL,utL,utL,utL,YX]at h;simp at h;exact h.2.2.1
def QeC(a):(gI a).length=1:=rfl
def QeB(a):∀u∈gI a,u.oneCell'=true:=by intro u hu;simp[gI]at hu;subst hu;rfl
def elI:ElT 55 3 1 8:=⟨by kernel_rfl,by kernel_rfl,by kernel_rfl,⟨Iv 0,by kernel_rfl,rfl⟩,by decide,by decide⟩
def QfI:∀(l:List Int)(j:Nat),(l.flatMap gI)[j]?=(l[j]?).map λn=>Value.int .i64 n
 |[],j=>by simp
 |a::l,0=>rfl
 |a::l,j+1=>by
  have:=QfI l j;simpa[gI] using this
def Qki{W:World}{rb n cc:Nat}{ad:Option Addr}{l:List Int}(h:QaP W rb (.slice ad n cc) l):l=[]\/QlY gI W ad l:=by
 rcases h with⟨h,_⟩|⟨g,o,cc',e,_,_,_,hc⟩
 ·exact .inl h
 ·injection e with e1 _ _;refine .inr (.inr ⟨_,e1,λj u hu=>?_⟩);rw[QfI]at hu;rw[QlV]
  cases hj:l[j]? with
  |none=>rw[hj]at hu;cases hu
  |some n=>
   rw[hj]at hu;obtain rfl:=Option.some.inj hu;exact hc j n hj
def QgQ{w:World}{base rb n:Nat}{v:Value}{l:List Int}(hl:l.length=n)(h:w.ownsRow base 3 1 v n (l.flatMap gI))(hb:rb<base):QaP w rb v l:=by
 subst hl;obtain⟨A,C,rfl⟩:=JB h
 rcases VR h with⟨h1,h2,h3⟩|⟨b,rfl,h2,h3,h4⟩
 ·refine .inl ⟨List.eq_nil_of_length_eq_zero h3,A,C,by rw[h3]⟩
 ·refine .inr ⟨b,0,C,rfl,h2,by omega,(Za h (g:=b) rfl).1,λi n hi=>?_⟩;rw[Nat.zero_add];exact h4 i _ (by rw[QfI,hi];rfl)
def Qkx(K:Qar)(hk:K.Ok)(c d n:Nat)(IH:QcO K c d n)(nn:Int)(s:By)(l:List Exp)(cs:Array Value)(vars types:List Int)(vv:Value)(Qad:Nat)(t:Int)(W:World)(u:Nat)(hn:Qaz (utL l)<=n)(h:Qdp K c (.mk 0 nn s l) cs vars types vv Qad t W u):
  Calls prog 45 #[Pt K.p,.agg cs,vv] W (EvG K W c (evK K d vars u (.mk 0 nn s l))):=by
 obtain⟨ad,cc,rfl,xA,hK⟩:=h.x.kids;obtain⟨va,vc,rfl⟩:=h.ints.form';obtain⟨X,hX⟩:∃X,evK K d vars u (.mk 0 nn s l)=X:=⟨_,rfl⟩
 rw[hX];have hE:evK K d vars u (.mk 0 nn s l)=.val nn u:=by unfold evK;rw[Ku];simp
 rw[hE]at hX;have HX:=Zh hX;have hb1:Below W.heap.size W (W.alloc (.cells #[Iv 0,Iv nn,Sv s,.slice ad l.length cc] 50)):=zzb.alloc zzl _;have HM1:=Zh (h.at'.up hb1);have HC1:Hi (Chg [K.p] W (W.alloc (.cells #[Iv 0,Iv nn,Sv s,.slice ad l.length cc] 50))):=Chg.of_below hb1 [K.p];have HCP:=Zh (zzw W (.cells #[Iv 0,Iv nn,Sv s,.slice ad l.length cc] 50));have HNE:Hi (W.heap.size≠K.p):=by have:=h.at'.lt;unfold Hi;omega
 have HH:=Zh h;have yA:=Zh hK;have zA:=Zh IH;have HN:=Zh hn;clear hb1 h hK hX IH hn;go_enter func45,ntmps45;go_upto_region 1 with fail;generalize World.alloc W _=w1 at*;generalize W.heap.size=eb at*
 have FF:Hi (∀W',Chg [K.p] w1 W'->W'.cell? ⟨eb,0,none⟩=some (Iv 0)/\W'.cell? ⟨eb,1,none⟩=some (Iv nn)/\W'.cell? ⟨eb,2,none⟩=some (Sv s)/\W'.cell? ⟨eb,3,none⟩=some (.slice ad l.length cc)):=by
  intro W' hW;have hh:=hW.heap_some (by simp;exact HNE.o) HCP.o;refine⟨?_,?_,?_,?_⟩<;>(rw[Ja hh];rfl)
 have HKX:Hi (∀W',Chg [K.p] w1 W'->Bel K.w0 W'):=λW' hW=>QdL HM1.o.bel hk.num hW
 obtain⟨b0,b1,b2,b3⟩:=FF.o _ (Chg.refl _ _);go_wp2;go_ret;rw[<-HX.o];exact⟨rfl,HM1.o,HC1.o⟩
def Qjt(K:Qar)(hk:K.Ok)(c d n:Nat)(IH:QcO K c d n)(nn:Int)(s:By)(l:List Exp)(cs:Array Value)(vars types:List Int)(vv:Value)(Qad:Nat)(t:Int)(W:World)(u:Nat)(hn:Qaz (utL l)<=n)(h:Qdp K c (.mk 1 nn s l) cs vars types vv Qad t W u):
  Calls prog 45 #[Pt K.p,.agg cs,vv] W (EvG K W c (evK K d vars u (.mk 1 nn s l))):=by
 obtain⟨ad,cc,rfl,xA,hK⟩:=h.x.kids;obtain⟨va,vc,rfl⟩:=h.ints.form';obtain⟨X,hX⟩:∃X,evK K d vars u (.mk 1 nn s l)=X:=⟨_,rfl⟩
 rw[hX];have hE:evK K d vars u (.mk 1 nn s l)=.val nn u:=by unfold evK;rw[Ku];simp
 rw[hE]at hX;have HX:=Zh hX;have hb1:Below W.heap.size W (W.alloc (.cells #[Iv 1,Iv nn,Sv s,.slice ad l.length cc] 50)):=zzb.alloc zzl _;have HM1:=Zh (h.at'.up hb1);have HC1:Hi (Chg [K.p] W (W.alloc (.cells #[Iv 1,Iv nn,Sv s,.slice ad l.length cc] 50))):=Chg.of_below hb1 [K.p];have HCP:=Zh (zzw W (.cells #[Iv 1,Iv nn,Sv s,.slice ad l.length cc] 50));have HNE:Hi (W.heap.size≠K.p):=by have:=h.at'.lt;unfold Hi;omega
 have HH:=Zh h;have yA:=Zh hK;have zA:=Zh IH;have HN:=Zh hn;clear hb1 h hK hX IH hn;go_enter func45,ntmps45;go_upto_region 1 with fail;generalize World.alloc W _=w1 at*;generalize W.heap.size=eb at*
 have FF:Hi (∀W',Chg [K.p] w1 W'->W'.cell? ⟨eb,0,none⟩=some (Iv 1)/\W'.cell? ⟨eb,1,none⟩=some (Iv nn)/\W'.cell? ⟨eb,2,none⟩=some (Sv s)/\W'.cell? ⟨eb,3,none⟩=some (.slice ad l.length cc)):=by
  intro W' hW;have hh:=hW.heap_some (by simp;exact HNE.o) HCP.o;refine⟨?_,?_,?_,?_⟩<;>(rw[Ja hh];rfl)
 have HKX:Hi (∀W',Chg [K.p] w1 W'->Bel K.w0 W'):=λW' hW=>QdL HM1.o.bel hk.num hW
 obtain⟨b0,b1,b2,b3⟩:=FF.o _ (Chg.refl _ _);go_wp2;go_ret;rw[<-HX.o];exact⟨rfl,HM1.o,HC1.o⟩
def Qkt(K:Qar)(hk:K.Ok)(c d n:Nat)(IH:QcO K c d n)(nn:Int)(s:By)(l:List Exp)(cs:Array Value)(vars types:List Int)(vv:Value)(Qad:Nat)(t:Int)(W:World)(u:Nat)(hn:Qaz (utL l)<=n)(h:Qdp K c (.mk 2 nn s l) cs vars types vv Qad t W u):
  Calls prog 45 #[Pt K.p,.agg cs,vv] W (EvG K W c (evK K d vars u (.mk 2 nn s l))):=by
 obtain⟨ad,cc,rfl,uA,hK⟩:=h.x.kids;obtain⟨va,vc,rfl⟩:=h.ints.form';obtain⟨X,hX⟩:∃X,evK K d vars u (.mk 2 nn s l)=X:=⟨_,rfl⟩
 rw[hX];have hE:evK K d vars u (.mk 2 nn s l)=.val (vars.getD nn.toNat 0) u:=by unfold evK;rw[Ku];simp
 rw[hE]at hX;have HX:=Zh hX;have hb1:Below W.heap.size W (W.alloc (.cells #[Iv 2,Iv nn,Sv s,.slice ad l.length cc] 50)):=zzb.alloc zzl _;have HM1:=Zh (h.at'.up hb1);have HC1:Hi (Chg [K.p] W (W.alloc (.cells #[Iv 2,Iv nn,Sv s,.slice ad l.length cc] 50))):=Chg.of_below hb1 [K.p];have HCP:=Zh (zzw W (.cells #[Iv 2,Iv nn,Sv s,.slice ad l.length cc] 50));have HNE:Hi (W.heap.size≠K.p):=by have:=h.at'.lt;unfold Hi;omega
 have HH:=Zh h;have vA:=Zh hK;have aA:=Zh IH;have HN:=Zh hn;clear hb1 h hK hX IH hn;go_enter func45,ntmps45;go_upto_region 1 with fail;generalize World.alloc W _=w1 at*;generalize W.heap.size=eb at*
 have FF:Hi (∀W',Chg [K.p] w1 W'->W'.cell? ⟨eb,0,none⟩=some (Iv 2)/\W'.cell? ⟨eb,1,none⟩=some (Iv nn)/\W'.cell? ⟨eb,2,none⟩=some (Sv s)/\W'.cell? ⟨eb,3,none⟩=some (.slice ad l.length cc)):=by
  intro W' hW;have hh:=hW.heap_some (by simp;exact HNE.o) HCP.o;refine⟨?_,?_,?_,?_⟩<;>(rw[Ja hh];rfl)
 have HKX:Hi (∀W',Chg [K.p] w1 W'->Bel K.w0 W'):=λW' hW=>QdL HM1.o.bel hk.num hW
 obtain⟨b0,b1,b2,b3⟩:=FF.o _ (Chg.refl _ _)
 have yA:0<=nn/\nn<(vars.length:Int):=by
  obtain⟨_,hf,_,_⟩:=J6 HH.o.fit;unfold Qab at hf;simp at hf;have:=HH.o.vs.1;exact⟨hf.1.1,by omega⟩
 obtain⟨i,rfl⟩:∃i:Nat,nn=i:=⟨nn.toNat,by omega⟩
 have hil:(i:Int)<(vars.length:Int):=yA.2;have hi:i<vars.length:=zo
 obtain⟨v,hv⟩:∃v,vars[i]?=some v:=⟨vars[i],List.getElem?_eq_getElem hi⟩
 have xA:=HX.o;rw[Int.toNat_natCast,List.getD_eq_getElem?_getD,hv,Option.getD_some]at xA;have HX2:=Zh xA
 obtain⟨g,og,zA,bA⟩:∃g og,va=some ⟨g,og,none⟩/\w1.cell? ⟨g,og+i,none⟩=some (Iv v):=by
  rcases HH.o.ints.chg HC1.o with⟨e1,e2⟩|⟨g,og,cc',e,_,_,_,hc⟩
  ·rw[e1]at hi;simp at hi
  ·injection e with e1 e2 e3;exact⟨g,og,e1,hc i v hv⟩
 clear xA hv yA;subst zA;go_wp2;go_ret;rw[<-HX2.o];exact⟨rfl,HM1.o,HC1.o⟩
def Qjr(K:Qar)(hk:K.Ok)(c d n:Nat)(IH:QcO K c d n)(nn:Int)(s:By)(l:List Exp)(cs:Array Value)(vars types:List Int)(vv:Value)(Qad:Nat)(t:Int)(W:World)(u:Nat)(hn:Qaz (utL l)<=n)(h:Qdp K c (.mk 3 nn s l) cs vars types vv Qad t W u):
  Calls prog 45 #[Pt K.p,.agg cs,vv] W (EvG K W c (evK K d vars u (.mk 3 nn s l))):=by
 obtain⟨ad,cc,rfl,xA,hK⟩:=h.x.kids;obtain⟨va,vc,rfl⟩:=h.ints.form';obtain⟨X,hX⟩:∃X,evK K d vars u (.mk 3 nn s l)=X:=⟨_,rfl⟩
 rw[hX];have hE:evK K d vars u (.mk 3 nn s l)=.val (QdT K.F s) u:=by unfold evK;rw[Ku];simp
 rw[hE]at hX;have HX:=Zh hX;have hb1:Below W.heap.size W (W.alloc (.cells #[Iv 3,Iv nn,Sv s,.slice ad l.length cc] 50)):=zzb.alloc zzl _;have HM1:=Zh (h.at'.up hb1);have HC1:Hi (Chg [K.p] W (W.alloc (.cells #[Iv 3,Iv nn,Sv s,.slice ad l.length cc] 50))):=Chg.of_below hb1 [K.p];have HCP:=Zh (zzw W (.cells #[Iv 3,Iv nn,Sv s,.slice ad l.length cc] 50));have HNE:Hi (W.heap.size≠K.p):=by have:=h.at'.lt;unfold Hi;omega
 have HH:=Zh h;have yA:=Zh hK;have zA:=Zh IH;have HN:=Zh hn;clear hb1 h hK hX IH hn;go_enter func45,ntmps45;go_upto_region 1 with fail;generalize World.alloc W _=w1 at*;generalize W.heap.size=eb at*
 have FF:Hi (∀W',Chg [K.p] w1 W'->W'.cell? ⟨eb,0,none⟩=some (Iv 3)/\W'.cell? ⟨eb,1,none⟩=some (Iv nn)/\W'.cell? ⟨eb,2,none⟩=some (Sv s)/\W'.cell? ⟨eb,3,none⟩=some (.slice ad l.length cc)):=by
  intro W' hW;have hh:=hW.heap_some (by simp;exact HNE.o) HCP.o;refine⟨?_,?_,?_,?_⟩<;>(rw[Ja hh];rfl)
 have HKX:Hi (∀W',Chg [K.p] w1 W'->Bel K.w0 W'):=λW' hW=>QdL HM1.o.bel hk.num hW
 obtain⟨b0,b1,b2,b3⟩:=FF.o _ (Chg.refl _ _);have cf:=QiF K hk w1 u c HM1.o s;go_wp2_with fail;refine cf.mono ?_;rintro e w2 ⟨rfl,rfl⟩;clear cf b0 b1 b2 b3;go_wp2;go_ret;rw[<-HX.o];exact⟨rfl,HM1.o,HC1.o⟩
def QiH(K:Qar)(hk:K.Ok)(c d n:Nat)(IH:QcO K c d n)(nn:Int)(s:By)(l:List Exp)(cs:Array Value)(vars types:List Int)(vv:Value)(Qad:Nat)(t:Int)(W:World)(u:Nat)(hn:Qaz (utL l)<=n)(h:Qdp K c (.mk 4 nn s l) cs vars types vv Qad t W u):
  Calls prog 45 #[Pt K.p,.agg cs,vv] W (EvG K W c (evK K d vars u (.mk 4 nn s l))):=by
 obtain⟨ad,cc,rfl,xA,hK⟩:=h.x.kids;obtain⟨va,vc,rfl⟩:=h.ints.form';obtain⟨X,hX⟩:∃X,evK K d vars u (.mk 4 nn s l)=X:=⟨_,rfl⟩
 rw[hX];have hE:evK K d vars u (.mk 4 nn s l)=.val (QcK K.F.labels s) u:=by unfold evK;rw[Ku];simp
 rw[hE]at hX;have HX:=Zh hX;have hb1:Below W.heap.size W (W.alloc (.cells #[Iv 4,Iv nn,Sv s,.slice ad l.length cc] 50)):=zzb.alloc zzl _;have HM1:=Zh (h.at'.up hb1);have HC1:Hi (Chg [K.p] W (W.alloc (.cells #[Iv 4,Iv nn,Sv s,.slice ad l.length cc] 50))):=Chg.of_below hb1 [K.p];have HCP:=Zh (zzw W (.cells #[Iv 4,Iv nn,Sv s,.slice ad l.length cc] 50));have HNE:Hi (W.heap.size≠K.p):=by have:=h.at'.lt;unfold Hi;omega
 have HH:=Zh h;have yA:=Zh hK;have zA:=Zh IH;have HN:=Zh hn;clear hb1 h hK hX IH hn;go_enter func45,ntmps45;go_upto_region 1 with fail;generalize World.alloc W _=w1 at*;generalize W.heap.size=eb at*
 have FF:Hi (∀W',Chg [K.p] w1 W'->W'.cell? ⟨eb,0,none⟩=some (Iv 4)/\W'.cell? ⟨eb,1,none⟩=some (Iv nn)/\W'.cell? ⟨eb,2,none⟩=some (Sv s)/\W'.cell? ⟨eb,3,none⟩=some (.slice ad l.length cc)):=by
  intro W' hW;have hh:=hW.heap_some (by simp;exact HNE.o) HCP.o;refine⟨?_,?_,?_,?_⟩<;>(rw[Ja hh];rfl)
 have HKX:Hi (∀W',Chg [K.p] w1 W'->Bel K.w0 W'):=λW' hW=>QdL HM1.o.bel hk.num hW
 obtain⟨b0,b1,b2,b3⟩:=FF.o _ (Chg.refl _ _);have cf:=QhH K hk w1 u c HM1.o s;go_wp2_with fail;refine cf.mono ?_;rintro e w2 ⟨rfl,rfl⟩;clear cf b0 b1 b2 b3;go_wp2;go_ret;rw[<-HX.o];exact⟨rfl,HM1.o,HC1.o⟩
def Qjq(K:Qar)(hk:K.Ok)(c d n:Nat)(IH:QcO K c d n)(nn:Int)(s:By)(l:List Exp)(cs:Array Value)(vars types:List Int)(vv:Value)(Qad:Nat)(t:Int)(W:World)(u:Nat)(hn:Qaz (utL l)<=n)(h:Qdp K c (.mk 5 nn s l) cs vars types vv Qad t W u):
  Calls prog 45 #[Pt K.p,.agg cs,vv] W (EvG K W c (evK K d vars u (.mk 5 nn s l))):=by
 obtain⟨ad,cc,rfl,xA,hK⟩:=h.x.kids;obtain⟨va,vc,rfl⟩:=h.ints.form';obtain⟨X,hX⟩:∃X,evK K d vars u (.mk 5 nn s l)=X:=⟨_,rfl⟩
 rw[hX];have hE:evK K d vars u (.mk 5 nn s l)=.val (Qeb K.F.words s) u:=by unfold evK;rw[Ku];simp
 rw[hE]at hX;unfold Qeb at hX;have HX:=Zh hX;have hb1:Below W.heap.size W (W.alloc (.cells #[Iv 5,Iv nn,Sv s,.slice ad l.length cc] 50)):=zzb.alloc zzl _;have HM1:=Zh (h.at'.up hb1);have HC1:Hi (Chg [K.p] W (W.alloc (.cells #[Iv 5,Iv nn,Sv s,.slice ad l.length cc] 50))):=Chg.of_below hb1 [K.p];have HCP:=Zh (zzw W (.cells #[Iv 5,Iv nn,Sv s,.slice ad l.length cc] 50));have HNE:Hi (W.heap.size≠K.p):=by have:=h.at'.lt;unfold Hi;omega
 have HH:=Zh h;have yA:=Zh hK;have zA:=Zh IH;have HN:=Zh hn;clear hb1 h hK hX IH hn;go_enter func45,ntmps45;go_upto_region 1 with fail;generalize World.alloc W _=w1 at*;generalize W.heap.size=eb at*
 have FF:Hi (∀W',Chg [K.p] w1 W'->W'.cell? ⟨eb,0,none⟩=some (Iv 5)/\W'.cell? ⟨eb,1,none⟩=some (Iv nn)/\W'.cell? ⟨eb,2,none⟩=some (Sv s)/\W'.cell? ⟨eb,3,none⟩=some (.slice ad l.length cc)):=by
  intro W' hW;have hh:=hW.heap_some (by simp;exact HNE.o) HCP.o;refine⟨?_,?_,?_,?_⟩<;>(rw[Ja hh];rfl)
 have HKX:Hi (∀W',Chg [K.p] w1 W'->Bel K.w0 W'):=λW' hW=>QdL HM1.o.bel hk.num hW
 obtain⟨b0,b1,b2,b3⟩:=FF.o _ (Chg.refl _ _);have cf:=QiA K hk w1 u c HM1.o s;generalize decide (s∈K.F.words)=q at cf HX;go_wp2_with fail;refine cf.mono ?_;rintro e w2 ⟨rfl,rfl⟩;clear cf b0 b1 b2 b3;go_wp2_with fail;refine(Qcc q _).mono ?_;rintro e w2 ⟨rfl,rfl⟩;go_wp2;go_ret;rw[<-HX.o];exact⟨rfl,HM1.o,HC1.o⟩
def Qkv(K:Qar)(hk:K.Ok)(c d n:Nat)(IH:QcO K c d n)(nn:Int)(s:By)(a:Exp)(cs:Array Value)(vars types:List Int)(vv:Value)(Qad:Nat)(t:Int)(W:World)(u:Nat)(hn:Qaz (utL [a])<=n)(h:Qdp K c (.mk 6 nn s [a]) cs vars types vv Qad t W u):
  Calls prog 45 #[Pt K.p,.agg cs,vv] W (EvG K W c (evK K d vars u (.mk 6 nn s [a]))):=by
 obtain⟨ad,cc,rfl,zB,hK⟩:=h.x.kids;obtain⟨va,vc,rfl⟩:=h.ints.form';obtain⟨X,hX⟩:∃X,evK K d vars u (.mk 6 nn s [a])=X:=⟨_,rfl⟩
 rw[hX];rw[QkC]at hX;have hA:=hX.symm;have hX:=hA;have HX:=Zh hX;have hb1:Below W.heap.size W (W.alloc (.cells #[Iv 6,Iv nn,Sv s,.slice ad [a].length cc] 50)):=zzb.alloc zzl _;have HM1:=Zh (h.at'.up hb1);have HC1:Hi (Chg [K.p] W (W.alloc (.cells #[Iv 6,Iv nn,Sv s,.slice ad [a].length cc] 50))):=Chg.of_below hb1 [K.p];have HCP:=Zh (zzw W (.cells #[Iv 6,Iv nn,Sv s,.slice ad [a].length cc] 50));have HNE:Hi (W.heap.size≠K.p):=by have:=h.at'.lt;unfold Hi;omega
 have HH:=Zh h;have mA:=Zh hK;have nA:=Zh IH;have HN:=Zh hn;go_enter func45,ntmps45;go_upto_region 1 with fail;generalize World.alloc W _=w1 at*;generalize W.heap.size=eb at*
 have FF:Hi (∀W',Chg [K.p] w1 W'->W'.cell? ⟨eb,0,none⟩=some (Iv 6)/\W'.cell? ⟨eb,1,none⟩=some (Iv nn)/\W'.cell? ⟨eb,2,none⟩=some (Sv s)/\W'.cell? ⟨eb,3,none⟩=some (.slice ad [a].length cc)):=by
  intro W' hW;have hh:=hW.heap_some (by simp;exact HNE.o) HCP.o;refine⟨?_,?_,?_,?_⟩<;>(rw[Ja hh];rfl)
 have HKX:Hi (∀W',Chg [K.p] w1 W'->Bel K.w0 W'):=λW' hW=>QdL HM1.o.bel hk.num hW
 obtain⟨b0,b1,b2,b3⟩:=FF.o _ (Chg.refl _ _);obtain⟨kb,o,xB,hbl,bA⟩:=mA.o.at0 zp;obtain⟨da,ca,rA,hfa⟩:=bA 0 a rfl;have kA:=Zh rA;have iA:=Zh hfa;subst xB;have uA:=HH.o.kid zd (i:=0) (y:=a) rfl kA.o HM1.o (HC1.o.trans (Chg.refl _ _)) HH.o.us;have dA:=Zh (uA.ok hk d);have ci:=nA.o a _ vars types _ _ _ w1 u (zu HN.o (KE (l:=[a]) (y:=a) zp)) uA;obtain⟨k0,k1,k2,k3⟩:=iA.o _ (HKX.o _ ((Chg.refl _ _)));simp only[zero_mul,add_zero,one_mul,Nat.reduceMul]at k0 k1 k2 k3;go_wp2_with fail;refine ci.mono ?_
 cases hy:evK K d vars u a with
 |fault er u6=>
  rintro e w6 ⟨yA,⟨vx,rfl⟩,zA,vA⟩;have eA:w6.cell? ⟨K.p,17,none⟩=some (Iv er):=Ja zA.self 17;have sA:(er==0)=false:=zzq yA;have qA:(er !=0)=true:=by rw[bne,sA];rfl
  have xA:Hi (EvG K W c X (.returned (Iv 0)) w6):=by
   rw[Hi,HX.o,hy,RN.bind_fault];exact⟨yA,⟨_,rfl⟩,zA,HC1.o.trans vA⟩
  go_wp2;go_ret;exact xA.o
 |val v u6=>
  rintro e w6 ⟨rfl,hm6,hc6⟩;have eA:w6.cell? ⟨K.p,17,none⟩=some (Iv 0):=Ja hm6.self 17;have gA:=dA.o;rw[hy]at gA;obtain⟨jA,aA,cA⟩:=gA;have HY:=Zh hy;have pA:=Zh hm6;have HC6:=Zh hc6;have yB:=Zh aA;have tA:=Zh cA;obtain⟨b0,b1,b2,b3⟩:=FF.o _ HC6.o;have cn:=QgG 0 v w6 (by unfold Qat;omega) tA.o.wf
  have xA:Hi (EvG K W c X (.returned (Iv (Qbw (0-v)))) w6):=by
   rw[Hi,HX.o,HY.o,RN.bind_val];exact⟨rfl,pA.o,HC1.o.trans HC6.o⟩
  rw[Int.zero_sub]at cn xA;go_wp2_with fail;refine cn.mono ?_;rintro e w7 ⟨rfl,rfl⟩;go_wp2;go_ret;exact xA.o
def Qku(K:Qar)(hk:K.Ok)(c d n:Nat)(IH:QcO K c d n)(nn:Int)(s:By)(a:Exp)(cs:Array Value)(vars types:List Int)(vv:Value)(Qad:Nat)(t:Int)(W:World)(u:Nat)(hn:Qaz (utL [a])<=n)(h:Qdp K c (.mk 7 nn s [a]) cs vars types vv Qad t W u):
  Calls prog 45 #[Pt K.p,.agg cs,vv] W (EvG K W c (evK K d vars u (.mk 7 nn s [a]))):=by
 obtain⟨ad,cc,rfl,uB,hK⟩:=h.x.kids;obtain⟨va,vc,rfl⟩:=h.ints.form';obtain⟨X,hX⟩:∃X,evK K d vars u (.mk 7 nn s [a])=X:=⟨_,rfl⟩
 rw[hX];rw[QkB]at hX;have hA:=hX.symm;clear hX;have hX:=hA;clear hA;have HX:=Zh hX;have hb1:Below W.heap.size W (W.alloc (.cells #[Iv 7,Iv nn,Sv s,.slice ad [a].length cc] 50)):=zzb.alloc zzl _;have HM1:=Zh (h.at'.up hb1);have HC1:Hi (Chg [K.p] W (W.alloc (.cells #[Iv 7,Iv nn,Sv s,.slice ad [a].length cc] 50))):=Chg.of_below hb1 [K.p];have HCP:=Zh (zzw W (.cells #[Iv 7,Iv nn,Sv s,.slice ad [a].length cc] 50));have HNE:Hi (W.heap.size≠K.p):=by have:=h.at'.lt;unfold Hi;omega
 have HH:=Zh h;have nA:=Zh hK;have pA:=Zh IH;have HN:=Zh hn;clear hb1 h hK hX IH hn;go_enter func45,ntmps45;go_upto_region 1 with fail;generalize World.alloc W _=w1 at*;generalize W.heap.size=eb at*
 have FF:Hi (∀W',Chg [K.p] w1 W'->W'.cell? ⟨eb,0,none⟩=some (Iv 7)/\W'.cell? ⟨eb,1,none⟩=some (Iv nn)/\W'.cell? ⟨eb,2,none⟩=some (Sv s)/\W'.cell? ⟨eb,3,none⟩=some (.slice ad [a].length cc)):=by
  intro W' hW;have hh:=hW.heap_some (by simp;exact HNE.o) HCP.o;refine⟨?_,?_,?_,?_⟩<;>(rw[Ja hh];rfl)
 have HKX:Hi (∀W',Chg [K.p] w1 W'->Bel K.w0 W'):=λW' hW=>QdL HM1.o.bel hk.num hW
 obtain⟨b0,b1,b2,b3⟩:=FF.o _ (Chg.refl _ _);obtain⟨kb,o,yB,hbl,cA⟩:=nA.o.at0 zp;obtain⟨da,ca,sA,hfa⟩:=cA 0 a rfl;have mA:=Zh sA;have jA:=Zh hfa;clear cA;subst yB;have vA:=HH.o.kid zd (i:=0) (y:=a) rfl mA.o HM1.o (HC1.o.trans (Chg.refl _ _)) HH.o.us;have eA:=Zh (vA.ok hk d);have ci:=pA.o a _ vars types _ _ _ w1 u (zu HN.o (KE (l:=[a]) (y:=a) zp)) vA;obtain⟨k0,k1,k2,k3⟩:=jA.o _ (HKX.o _ ((Chg.refl _ _)));simp only[zero_mul,add_zero,one_mul,Nat.reduceMul]at k0 k1 k2 k3;go_wp2_with fail;refine ci.mono ?_
 cases hy:evK K d vars u a with
 |fault er u6=>
  rintro e w6 ⟨zA,⟨vx,rfl⟩,uA,aA⟩;have tA:w6.cell? ⟨K.p,17,none⟩=some (Iv er):=Ja uA.self 17;have xB:(er==0)=false:=zzq zA;have rA:(er !=0)=true:=by rw[bne,xB];rfl
  have xA:Hi (EvG K W c X (.returned (Iv 0)) w6):=by
   rw[Hi,HX.o,hy,RN.bind_fault];exact⟨zA,⟨_,rfl⟩,uA,HC1.o.trans aA⟩
  go_wp2;go_ret;exact xA.o
 |val v u6=>
  rintro e w6 ⟨rfl,hm6,hc6⟩;have tA:w6.cell? ⟨K.p,17,none⟩=some (Iv 0):=Ja hm6.self 17;have gA:=eA.o;rw[hy]at gA;obtain⟨kA,bA,dA⟩:=gA;have HY:=Zh hy;have qA:=Zh hm6;have HC6:=Zh hc6;have zB:=Zh bA;have iA:=Zh dA;obtain⟨b0,b1,b2,b3⟩:=FF.o _ HC6.o
  have yA:v=0\/v=1:=by
   have ht:=Jef HH.o.ty rfl a zp;have h:=iA.o;rw[ht]at h
   rcases h with⟨h,_⟩|⟨_,h⟩
   ·cases h
   ·exact h
  have xA:Hi (EvG K W c X (.returned (Iv (1-v))) w6):=by
   rw[Hi,HX.o,HY.o,RN.bind_val];exact⟨rfl,qA.o,HC1.o.trans HC6.o⟩
  rcases yA with rfl|rfl
  ·go_wp2;go_ret;exact xA.o
  ·go_wp2;go_ret;exact xA.o
def Qky(K:Qar)(hk:K.Ok)(c d n:Nat)(IH:QcO K c d n)(nn:Int)(s:By)(a b:Exp)(cs:Array Value)(vars types:List Int)(vv:Value)(Qad:Nat)(t:Int)(W:World)(u:Nat)(hn:Qaz (utL [a,b])<=n)(h:Qdp K c (.mk 16 nn s [a,b]) cs vars types vv Qad t W u):
  Calls prog 45 #[Pt K.p,.agg cs,vv] W (EvG K W c (evK K d vars u (.mk 16 nn s [a,b]))):=by
 obtain⟨ad,cc,rfl,cB,hK⟩:=h.x.kids;obtain⟨va,vc,rfl⟩:=h.ints.form';obtain⟨X,hX⟩:∃X,evK K d vars u (.mk 16 nn s [a,b])=X:=⟨_,rfl⟩
 rw[hX];rw[Jjt]at hX;have jA:=hX.symm;clear hX;have hX:=jA;clear jA;have HX:=Zh hX;have hb1:Below W.heap.size W (W.alloc (.cells #[Iv 16,Iv nn,Sv s,.slice ad [a,b].length cc] 50)):=zzb.alloc zzl _;have HM1:=Zh (h.at'.up hb1);have HC1:Hi (Chg [K.p] W (W.alloc (.cells #[Iv 16,Iv nn,Sv s,.slice ad [a,b].length cc] 50))):=Chg.of_below hb1 [K.p];have HCP:=Zh (zzw W (.cells #[Iv 16,Iv nn,Sv s,.slice ad [a,b].length cc] 50));have HNE:Hi (W.heap.size≠K.p):=by have:=h.at'.lt;unfold Hi;omega
 have HH:=Zh h;have zB:=Zh hK;have dA:=Zh IH;have HN:=Zh hn;clear hb1 h hK hX IH hn;go_enter func45,ntmps45;go_upto_region 1 with fail;generalize World.alloc W _=w1 at*;generalize W.heap.size=eb at*
 have FF:Hi (∀W',Chg [K.p] w1 W'->W'.cell? ⟨eb,0,none⟩=some (Iv 16)/\W'.cell? ⟨eb,1,none⟩=some (Iv nn)/\W'.cell? ⟨eb,2,none⟩=some (Sv s)/\W'.cell? ⟨eb,3,none⟩=some (.slice ad [a,b].length cc)):=by
  intro W' hW;have hh:=hW.heap_some (by simp;exact HNE.o) HCP.o;refine⟨?_,?_,?_,?_⟩<;>(rw[Ja hh];rfl)
 have HKX:Hi (∀W',Chg [K.p] w1 W'->Bel K.w0 W'):=λW' hW=>QdL HM1.o.bel hk.num hW
 obtain⟨b0,b1,b2,b3⟩:=FF.o _ (Chg.refl _ _);obtain⟨kb,o,sA,hbl,uA⟩:=zB.o.at0 zp;obtain⟨da,ca,uB,hfa⟩:=uA 0 a rfl;have pA:=Zh uB;have nA:=Zh hfa;obtain⟨db,cb,qA,tA⟩:=uA 1 b rfl;have yB:=Zh qA;have HFb:=Zh tA;subst sA;have aA:=HH.o.kid zd (i:=0) (y:=a) rfl pA.o HM1.o (HC1.o.trans (Chg.refl _ _)) HH.o.us;have hA:=Zh (aA.ok hk d);have ci:=dA.o a _ vars types _ _ _ w1 u (zu HN.o (KE (l:=[a,b]) (y:=a) zp)) aA;obtain⟨k0,k1,k2,k3⟩:=nA.o _ (HKX.o _ ((Chg.refl _ _)));simp only[zero_mul,add_zero,one_mul,Nat.reduceMul]at k0 k1 k2 k3;go_wp2_with fail;refine ci.mono ?_
 cases hy:evK K d vars u a with
 |fault er u6=>
  rintro e w6 ⟨yA,⟨vx,rfl⟩,vA,bA⟩;have vB:w6.cell? ⟨K.p,17,none⟩=some (Iv er):=Ja vA.self 17;have aB:(er==0)=false:=zzq yA;have rA:(er !=0)=true:=by rw[bne,aB];rfl
  have xA:Hi (EvG K W c X (.returned (Iv 0)) w6):=by
   rw[Hi,HX.o,hy,RN.bind_fault];exact⟨yA,⟨_,rfl⟩,vA,HC1.o.trans bA⟩
  go_wp2;go_ret;exact xA.o
 |val v u6=>
  rintro e w6 ⟨rfl,hm6,hc6⟩;have vB:w6.cell? ⟨K.p,17,none⟩=some (Iv 0):=Ja hm6.self 17;have iA:=hA.o;rw[hy]at iA;obtain⟨xB,cA,gA⟩:=iA;have HY:=Zh hy;have eA:=Zh hm6;have HC6:=Zh hc6;have mA:=Zh cA;have kA:=Zh gA;obtain⟨b0,b1,b2,b3⟩:=FF.o _ HC6.o
  have zA:v=0\/v=1:=by
   have ht:=QjJ (.inl rfl) HH.o.ty;have h:=kA.o;rw[ht]at h
   rcases h with⟨h,_⟩|⟨_,h⟩
   ·cases h
   ·exact h
  rcases zA with rfl|rfl
  ·have xA:Hi (EvG K W c X (.returned (Iv 0)) w6):=by
    rw[Hi,HX.o,HY.o,RN.bind_val,if_pos rfl];exact⟨rfl,eA.o,HC1.o.trans HC6.o⟩
   go_wp2;go_ret;exact xA.o
  ·have hHb:=HH.o.kid zd (i:=1) (y:=b) rfl yB.o eA.o (HC1.o.trans HC6.o) mA.o;have bB:=Zh (hHb.ok hk d);have ci:=dA.o b _ vars types _ _ _ w6 u6 (zu HN.o (KE (l:=[a,b]) (y:=b) zp)) hHb;obtain⟨k0,k1,k2,k3⟩:=HFb.o _ (HKX.o _ (HC6.o));simp only[zero_mul,add_zero,one_mul,Nat.reduceMul]at k0 k1 k2 k3;go_wp2_with fail;refine ci.mono ?_
   cases hz:evK K d vars u6 b with
   |fault er u9=>
    rintro e w9 ⟨yA,⟨v9,rfl⟩,hm9,hc9⟩
    have xA:Hi (EvG K W c X (.returned (Iv v9)) w9):=by
     rw[Hi,HX.o,HY.o,RN.bind_val,if_neg zd,hz];exact⟨yA,⟨_,rfl⟩,hm9,HC1.o.trans (Chg.trans HC6.o hc9)⟩
    go_wp2;go_ret;exact xA.o
   |val v9 u9=>
    rintro e w9 ⟨rfl,hm9,hc9⟩
    have xA:Hi (EvG K W c X (.returned (Iv v9)) w9):=by
     rw[Hi,HX.o,HY.o,RN.bind_val,if_neg zd,hz];exact⟨rfl,hm9,HC1.o.trans (Chg.trans HC6.o hc9)⟩
    go_wp2;go_ret;exact xA.o
def QlQ(K:Qar)(hk:K.Ok)(c d n:Nat)(IH:QcO K c d n)(nn:Int)(s:By)(a b:Exp)(cs:Array Value)(vars types:List Int)(vv:Value)(Qad:Nat)(t:Int)(W:World)(u:Nat)(hn:Qaz (utL [a,b])<=n)(h:Qdp K c (.mk 17 nn s [a,b]) cs vars types vv Qad t W u):
  Calls prog 45 #[Pt K.p,.agg cs,vv] W (EvG K W c (evK K d vars u (.mk 17 nn s [a,b]))):=by
 obtain⟨ad,cc,rfl,cB,hK⟩:=h.x.kids;obtain⟨va,vc,rfl⟩:=h.ints.form';obtain⟨X,hX⟩:∃X,evK K d vars u (.mk 17 nn s [a,b])=X:=⟨_,rfl⟩
 rw[hX];rw[Jkn]at hX;have jA:=hX.symm;clear hX;have hX:=jA;clear jA;have HX:=Zh hX;have hb1:Below W.heap.size W (W.alloc (.cells #[Iv 17,Iv nn,Sv s,.slice ad [a,b].length cc] 50)):=zzb.alloc zzl _;have HM1:=Zh (h.at'.up hb1);have HC1:Hi (Chg [K.p] W (W.alloc (.cells #[Iv 17,Iv nn,Sv s,.slice ad [a,b].length cc] 50))):=Chg.of_below hb1 [K.p];have HCP:=Zh (zzw W (.cells #[Iv 17,Iv nn,Sv s,.slice ad [a,b].length cc] 50));have HNE:Hi (W.heap.size≠K.p):=by have:=h.at'.lt;unfold Hi;omega
 have HH:=Zh h;have zB:=Zh hK;have dA:=Zh IH;have HN:=Zh hn;clear hb1 h hK hX IH hn;go_enter func45,ntmps45;go_upto_region 1 with fail;generalize World.alloc W _=w1 at*;generalize W.heap.size=eb at*
 have FF:Hi (∀W',Chg [K.p] w1 W'->W'.cell? ⟨eb,0,none⟩=some (Iv 17)/\W'.cell? ⟨eb,1,none⟩=some (Iv nn)/\W'.cell? ⟨eb,2,none⟩=some (Sv s)/\W'.cell? ⟨eb,3,none⟩=some (.slice ad [a,b].length cc)):=by
  intro W' hW;have hh:=hW.heap_some (by simp;exact HNE.o) HCP.o;refine⟨?_,?_,?_,?_⟩<;>(rw[Ja hh];rfl)
 have HKX:Hi (∀W',Chg [K.p] w1 W'->Bel K.w0 W'):=λW' hW=>QdL HM1.o.bel hk.num hW
 obtain⟨b0,b1,b2,b3⟩:=FF.o _ (Chg.refl _ _);obtain⟨kb,o,sA,hbl,uA⟩:=zB.o.at0 zp;obtain⟨da,ca,uB,hfa⟩:=uA 0 a rfl;have pA:=Zh uB;have nA:=Zh hfa;obtain⟨db,cb,qA,tA⟩:=uA 1 b rfl;have yB:=Zh qA;have HFb:=Zh tA;subst sA;have aA:=HH.o.kid zd (i:=0) (y:=a) rfl pA.o HM1.o (HC1.o.trans (Chg.refl _ _)) HH.o.us;have hA:=Zh (aA.ok hk d);have ci:=dA.o a _ vars types _ _ _ w1 u (zu HN.o (KE (l:=[a,b]) (y:=a) zp)) aA;obtain⟨k0,k1,k2,k3⟩:=nA.o _ (HKX.o _ ((Chg.refl _ _)));simp only[zero_mul,add_zero,one_mul,Nat.reduceMul]at k0 k1 k2 k3;go_wp2_with fail;refine ci.mono ?_
 cases hy:evK K d vars u a with
 |fault er u6=>
  rintro e w6 ⟨yA,⟨vx,rfl⟩,vA,bA⟩;have vB:w6.cell? ⟨K.p,17,none⟩=some (Iv er):=Ja vA.self 17;have aB:(er==0)=false:=zzq yA;have rA:(er !=0)=true:=by rw[bne,aB];rfl
  have xA:Hi (EvG K W c X (.returned (Iv 0)) w6):=by
   rw[Hi,HX.o,hy,RN.bind_fault];exact⟨yA,⟨_,rfl⟩,vA,HC1.o.trans bA⟩
  go_wp2;go_ret;exact xA.o
 |val v u6=>
  rintro e w6 ⟨rfl,hm6,hc6⟩;have vB:w6.cell? ⟨K.p,17,none⟩=some (Iv 0):=Ja hm6.self 17;have iA:=hA.o;rw[hy]at iA;obtain⟨xB,cA,gA⟩:=iA;have HY:=Zh hy;have eA:=Zh hm6;have HC6:=Zh hc6;have mA:=Zh cA;have kA:=Zh gA;obtain⟨b0,b1,b2,b3⟩:=FF.o _ HC6.o
  have zA:v=0\/v=1:=by
   have ht:=QjJ (.inr rfl) HH.o.ty;have h:=kA.o;rw[ht]at h
   rcases h with⟨h,_⟩|⟨_,h⟩
   ·cases h
   ·exact h
  rcases zA with rfl|rfl
  ·have hHb:=HH.o.kid zd (i:=1) (y:=b) rfl yB.o eA.o (HC1.o.trans HC6.o) mA.o;have bB:=Zh (hHb.ok hk d);have ci:=dA.o b _ vars types _ _ _ w6 u6 (zu HN.o (KE (l:=[a,b]) (y:=b) zp)) hHb;obtain⟨k0,k1,k2,k3⟩:=HFb.o _ (HKX.o _ (HC6.o));simp only[zero_mul,add_zero,one_mul,Nat.reduceMul]at k0 k1 k2 k3;go_wp2_with fail;refine ci.mono ?_
   cases hz:evK K d vars u6 b with
   |fault er u9=>
    rintro e w9 ⟨yA,⟨v9,rfl⟩,hm9,hc9⟩
    have xA:Hi (EvG K W c X (.returned (Iv v9)) w9):=by
     rw[Hi,HX.o,HY.o,RN.bind_val,if_pos rfl,hz];exact⟨yA,⟨_,rfl⟩,hm9,HC1.o.trans (Chg.trans HC6.o hc9)⟩
    go_wp2;go_ret;exact xA.o
   |val v9 u9=>
    rintro e w9 ⟨rfl,hm9,hc9⟩
    have xA:Hi (EvG K W c X (.returned (Iv v9)) w9):=by
     rw[Hi,HX.o,HY.o,RN.bind_val,if_pos rfl,hz];exact⟨rfl,hm9,HC1.o.trans (Chg.trans HC6.o hc9)⟩
    go_wp2;go_ret;exact xA.o
  ·have xA:Hi (EvG K W c X (.returned (Iv 1)) w6):=by
    rw[Hi,HX.o,HY.o,RN.bind_val,if_neg zd];exact⟨rfl,eA.o,HC1.o.trans HC6.o⟩
   go_wp2;go_ret;exact xA.o
def QlR(K:Qar)(hk:K.Ok)(c d n:Nat)(IH:QcO K c d n)(nn:Int)(s:By)(z a b:Exp)(cs:Array Value)(vars types:List Int)(vv:Value)(Qad:Nat)(t:Int)(W:World)(u:Nat)(hn:Qaz (utL [z,a,b])<=n)(h:Qdp K c (.mk 18 nn s [z,a,b]) cs vars types vv Qad t W u):
  Calls prog 45 #[Pt K.p,.agg cs,vv] W (EvG K W c (evK K d vars u (.mk 18 nn s [z,a,b]))):=by
 obtain⟨ad,cc,rfl,jB,hK⟩:=h.x.kids;obtain⟨va,vc,rfl⟩:=h.ints.form';obtain⟨X,hX⟩:∃X,evK K d vars u (.mk 18 nn s [z,a,b])=X:=⟨_,rfl⟩
 rw[hX];rw[Jko]at hX;have kA:=hX.symm;clear hX;have hX:=kA;clear kA;have HX:=Zh hX;have hb1:Below W.heap.size W (W.alloc (.cells #[Iv 18,Iv nn,Sv s,.slice ad [z,a,b].length cc] 50)):=zzb.alloc zzl _;have HM1:=Zh (h.at'.up hb1);have HC1:Hi (Chg [K.p] W (W.alloc (.cells #[Iv 18,Iv nn,Sv s,.slice ad [z,a,b].length cc] 50))):=Chg.of_below hb1 [K.p];have HCP:=Zh (zzw W (.cells #[Iv 18,Iv nn,Sv s,.slice ad [z,a,b].length cc] 50));have HNE:Hi (W.heap.size≠K.p):=by have:=h.at'.lt;unfold Hi;omega
 have HH:=Zh h;have bB:=Zh hK;have aA:=Zh IH;have HN:=Zh hn;clear hb1 h hK hX IH hn;go_enter func45,ntmps45;go_upto_region 1 with fail;generalize World.alloc W _=w1 at*;generalize W.heap.size=eb at*
 have FF:Hi (∀W',Chg [K.p] w1 W'->W'.cell? ⟨eb,0,none⟩=some (Iv 18)/\W'.cell? ⟨eb,1,none⟩=some (Iv nn)/\W'.cell? ⟨eb,2,none⟩=some (Sv s)/\W'.cell? ⟨eb,3,none⟩=some (.slice ad [z,a,b].length cc)):=by
  intro W' hW;have hh:=hW.heap_some (by simp;exact HNE.o) HCP.o;refine⟨?_,?_,?_,?_⟩<;>(rw[Ja hh];rfl)
 have HKX:Hi (∀W',Chg [K.p] w1 W'->Bel K.w0 W'):=λW' hW=>QdL HM1.o.bel hk.num hW
 obtain⟨b0,b1,b2,b3⟩:=FF.o _ (Chg.refl _ _);obtain⟨kb,o,tA,hbl,zA⟩:=bB.o.at0 zp;obtain⟨dz,cz,vB,gB⟩:=zA 0 z rfl;have uB:=Zh vB;have xB:=Zh gB;obtain⟨da,ca,cB,hfa⟩:=zA 1 a rfl;have qA:=Zh cB;have pA:=Zh hfa;obtain⟨db,cb,rA,yB⟩:=zA 2 b rfl;have aB:=Zh rA;have HFb:=Zh yB;clear zA;subst tA;have cA:=HH.o.kid zd (i:=0) (y:=z) rfl uB.o HM1.o (HC1.o.trans (Chg.refl _ _)) HH.o.us;have nA:=Zh (cA.ok hk d);have ci:=aA.o z _ vars types _ _ _ w1 u (zu HN.o (KE (l:=[z,a,b]) (y:=z) zp)) cA;obtain⟨k0,k1,k2,k3⟩:=xB.o _ (HKX.o _ ((Chg.refl _ _)));simp only[zero_mul,add_zero,one_mul,Nat.reduceMul]at k0 k1 k2 k3;go_wp2_with fail;refine ci.mono ?_
 cases hy:evK K d vars u z with
 |fault er u6=>
  rintro e w6 ⟨xA,⟨vx,rfl⟩,vA,eA⟩;have dB:w6.cell? ⟨K.p,17,none⟩=some (Iv er):=Ja vA.self 17;have eB:(er==0)=false:=zzq xA;have sA:(er !=0)=true:=by rw[bne,eB];rfl
  have yA:Hi (EvG K W c X (.returned (Iv 0)) w6):=by
   rw[Hi,HX.o,hy,RN.bind_fault];exact⟨xA,⟨_,rfl⟩,vA,HC1.o.trans eA⟩
  go_wp2;go_ret;exact yA.o
 |val v u6=>
  rintro e w6 ⟨rfl,hm6,hc6⟩;have dB:w6.cell? ⟨K.p,17,none⟩=some (Iv 0):=Ja hm6.self 17;have jA:=nA.o;rw[hy]at jA;obtain⟨zB,gA,iA⟩:=jA;have HY:=Zh hy;have hA:=Zh hm6;have HC6:=Zh hc6;have dA:=Zh gA;have mA:=Zh iA;obtain⟨b0,b1,b2,b3⟩:=FF.o _ HC6.o
  have uA:v=0\/v=1:=by
   have ht:=QmY HH.o.ty;have h:=mA.o;rw[ht]at h
   rcases h with⟨h,_⟩|⟨_,h⟩
   ·cases h
   ·exact h
  rcases uA with rfl|rfl
  ·have hHb:=HH.o.kid zd (i:=2) (y:=b) rfl aB.o hA.o (HC1.o.trans HC6.o) dA.o;have hB:=Zh (hHb.ok hk d);have ci:=aA.o b _ vars types _ _ _ w6 u6 (zu HN.o (KE (l:=[z,a,b]) (y:=b) zp)) hHb;obtain⟨k0,k1,k2,k3⟩:=HFb.o _ (HKX.o _ (HC6.o));simp only[zero_mul,add_zero,one_mul,Nat.reduceMul]at k0 k1 k2 k3;go_wp2_with fail;refine ci.mono ?_
   cases hz:evK K d vars u6 b with
   |fault er u9=>
    rintro e w9 ⟨xA,⟨v9,rfl⟩,hm9,hc9⟩
    have yA:Hi (EvG K W c X (.returned (Iv v9)) w9):=by
     rw[Hi,HX.o,HY.o,RN.bind_val,if_pos rfl,hz];exact⟨xA,⟨_,rfl⟩,hm9,HC1.o.trans (Chg.trans HC6.o hc9)⟩
    go_wp2;go_ret;exact yA.o
   |val v9 u9=>
    rintro e w9 ⟨rfl,hm9,hc9⟩
    have yA:Hi (EvG K W c X (.returned (Iv v9)) w9):=by
     rw[Hi,HX.o,HY.o,RN.bind_val,if_pos rfl,hz];exact⟨rfl,hm9,HC1.o.trans (Chg.trans HC6.o hc9)⟩
    go_wp2;go_ret;exact yA.o
  ·have bA:=HH.o.kid zd (i:=1) (y:=a) rfl qA.o hA.o (HC1.o.trans HC6.o) dA.o;have iB:=Zh (bA.ok hk d);have ci:=aA.o a _ vars types _ _ _ w6 u6 (zu HN.o (KE (l:=[z,a,b]) (y:=a) zp)) bA;obtain⟨k0,k1,k2,k3⟩:=pA.o _ (HKX.o _ (HC6.o));simp only[zero_mul,add_zero,one_mul,Nat.reduceMul]at k0 k1 k2 k3;go_wp2_with fail;refine ci.mono ?_
   cases hz:evK K d vars u6 a with
   |fault er u9=>
    rintro e w9 ⟨xA,⟨v9,rfl⟩,hm9,hc9⟩
    have yA:Hi (EvG K W c X (.returned (Iv v9)) w9):=by
     rw[Hi,HX.o,HY.o,RN.bind_val,if_neg zd,hz];exact⟨xA,⟨_,rfl⟩,hm9,HC1.o.trans (Chg.trans HC6.o hc9)⟩
    go_wp2;go_ret;exact yA.o
   |val v9 u9=>
    rintro e w9 ⟨rfl,hm9,hc9⟩
    have yA:Hi (EvG K W c X (.returned (Iv v9)) w9):=by
     rw[Hi,HX.o,HY.o,RN.bind_val,if_neg zd,hz];exact⟨rfl,hm9,HC1.o.trans (Chg.trans HC6.o hc9)⟩
    go_wp2;go_ret;exact yA.o
def Qkw(K:Qar)(hk:K.Ok)(c d n:Nat)(IH:QcO K c d n)(nn:Int)(s:By)(a b:Exp)(cs:Array Value)(vars types:List Int)(vv:Value)(Qad:Nat)(t:Int)(W:World)(u:Nat)(hn:Qaz (utL [a,b])<=n)(h:Qdp K c (.mk 19 nn s [a,b]) cs vars types vv Qad t W u):
  Calls prog 45 #[Pt K.p,.agg cs,vv] W (EvG K W c (evK K d vars u (.mk 19 nn s [a,b]))):=by
 obtain⟨ad,cc,rfl,zC,hK⟩:=h.x.kids;obtain⟨va,vc,rfl⟩:=h.ints.form';obtain⟨X,hX⟩:∃X,evK K d vars u (.mk 19 nn s [a,b])=X:=⟨_,rfl⟩
 rw[hX];rw[Jju]at hX;have vB:=hX.symm;clear hX;have hX:=vB;clear vB;have HX:=Zh hX;have hb1:Below W.heap.size W (W.alloc (.cells #[Iv 19,Iv nn,Sv s,.slice ad [a,b].length cc] 50)):=zzb.alloc zzl _;have HM1:=Zh (h.at'.up hb1);have HC1:Hi (Chg [K.p] W (W.alloc (.cells #[Iv 19,Iv nn,Sv s,.slice ad [a,b].length cc] 50))):=Chg.of_below hb1 [K.p];have HCP:=Zh (zzw W (.cells #[Iv 19,Iv nn,Sv s,.slice ad [a,b].length cc] 50));have HNE:Hi (W.heap.size≠K.p):=by have:=h.at'.lt;unfold Hi;omega
 have HH:=Zh h;have qB:=Zh hK;have tA:=Zh IH;have HN:=Zh hn;clear hb1 h hK hX IH hn;go_enter func45,ntmps45;go_upto_region 1 with fail;generalize World.alloc W _=w1 at*;generalize W.heap.size=eb at*
 have FF:Hi (∀W',Chg [K.p] w1 W'->W'.cell? ⟨eb,0,none⟩=some (Iv 19)/\W'.cell? ⟨eb,1,none⟩=some (Iv nn)/\W'.cell? ⟨eb,2,none⟩=some (Sv s)/\W'.cell? ⟨eb,3,none⟩=some (.slice ad [a,b].length cc)):=by
  intro W' hW;have hh:=hW.heap_some (by simp;exact HNE.o) HCP.o;refine⟨?_,?_,?_,?_⟩<;>(rw[Ja hh];rfl)
 have HKX:Hi (∀W',Chg [K.p] w1 W'->Bel K.w0 W'):=λW' hW=>QdL HM1.o.bel hk.num hW
 obtain⟨b0,b1,b2,b3⟩:=FF.o _ (Chg.refl _ _);obtain⟨kb,o,kB,hbl,gA⟩:=qB.o.at0 zp;obtain⟨da,ca,rB,hfa⟩:=gA 0 a rfl;have eB:=Zh rB;have dB:=Zh hfa;obtain⟨db,cb,hB,mB⟩:=gA 1 b rfl;have pB:=Zh hB;have HFb:=Zh mB;clear gA;subst kB;have jA:=HH.o.let1 eB.o HM1.o (HC1.o.trans (Chg.refl _ _)) HH.o.us;have zB:=Zh (jA.ok hk d);have ci:=tA.o a _ vars types _ _ _ w1 u (zu HN.o (KE (l:=[a,b]) (y:=a) zp)) jA;clear jA;obtain⟨k0,k1,k2,k3⟩:=dB.o _ (HKX.o _ ((Chg.refl _ _)));simp only[zero_mul,add_zero,one_mul,Nat.reduceMul]at k0 k1 k2 k3;go_wp2_with fail;refine ci.mono ?_;clear ci k0 k1 k2 k3 b0 b1 b2 b3
 cases hy:evK K d vars u a with
 |fault er u6=>
  rintro e w6 ⟨aA,⟨vx,rfl⟩,hA,qA⟩;have aB:w6.cell? ⟨K.p,17,none⟩=some (Iv er):=Ja hA.self 17;have sB:(er==0)=false:=zzq aA;have iB:(er !=0)=true:=by rw[bne,sB];rfl
  have dA:Hi (EvG K W c X (.returned (Iv 0)) w6):=by
   rw[Hi,HX.o,hy,RN.bind_fault];exact⟨aA,⟨_,rfl⟩,hA,HC1.o.trans qA⟩
  clear hA qA aA;go_wp2;go_ret;exact dA.o
 |val v u6=>
  rintro e w6 ⟨rfl,hm6,hc6⟩;have aB:w6.cell? ⟨K.p,17,none⟩=some (Iv 0):=Ja hm6.self 17;have uB:=zB.o;rw[hy]at uB;obtain⟨nB,rA,yB⟩:=uB;have HY:=Zh hy;have iA:=Zh hm6;have HC6:=Zh hc6;have cB:=Zh rA;have jB:=Zh yB;clear hy hm6 hc6 nB rA yB zB;obtain⟨b0,b1,b2,b3⟩:=FF.o _ HC6.o;go_upto_region 36 with fail;clear b0 b1 b2 b3 aB;have HOW:=Zh (Vj w6 3 1);have hb7:Below w6.heap.size w6 (w6.alloc (.cells #[] 3)):=zzb.alloc zzl _;have HB7:=Zh hb7;have xB:=Zh (Qki (HH.o.ints.chg (HC1.o.trans (HC6.o.trans (Chg.of_below hb7 [K.p])))));have sA:Hi (K.p<w6.heap.size):=iA.o.lt;have zA:Hi (vars.length<=900000000):=by have:=HH.o.sz;unfold Hi;omega
  clear hb7;go_wp2_with (at_builtin;go_loud (refine zV elI QeC QeB rfl _ _ rfl w6.heap.size _ 0 [] rfl HOW.o va vc vars.length vars rfl xB.o rfl (zt zA.o) HB7.o.size ?_));intro v8 w8 yA hb8
  (try simp only[Nat.zero_add,List.nil_append]at yA)
  obtain⟨a8,c8,gB⟩:=JB yA;subst gB;have hq:Below w8.heap.size w8 (w8.alloc (.cells #[Iv v] 3)):=zzb.alloc zzl _;have bA:=Zh (JZ yA hq);have bB:=Zh (zzw w8 (.cells #[Iv v] 3));have vA:=HB7.o.trans hb8;have HB8:Hi (Below w6.heap.size w6 (w8.alloc (.cells #[Iv v] 3))):=vA.alloc vA.size _;clear yA hb8 hq vA HOW xB HB7;go_wp2_with (at_builtin;go_loud (refine zV elI QeC QeB rfl _ _ rfl w6.heap.size _ vars.length _ rfl bA.o _ 1 1 [v] rfl (.inr (Vk (g:=gI) (x:=v) bB.o)) rfl (zt zA.o) HB8.o.size ?_));intro v9 kA xA cA;have eA:QaP kA K.p v9 (vars++[v]):=QgQ (by rw[List.length_append,List.length_singleton]) (by rw[List.flatMap_append];exact xA) sA.o;have hbt:=HB8.o.trans cA;have nA:=Zh (iA.o.up hbt);have uA:Hi (Chg [K.p] w1 kA):=HC6.o.trans (Chg.of_below hbt [K.p]);have pA:=Zh eA;obtain⟨xC,yC,mA⟩:=JB xA;subst mA;clear eA xA cA hbt bA bB HB8 zA sA iA HC6;obtain⟨b0,b1,b2,b3⟩:=FF.o _ uA.o;have hHb:=HH.o.let2 pB.o nA.o jB.o pA.o cB.o;have tB:=Zh (hHb.ok hk d);have ci:=tA.o b _ (vars++[v]) (types++[(ofN K.r.sigs types (utN a)).1]) _ _ _ kA u6 (zu HN.o (KE (l:=[a,b]) (y:=b) zp)) hHb;clear hHb;obtain⟨k0,k1,k2,k3⟩:=HFb.o _ (HKX.o _ (uA.o));simp only[zero_mul,add_zero,one_mul,Nat.reduceMul]at k0 k1 k2 k3;go_wp2_with fail;refine ci.mono ?_;clear ci k0 k1 k2 k3 b0 b1 b2 b3
  cases hz:evK K d (vars++[v]) u6 b with
  |fault er u9=>
   rintro e w9 ⟨aA,⟨v9,rfl⟩,hm9,hc9⟩
   have dA:Hi (EvG K W c X (.returned (Iv v9)) w9):=by
    rw[Hi,HX.o,HY.o,RN.bind_val,hz];exact⟨aA,⟨_,rfl⟩,hm9,HC1.o.trans (Chg.trans uA.o hc9)⟩
   clear hz hm9 hc9 aA;go_wp2;go_ret;exact dA.o
  |val v9 u9=>
   rintro e w9 ⟨rfl,hm9,hc9⟩
   have dA:Hi (EvG K W c X (.returned (Iv v9)) w9):=by
    rw[Hi,HX.o,HY.o,RN.bind_val,hz];exact⟨rfl,hm9,HC1.o.trans (Chg.trans uA.o hc9)⟩
   clear hz hm9 hc9;go_wp2;go_ret;exact dA.o
def QiG(K:Qar)(hk:K.Ok)(c d n:Nat)(IH:QcO K c d n)(k nn:Int)(s:By)(a b:Exp)(cs:Array Value)(vars types:List Int)(vv:Value)(Qad:Nat)(t:Int)(W:World)(u:Nat)(hn:Qaz (utL [a,b])<=n)(h:Qdp K c (.mk k nn s [a,b]) cs vars types vv Qad t W u)(hk8:8<=k/\k<=15):
  Calls prog 45 #[Pt K.p,.agg cs,vv] W (EvG K W c (evK K d vars u (.mk k nn s [a,b]))):=by
 obtain⟨ad,cc,rfl,iB,hK⟩:=h.x.kids;obtain⟨va,vc,rfl⟩:=h.ints.form';obtain⟨X,hX⟩:∃X,evK K d vars u (.mk k nn s [a,b])=X:=⟨_,rfl⟩
 rw[hX];rw[QkA _ _ _ _ _ _ _ _ _ hk8]at hX;have pA:=hX.symm;clear hX;have hX:=pA;clear pA;have HX:=Zh hX;have q0:(k==0)=false:=zzq zo;have q1:(k==1)=false:=zzq zo;have q2:(k==2)=false:=zzq zo;have q3:(k==3)=false:=zzq zo;have q4:(k==4)=false:=zzq zo;have q5:(k==5)=false:=zzq zo;have q6:(k==6)=false:=zzq zo;have q7:(k==7)=false:=zzq zo;have gB:(k==16)=false:=zzq zo;have kB:(k==17)=false:=zzq zo;have jB:(k==18)=false:=zzq zo;have eB:(k==19)=false:=zzq zo;have dB:(k==20)=false:=zzq zo;have qA:=Zh hk8;have h19:k≠19:=zo
 have mA:=Zh h19;clear h19;have hb1:Below W.heap.size W (W.alloc (.cells #[Iv k,Iv nn,Sv s,.slice ad [a,b].length cc] 50)):=zzb.alloc zzl _;have HM1:=Zh (h.at'.up hb1);have HC1:Hi (Chg [K.p] W (W.alloc (.cells #[Iv k,Iv nn,Sv s,.slice ad [a,b].length cc] 50))):=Chg.of_below hb1 [K.p];have HCP:=Zh (zzw W (.cells #[Iv k,Iv nn,Sv s,.slice ad [a,b].length cc] 50));have HNE:Hi (W.heap.size≠K.p):=by have:=h.at'.lt;unfold Hi;omega
 have HH:=Zh h;have bB:=Zh hK;have kA:=Zh IH;have HN:=Zh hn;clear hb1 h hK hX IH hn hk8;go_enter func45,ntmps45;go_upto_region 1 with fail;generalize World.alloc W _=w1 at*;generalize W.heap.size=eb at*
 have FF:Hi (∀W',Chg [K.p] w1 W'->W'.cell? ⟨eb,0,none⟩=some (Iv k)/\W'.cell? ⟨eb,1,none⟩=some (Iv nn)/\W'.cell? ⟨eb,2,none⟩=some (Sv s)/\W'.cell? ⟨eb,3,none⟩=some (.slice ad [a,b].length cc)):=by
  intro W' hW;have hh:=hW.heap_some (by simp;exact HNE.o) HCP.o;refine⟨?_,?_,?_,?_⟩<;>(rw[Ja hh];rfl)
 have HKX:Hi (∀W',Chg [K.p] w1 W'->Bel K.w0 W'):=λW' hW=>QdL HM1.o.bel hk.num hW
 obtain⟨b0,b1,b2,b3⟩:=FF.o _ (Chg.refl _ _);obtain⟨kb,o,uB,hbl,dA⟩:=bB.o.at0 zp;obtain⟨da,ca,cB,hfa⟩:=dA 0 a rfl;have tA:=Zh cB;have sA:=Zh hfa;obtain⟨db,cb,yB,vB⟩:=dA 1 b rfl;have aB:=Zh yB;have HFb:=Zh vB;subst uB;have gA:=HH.o.kid mA.o (i:=0) (y:=a) rfl tA.o HM1.o (HC1.o.trans (Chg.refl _ _)) HH.o.us;have nA:=Zh (gA.ok hk d);have ci:=kA.o a _ vars types _ _ _ w1 u (zu HN.o (KE (l:=[a,b]) (y:=a) zp)) gA;obtain⟨k0,k1,k2,k3⟩:=sA.o _ (HKX.o _ ((Chg.refl _ _)));simp only[zero_mul,add_zero,one_mul,Nat.reduceMul]at k0 k1 k2 k3;go_wp2_with fail;refine ci.mono ?_
 cases hy:evK K d vars u a with
 |fault er u6=>
  rintro e w6 ⟨yA,⟨vx,rfl⟩,zA,uA⟩;have cA:w6.cell? ⟨K.p,17,none⟩=some (Iv er):=Ja zA.self 17;have iA:(er==0)=false:=zzq yA;have eA:(er !=0)=true:=by rw[bne,iA];rfl
  have xA:Hi (EvG K W c X (.returned (Iv 0)) w6):=by
   rw[Hi,HX.o,hy,RN.bind_fault];exact⟨yA,⟨_,rfl⟩,zA,HC1.o.trans uA⟩
  go_wp2;go_ret;exact xA.o
 |val v u6=>
  rintro e w6 ⟨rfl,hm6,hc6⟩;have cA:w6.cell? ⟨K.p,17,none⟩=some (Iv 0):=Ja hm6.self 17;have aA:=nA.o;rw[hy]at aA;obtain⟨hA,bA,vA⟩:=aA;have HY:=Zh hy;have xB:=Zh hm6;have HC6:=Zh hc6;have rA:=Zh bA;have zB:=Zh vA;obtain⟨b0,b1,b2,b3⟩:=FF.o _ HC6.o;have hHb:=HH.o.kid mA.o (i:=1) (y:=b) rfl aB.o xB.o (HC1.o.trans HC6.o) rA.o;have jA:=Zh (hHb.ok hk d);have ci:=kA.o b _ vars types _ _ _ w6 u6 (zu HN.o (KE (l:=[a,b]) (y:=b) zp)) hHb;obtain⟨k0,k1,k2,k3⟩:=HFb.o _ (HKX.o _ (HC6.o));simp only[zero_mul,add_zero,one_mul,Nat.reduceMul]at k0 k1 k2 k3;go_wp2_with fail;refine ci.mono ?_
  cases hz:evK K d vars u6 b with
  |fault er u9=>
   rintro e w9 ⟨yA,⟨vx,rfl⟩,zA,uA⟩;have cA:w9.cell? ⟨K.p,17,none⟩=some (Iv er):=Ja zA.self 17;have iA:(er==0)=false:=zzq yA;have eA:(er !=0)=true:=by rw[bne,iA];rfl
   have xA:Hi (EvG K W c X (.returned (Iv 0)) w9):=by
    rw[Hi,HX.o,HY.o,RN.bind_val,hz,RN.bind_fault];exact⟨yA,⟨_,rfl⟩,zA,HC1.o.trans (HC6.o.trans uA)⟩
   go_wp2;go_ret;exact xA.o
  |val v2 u9=>
   rintro e w9 ⟨rfl,hm9,hc9⟩;have cA:w9.cell? ⟨K.p,17,none⟩=some (Iv 0):=Ja hm9.self 17;have aA:=jA.o;rw[hz]at aA;obtain⟨hA,bA,vA⟩:=aA;have HC9:=Zh (HC6.o.trans hc9)
   have xA:Hi (∀e w',EvG K w9 c (Qap k v v2 u9) e w'->EvG K W c X e w'):=λe w' h=>by
    rw[HX.o,HY.o,RN.bind_val,hz,RN.bind_val];exact EvG.back (HC1.o.trans HC9.o) h
   have ct:=Qjp K hk w9 u9 c hm9 k v v2 qA.o zB.o.wf vA.wf;obtain⟨b0,b1,b2,b3⟩:=FF.o _ HC9.o;go_wp2_with fail;refine ct.mono ?_;intro e hB h10;have h11:=xA.o _ _ h10
   cases ho:Qap k v v2 u9 with
   |fault er u10=>
    rw[ho]at h10;obtain⟨_,⟨vx,rfl⟩,_,_⟩:=h10;have xA:=Zh h11;go_wp2;go_ret;exact xA.o
   |val vx u10=>
    rw[ho]at h10;obtain⟨rfl,_,_⟩:=h10;have xA:=Zh h11;go_wp2;go_ret;exact xA.o
def Qia(nf many:Nat)(k n:Int)(s:By)(l:List Exp):shN nf many (.mk k n s l)=(Qab nf many k n s&&(k==20||l.length==ar0 k)&&shL nf many k 0 l):=by conv=>lhs;unfold shN
def Qbn(nf many:Nat)(k:Int)(i:Nat)(a:Exp)(l:List Exp):shL nf many k i (a::l)=(shN nf (if k=19/\i=1 then many+1 else many) a&&shL nf many k (i+1) l):=by conv=>lhs;unfold shL
def QaS{nf many:Nat}{k n:Int}{s:By}{l:List Exp}(h:shN nf many (.mk k n s l)=true):Qab nf many k n s=true/\(0<=k/\k<21)/\(k≠20->l.length=ar0 k)/\shL nf many k 0 l=true:=by
 rw[Qia,Bool.and_eq_true,Bool.and_eq_true,Bool.or_eq_true,beq_iff_eq,beq_iff_eq]at h;refine⟨h.1.1,?_,λhk=>h.1.2.resolve_left hk,h.2⟩;have hf:=h.1.1;unfold Qab at hf;simp only[Bool.and_eq_true,decide_eq_true_eq]at hf;exact⟨hf.1.2,hf.2⟩
def Qib{nf m:Nat}{k:Int}:∀{l:List Exp}{j i:Nat}{y:Exp},shL nf m k j l=true->l[i]?=some y->shN nf (if k=19/\j+i=1 then m+1 else m) y=true
 |[],j,i,y,_,h=>by simp at h
 |a::l,j,0,y,h,hy=>by
  obtain rfl:a=y:=by simpa using hy
  rw[Qbn,Bool.and_eq_true]at h;exact h.1
 |a::l,j,i+1,y,h,hy=>by
  rw[Qbn,Bool.and_eq_true]at h;have:=Qib h.2 (show l[i]?=some y by simpa using hy);rw[show j+1+i=j+(i+1) by omega]at this;exact this
section
variable {fs:List FnM}{fa:Option Addr}{fc:Nat}{vars:List Int}{vv:Value}{k nn:Int}{s:By}{l:List Exp}{c:Array Value}{W:World}
def RfI.kidS(h:RfI fs fa fc vars vv (.mk k nn s l) c W){i:Nat}{y:Exp}(hy:l[i]?=some y){d:Array Value}(hx:XAt W (In W) y d){sc:List Int}{sv:Value}(hsc:sc.length=if k=19/\i=1 then vars.length+1 else vars.length)(hn:Qbc W (In W) sc sv):RfI fs fa fc sc sv y d W:=by
 obtain⟨_,_,_,hl⟩:=QaS h.sh;have hsz:=h.sz;rw[utN,JA]at hsz;have hm:=Jbz (List.mem_of_getElem? hy);have xA:=h.nm;unfold NmN at xA;have hg:=Qib hl hy;rw[Nat.zero_add]at hg;refine⟨h.fns,hn,hx,by rw[hsc];exact hg,?_,JfA xA.2 y (List.mem_of_getElem? hy)⟩;rw[hsc];split<;>omega
def RfI.kid{i:Nat}(h:RfI fs fa fc vars vv (.mk k nn s l) c W)(h19:¬(k=19/\i=1)){y:Exp}(hy:l[i]?=some y){d:Array Value}(hx:XAt W (In W) y d):RfI fs fa fc vars vv y d W:=h.kidS hy hx (by rw[if_neg h19]) h.nums
end
def QiO{S:List Nat}{a b c:World}(h:Chg S a b)(k:Below a.heap.size b c):Chg S a c:=⟨k.os.trans h.os,k.tape.trans h.tape,k.output.trans h.output,Nat.le_trans h.size k.size,λi hi hn=>(k.block i hi).trans (h.block i hi hn)⟩
def LpG.step{K:Qar}{c d:Nat}{vars types:List Int}{u:Nat}{l:List Exp}{w1 w6:World}{i:Nat}{vs:List Int}{ui:Nat}{ov ov':Value}{W:World}(h:LpG K c d vars types u l w1 i vs ui ov W){y:Exp}(hy:l[i]?=some y){v:Int}{u6:Nat}
  (he:evK K d vars ui y=.val v u6) (hv:VOk (ofN K.r.sigs types (utN y)).1 v) (hu:u6<=10000) (hm:QbG K w6 u6 c 0) (hc:Chg [K.p] w1 w6) (hr:w6.ownsRow w1.heap.size 3 1 ov' (i+1) (vs.flatMap gI++[v].flatMap gI)):
  LpG K c d vars types u l w1 (i+1) (vs++[v]) u6 ov' w6:=by
 have hi:i<l.length:=(List.getElem?_eq_some_iff.1 hy).1;have yA:l[i]=y:=(List.getElem?_eq_some_iff.1 hy).2;refine⟨hm,hc,by rw[List.flatMap_append];exact hr,?_,by rw[length_append,h.len];rfl,λj x z hj hz=>?_,hu⟩
 ·rw[h.ev,List.drop_eq_getElem_cons hi,yA,Jbp,he];simp only[RN.bind_val]
  cases QdZ K d vars u6 (l.drop (i+1)) with
  |fault er u9=>rfl
  |val ws u9=>simp[RN.bind_val]
 ·by_cases hji:j<vs.length
  ·rw[List.getElem?_append_left hji]at hj;exact h.ok j x z hj hz
  ·have hlt:=(List.getElem?_eq_some_iff.1 hj).1;rw[length_append,List.length_singleton]at hlt;have xA:j=i:=by have:=h.len;omega
   subst xA;rw[List.getElem?_append_right zo,h.len,Nat.sub_self]at hj;obtain rfl:v=x:=by simpa using hj
   rw[hy]at hz;obtain rfl:=Option.some.inj hz;exact hv
def QkI(K:Qar)(W:World)(c:Nat)(types:List Int)(l:List Exp):RN (List Int)->Ending->World->Prop
 |.val vs u,e,w'=>(∃A C,e=.returned (.slice A vs.length C)/\QaP w' K.p (.slice A vs.length C) vs)/\QbG K w' u c 0/\Chg [K.p] W w'/\u<=10000/\vs.length=l.length/\∀(j:Nat)(v:Int)(y:Exp),vs[j]?=some v->l[j]?=some y->VOk (ofN K.r.sigs types (utN y)).1 v
 |.fault er u,e,w'=>er≠0/\e=.returned Nl/\QbG K w' u c er/\Chg [K.p] W w'
def Qgp(K:Qar)(hk:K.Ok)(c d n:Nat)(IH:QcO K c d n)(nn:Int)(s:By)(l:List Exp)(ad:Option Addr)(cc:Nat)(vars types:List Int)(vv:Value)(Qad:Nat)(t:Int)(W:World)(u:Nat)(hn:Qaz (utL l)<=n)(h:Qdp K c (.mk 20 nn s l) #[Iv 20,Iv nn,Sv s,.slice ad l.length cc] vars types vv Qad t W u):
  Calls prog 116 #[Pt K.p,.slice ad l.length cc,vv] W (QkI K W c types l (QdZ K d vars u l)):=by
 obtain⟨aB,xB,hx,dB,hK⟩:=h.x.kids
 obtain⟨rfl,rfl⟩:ad=aB/\cc=xB:=by
  have:=congrArg (λc:Array Value=>c.getD 3 undef) hx;simp at this;exact this
 clear hx;obtain⟨va,vc,rfl⟩:=h.ints.form';obtain⟨X,hX⟩:∃X,QdZ K d vars u l=X:=⟨_,rfl⟩
 rw[hX];have HX:=Zh hX;have HH:=Zh h;have vB:=Zh hK;have sA:=Zh IH;have HN:=Zh hn;have cB:l.length<=900000000:=by have:=Jfw l;have:=h.sz;rw[utN,JA]at this;omega
 have yA:Hi (LpG K c d vars types u l W 0 [] u Nl W):=by
  refine⟨h.at',Chg.refl _ _,⟨by simp,.inl ⟨rfl,rfl⟩⟩,?_,rfl,λj v y hj=>by simp at hj,h.us⟩;rw[List.drop_zero]
  cases QdZ K d vars u l with
  |fault er u9=>rfl
  |val ws u9=>simp[RN.bind_val]
 have HKX:Hi (∀W',Chg [K.p] W W'->Bel K.w0 W'):=λW' hW=>QdL h.at'.bel hk.num hW
 have vA:Hi (K.p<W.heap.size):=h.at'.lt;clear h hK hX IH hn;go_enter func116,ntmps116;go_wp2_with fail;go_loopg [7,8] l.length λg v7 v8 wr=>∃i:Nat,g+i=l.length/\v8=Iv i/\Hi (∃vs ui,LpG K c d vars types u l W i vs ui v7 wr)
 case atStart=>exact⟨0,rfl,rfl,_,_,yA.o⟩
 case round=>
 clear yA;obtain⟨wl,rfl⟩:=zG wr
 obtain⟨i,hg,rfl,rA⟩:=hrel;obtain⟨vs,ui,xA⟩:=rA.o;clear rA;obtain⟨oa,oc,uB⟩:=JB xA.row;subst uB
 by_cases hi:i<l.length
 ·have hil:(i:Int)<(l.length:Int):=zo
  have dil:decide ((i:Int)<(l.length:Int))=true:=zE hil;have bA:decide (i<l.length)=true:=zE hi;obtain⟨y,hy⟩:∃y,l[i]?=some y:=⟨l[i],getElem?_eq_getElem hi⟩
  obtain⟨b,o,yB,hbl,gA⟩:=vB.o.at0 (List.ne_nil_of_mem (List.mem_of_getElem? hy));obtain⟨dy,cy,hxy,kA⟩:=gA i y hy;obtain⟨k0,k1,k2,k3⟩:=kA _ (HKX.o _ xA.chg);have wk:=zI i;have hH:=HH.o.kid zd hy hxy xA.mr xA.chg xA.us;have HO:=Zh (hH.ok hk d);have ci:=sA.o y _ vars types _ _ _ wl ui (zu HN.o (KE (List.mem_of_getElem? hy))) hH;have yA:=Zh xA;have HY:=Zh hy;have HG:=Zh hg;clear hH xA hy hg gA kA hxy hbl;subst yB;go_wp2_with fail;refine ci.mono ?_;clear ci k0 k1 k2 k3
  cases hz:evK K d vars ui y with
  |fault er u6=>
   rintro e w6 ⟨uA,⟨vx,rfl⟩,hm6,hc6⟩;have pA:w6.cell? ⟨K.p,17,none⟩=some (Iv er):=Ja hm6.self 17;have bB:(er==0)=false:=zzq uA;have tA:(er !=0)=true:=by rw[bne,bB];rfl
   have cA:Hi (QkI K W c types l X (.returned Nl) w6):=by
    rw[Hi,<-HX.o,yA.o.fault HY.o hz];exact⟨uA,rfl,hm6,yA.o.chg.trans hc6⟩
   clear hm6 hc6 uA hz;go_wp2;go_ret;exact cA.o
  |val v u6=>
   rintro e w6 ⟨rfl,hm6,hc6⟩;have pA:w6.cell? ⟨K.p,17,none⟩=some (Iv 0):=Ja hm6.self 17;have mA:=HO.o;rw[hz]at mA;obtain⟨zB,eA,iA⟩:=mA;have hr6:=Jx yA.o.row hc6 (by have:=vA.o;simpa using this);have hq:Below w6.heap.size w6 (w6.alloc (.cells #[Iv v] 3)):=zzb.alloc zzl _;have nA:=Zh (JZ hr6 hq);have jA:=Zh (zzw w6 (.cells #[Iv v] 3));have HC6:Hi (Chg [K.p] W w6):=yA.o.chg.trans hc6;have hA:=Zh hm6;have HB7:=Zh hq;have HZ:=Zh hz;have HU:=Zh eA;have HV:=Zh iA;clear hz zB eA iA hr6 hq hm6 hc6 HO;go_wp2_with (at_builtin;go_loud (refine zV elI QeC QeB rfl _ _ rfl W.heap.size _ i _ rfl nA.o _ 1 1 [v] rfl (.inr (Vk (g:=gI) (x:=v) jA.o)) rfl zo (Nat.le_trans HC6.o.size HB7.o.size) ?_));intro v8 w8 zA hb8;have hbt:Below W.heap.size w6 w8:=(HB7.o.mono HC6.o.size).trans hb8;have dA:Chg [K.p] W w8:=QiO HC6.o hbt;have qA:QbG K w8 u6 c 0:=⟨(hbt.block _ vA.o).trans hA.o.self,HKX.o _ dA⟩
   have aA:Hi (LpG K c d vars types u l W (i+1) (vs++[v]) u6 v8 w8):=yA.o.step HY.o HZ.o HV.o HU.o qA dA zA;clear zA hb8 hbt dA qA nA jA HC6 hA HB7 HZ HU HV pA yA;go_wp2;go_roundg (l.length-(i+1))
   case measure=>have:=HG.o;omega
   case rel=>exact⟨i+1,by have:=HG.o;omega,by go_num,_,_,aA.o⟩
 ·have hil:¬(i:Int)<(l.length:Int):=zo
  have dil:decide ((i:Int)<(l.length:Int))=false:=zF hil;have bA:decide (i<l.length)=false:=zF hi;obtain rfl:i=l.length:=zo
  have cA:Hi (QkI K W c types l X (.returned (.slice oa l.length oc)) wl):=by
   rw[Hi,<-HX.o,xA.fin];have hi2:=QgQ xA.len xA.row vA.o;have he:=xA.len;refine⟨⟨oa,oc,by rw[he],by rw[he];exact hi2⟩,xA.mr,xA.chg,xA.us,he,xA.ok⟩
  clear xA hg;go_wp2;go_ret;exact cA.o
def EvG.any{K:Qar}{W:World}{c:Nat}{x:RN Int}{e:Ending}{w':World}(h:EvG K W c x e w'):∃v f,e=.returned (Iv v)/\QbG K w' x.used c f/\Chg [K.p] W w'/\∀W2 w2 c2,QbG K w2 x.used c2 f->Chg [K.p] W2 w2->EvG K W2 c2 x (.returned (Iv v)) w2:=by
 cases x with
 |val v u=>exact⟨v,0,h.1,h.2.1,h.2.2,λW2 w2 c2 h1 h2=>⟨rfl,h1,h2⟩⟩
 |fault er u=>obtain⟨h0,⟨v,h1⟩,h2,h3⟩:=h;exact⟨v,er,h1,h2,h3,λW2 w2 c2 g1 g2=>⟨h0,⟨v,rfl⟩,g1,g2⟩⟩
def Qme(K:Qar)(c d n:Nat):Prop:=∀(nn:Int)(s:By)(l:List Exp)(cs:Array Value)(vars types:List Int)(vv:Value)(Qad:Nat)(t:Int)(W:World)(u:Nat),Qaz (utL l)<=n->Qdp K c (.mk 20 nn s l) cs vars types vv Qad t W u->
 Calls prog 90 #[Pt K.p,.agg cs,vv] W (EvG K W c (evK K d vars u (.mk 20 nn s l)))
set_option maxHeartbeats 40000000 in
def QiJ(K:Qar)(hk:K.Ok)(c d n:Nat)(hcd:c+d=100)(IH:QcO K c d n)(IHB:∀d',d=d'+1->∀m,QcO K (c+1) d' m):Qme K c d n:=by
 intro nn s l cs vars xA vv Qad t W u hn h;obtain⟨ad,cc,rfl,dC,hK⟩:=h.x.kids;obtain⟨va,vc,rfl⟩:=h.ints.form';obtain⟨X,hX⟩:∃X,evK K d vars u (.mk 20 nn s l)=X:=⟨_,rfl⟩
 rw[hX];rw[JhM]at hX;have eB:=hX.symm;have HX:=Zh eB;have hb1:Below W.heap.size W (W.alloc (.cells #[Iv 20,Iv nn,Sv s,.slice ad l.length cc] 50)):=zzb.alloc zzl _;have HM1:=Zh (h.at'.up hb1);have HC1:Hi (Chg [K.p] W (W.alloc (.cells #[Iv 20,Iv nn,Sv s,.slice ad l.length cc] 50))):=Chg.of_below hb1 [K.p];have HCP:=Zh (zzw W (.cells #[Iv 20,Iv nn,Sv s,.slice ad l.length cc] 50));have HNE:Hi (W.heap.size≠K.p):=by have:=h.at'.lt;unfold Hi;omega
 have h1:Qdp K c (.mk 20 nn s l) #[Iv 20,Iv nn,Sv s,.slice ad l.length cc] vars xA (.slice va vars.length vc) Qad t (W.alloc (.cells #[Iv 20,Iv nn,Sv s,.slice ad l.length cc] 50)) u:=⟨h.nm,h.sz,h.x,h.fit,h.ty,h.vs,h.us,h.at'.up hb1,h.ints.chg (Chg.of_below hb1 [K.p])⟩
 have cv:=Qgp K hk c d n IH nn s l ad cc vars xA _ Qad t _ u hn h1;have HH:=Zh h;have xC:=Zh IHB
 have gB:0<=nn/\nn<((QbH K.r.sigs).length:Int):=by
  obtain⟨_,hf,_,_⟩:=J6 h.fit;unfold Qab at hf;simp at hf;exact⟨hf.1.1,hf.1.2⟩
 clear hb1 h hK hX eB IH IHB hn h1;obtain⟨i,rfl⟩:∃i:Nat,nn=i:=⟨nn.toNat,by omega⟩
 obtain⟨sg,xB⟩:∃sg,K.r.sigs[i]?=some sg:=⟨K.r.sigs[i]'(by have:=gB.2;rw[K6]at this;omega),getElem?_eq_getElem _⟩
 obtain⟨g,hg,kA,e1,e2⟩:=Jig xB;have vB:K.r.funcs.getD i Qmv=g:=by rw[List.getD_eq_getElem?_getD,hg];rfl
 have hil:(i:Int)<(K.r.funcs.length:Int):=by have:=(List.getElem?_eq_some_iff.1 hg).1;omega
 obtain⟨bf,of,pa,pc,da,dc,hfa,hfc⟩:=hk.fns.get hg;obtain⟨_,nB,dB,hsz⟩:=hk.rsz.fn g kA
 have cB:Hi (∀vs:List Int,vs.length=l.length->(∀(j:Nat)(v:Int)(y:Exp),vs[j]?=some v->l[j]?=some y->VOk (ofN K.r.sigs xA (utN y)).1 v)->Qel g.params vs):=by
  intro vs yA jA;obtain⟨h1,h2⟩:=Jeg HH.o.ty;have hs:K.r.sigs.getD (i:Int).toNat ⟨[],0⟩=sg:=by rw[Int.toNat_natCast,List.getD_eq_getElem?_getD,xB];rfl
  rw[hs,e1]at h1 h2;refine⟨by omega,λj t v ht hv=>?_⟩;obtain⟨y,hy⟩:∃y,l[j]?=some y:=⟨l[j]'(zt ((List.getElem?_eq_some_iff.1 hv).1)),getElem?_eq_getElem _⟩
  have:=jA j v y hv hy;rw[h2 j y t hy ht]at this;exact this
 have uC:Hi (∀vs av w' u',Qel g.params vs->QaP w' K.p av vs->QbG K w' u' (c+1) 0->u'<=10000->Qdp K (c+1) g.body #[Iv g.body.kind,Iv g.body.num,.string (bs g.body.name),.slice da g.body.kids.length dc] vs g.params av 40 g.result w' u'):=λvs av w' u' hv hi h1 h3=>
  ⟨dB,by have:=hv.1;omega,hfc.body,JfD hk.tr kA,Jdc hk.ty kA,hv,h3,h1,hi⟩
 have eA:=Zh hfc;have vA:K.fa=some ⟨bf,of,none⟩:=hfa;have yC:=Zh vA;have aC:=Zh vB;clear gB xB hg kA e1 e2 vB hfa hfc vA dB hsz nB;go_enter func90,ntmps90;go_upto_region 1 with fail;generalize World.alloc W _=w1 at*;generalize W.heap.size=eb at*
 have FF:Hi (∀W',Chg [K.p] w1 W'->W'.cell? ⟨eb,0,none⟩=some (Iv 20)/\W'.cell? ⟨eb,1,none⟩=some (Iv i)/\W'.cell? ⟨eb,2,none⟩=some (Sv s)/\W'.cell? ⟨eb,3,none⟩=some (.slice ad l.length cc)):=by
  intro W' hW;have hh:=hW.heap_some (by simp;exact HNE.o) HCP.o;refine⟨?_,?_,?_,?_⟩<;>(rw[Ja hh];rfl)
 obtain⟨b0,b1,b2,b3⟩:=FF.o _ (Chg.refl _ _);go_wp2_with fail;refine cv.mono ?_;clear cv b0 b1 b2 b3
 cases hz:QdZ K d vars u l with
 |fault er u6=>
  rintro e w6 ⟨nA,rfl,hm6,hc6⟩;have uA:w6.cell? ⟨K.p,17,none⟩=some (Iv er):=Ja hm6.self 17;have vC:(er==0)=false:=zzq nA;have sB:(er !=0)=true:=by rw[bne,vC];rfl
  have zA:Hi (EvG K W c X (.returned (Iv 0)) w6):=by
   rw[Hi,HX.o,hz,RN.bind_fault];exact⟨nA,⟨_,rfl⟩,hm6,HC1.o.trans hc6⟩
  clear hm6 hc6 nA hz;go_wp2;go_ret;exact zA.o
 |val vs u6=>
  rintro e w6 ⟨⟨oa,oc,rfl,jB⟩,hm6,hc6,qA,yA,jA⟩;have uA:w6.cell? ⟨K.p,17,none⟩=some (Iv 0):=Ja hm6.self 17;have cs:=QfD K hk w6 u6 c hm6 qA;have tB:=Zh (cB.o vs yA jA);have aB:=Zh jB;have HC6:=Zh hc6;have rA:=HX.o;rw[hz,RN.bind_val]at rA;have HX2:=Zh rA;have mB:=Zh qA;clear hz jB hm6 hc6 qA yA jA rA cB HX;go_wp2_with fail;refine cs.mono ?_;rintro e w7 ⟨rfl,hst,hc7⟩;have hA:=Zh (HC6.o.trans hc7);have iB:=Zh (aB.o.chg hc7);clear cs uA hc7 HC6 aB
  by_cases h:u6=10000
  ·rw[if_pos h]at hst;have uA:w7.cell? ⟨K.p,17,none⟩=some (Iv 14):=Ja hst.self 17
   have zA:Hi (EvG K W c X (.returned (Iv 0)) w7):=by
    rw[Hi,HX2.o]
    have:Qca K.r.funcs K.F d (i:Int) vs u6=.fault 14 u6:=by
     cases d<;>(unfold Qca;rw[if_pos h])
    rw[this];exact⟨by decide,⟨_,rfl⟩,hst,HC1.o.trans hA.o⟩
   clear hst h;go_wp2;go_ret;exact zA.o
  rw[if_neg h]at hst;have qB:Hi (u6+1<=10000):=by have:=mB.o;unfold Hi;omega
  have uA:w7.cell? ⟨K.p,17,none⟩=some (Iv 0):=Ja hst.self 17;have gA:w7.cell? ⟨K.p,16,none⟩=some (Iv c):=Ja hst.self 16;have bB:=Jc hst.self 17;have pA:=Jc hst.self 16;have hlt:=hst.lt
  cases d with
  |zero=>
   obtain rfl:c=100:=zo
   have uB:=hst.setF hk 7
   have zA:Hi (EvG K W 100 X (.returned (Iv 0)) (w7.setCell ⟨K.p,17,none⟩ (Iv 7))):=by
    rw[Hi,HX2.o]
    have:Qca K.r.funcs K.F 0 (i:Int) vs u6=.fault 7 (u6+1):=by
     unfold Qca;rw[if_neg h]
    rw[this];exact⟨by decide,⟨_,rfl⟩,uB,(HC1.o.trans hA.o).setCell (.inl zp) _⟩
   have aA:(w7.setCell ⟨K.p,17,none⟩ (Iv 7)).cell? ⟨K.p,17,none⟩=some (Iv 7):=Ja uB.self 17;have cA:=Zh aA;rw[show ((100:Nat):Int)=100 from rfl]at gA;clear hst h uB aA;go_upto_region 7 with fail;generalize World.setCell w7 _ _=w8 at*;have uA:=cA.o;go_wp2;go_ret;exact zA.o
  |succ d=>
  have yB:((c:Int)==100)=false:=zzq zo;have dA:(c==100)=false:=zzq zo;have bC:=zI c;have tA:=hst.setC hk (c+1);have hc3:Chg [K.p] w1 (w7.setCell ⟨K.p,16,none⟩ (Iv ((c+1:Nat):Int))):=hA.o.setCell (.inl zp) _;rw[Int.natCast_add,Int.natCast_one]at tA hc3;have zC:=Zh tA;have HC3:=Zh hc3;have rB:=Zh (iB.o.chg ((Chg.refl [K.p] w7).setCell (p:=⟨K.p,16,none⟩) (.inl zp) (Iv ((c:Int)+1))))
  have HX3:Hi (X=evK K d vs (u6+1) g.body):=by
   rw[Hi,HX2.o];unfold Qca;rw[if_neg h,Int.toNat_natCast,aC.o];rfl
  go_upto_region 10 with fail;generalize World.setCell w7 _ _=w3 at*
  have sA:Hi (∀W' u' f,QbG K W' u' (c+1) f->Chg [K.p] w1 W'->(W'.cell? ⟨K.p,0,none⟩=some (.slice (some ⟨bf,of,none⟩) K.r.funcs.length K.fc)/\W'.cell? ⟨eb,1,none⟩=some (Iv i)/\W'.cell? ⟨bf,of+i*7+3,none⟩=some (Iv g.body.kind)/\W'.cell? ⟨bf,of+i*7+4,none⟩=some (Iv g.body.num)/\W'.cell? ⟨bf,of+i*7+5,none⟩=some (.string (bs g.body.name))/\W'.cell? ⟨bf,of+i*7+6,none⟩=some (.slice da g.body.kids.length dc))):=by
   intro W' u' f hM hC;have b0:W'.cell? ⟨K.p,0,none⟩=some (.slice K.fa K.r.funcs.length K.fc):=Ja hM.self 0;rw[yC.o]at b0;have iA:∀j u,K.w0.cell? ⟨bf,of+i*7+j,none⟩=some u->W'.cell? ⟨bf,of+i*7+j,none⟩=some u:=λj u hu=>(hM.bel.cell (p:=⟨bf,of+i*7+j,none⟩) eA.o.blt).trans hu
   exact⟨b0,(FF.o _ hC).2.1,iA 3 _ eA.o.c3,iA 4 _ eA.o.c4,iA 5 _ eA.o.c5,iA 6 _ eA.o.c6⟩
  have zB:=Zh zC.o.drew;have mA:Hi (Chg [K.p] w1 w3.drew):=HC3.o.trans (Chg.of_below (Below.refl w3.heap.size w3).drew [K.p]);have hB:=Zh (rB.o.chg (Chg.of_below (Below.refl w3.heap.size w3).drew [K.p]));refine wp_region_held_drew (S:=(λW'=>Chg [K.p] w1 W'/\(W'.cell? ⟨K.p,0,none⟩=some (.slice (some ⟨bf,of,none⟩) K.r.funcs.length K.fc)/\W'.cell? ⟨eb,1,none⟩=some (Iv i)/\W'.cell? ⟨bf,of+i*7+3,none⟩=some (Iv g.body.kind)/\W'.cell? ⟨bf,of+i*7+4,none⟩=some (Iv g.body.num)/\W'.cell? ⟨bf,of+i*7+5,none⟩=some (.string (bs g.body.name))/\W'.cell? ⟨bf,of+i*7+6,none⟩=some (.slice da g.body.kids.length dc)))) zk (⟨mA.o,sA.o _ _ _ zB.o mA.o⟩) λhHeld=>?_;refine wpAnyH_take (i:=0) (oi:={dst:=some 48,op:=Go.Op.move (Go.Operand.tmp 0),type:=86,pos:="ref.go:155",after:=#[],guard:=none}) (v:=?vT1_0) rfl zk zk zk (λ_ _ _ h=>h) (Or.inl ⟨by rfl,?yT1_0⟩) (by assumption) ?_
  case yT1_0=>(intro wX hSw;(try dsimp only at hSw);go_simp<;>with_reducible rfl)
  refine wpAnyH_take (i:=1) (oi:={dst:=some 49,op:=Go.Op.move (Go.Operand.tmp 0),type:=86,pos:="ref.go:155",after:=#[],guard:=none}) (v:=?vT1_1) rfl zk zk zk (λ_ _ _ h=>h) (Or.inl ⟨by rfl,?yT1_1⟩) (by assumption) ?_
  case yT1_1=>(intro wX hSw;(try dsimp only at hSw);go_simp<;>with_reducible rfl)
  refine wpAnyH_take (i:=2) (oi:={dst:=some 50,op:=Go.Op.nilCheck (Go.Operand.tmp 49),type:=0,pos:="ref.go:155",after:=#[{on:=1,ground:=Go.Ground.data}],guard:=none}) (v:=?vT1_2) rfl zk zk zk (λ_ _ _ h=>h) (Or.inl ⟨by rfl,?yT1_2⟩) (by assumption) ?_
  case yT1_2=>(intro wX hSw;(try dsimp only at hSw);go_simp<;>with_reducible rfl)
  refine wpAnyH_take (i:=3) (oi:={dst:=some 51,op:=Go.Op.fieldAddr 88 (Go.Operand.tmp 50) 0,type:=0,pos:="ref.go:155",after:=#[{on:=2,ground:=Go.Ground.data}],guard:=none}) (v:=?vT1_3) rfl zk zk zk (λ_ _ _ h=>h) (Or.inl ⟨by rfl,?yT1_3⟩) (by assumption) ?_
  case yT1_3=>(intro wX hSw;(try dsimp only at hSw);go_simp<;>with_reducible rfl)
  refine wpAnyH_take (i:=4) (oi:={dst:=some 52,op:=Go.Op.fieldAddr 30 (Go.Operand.tmp 51) 0,type:=0,pos:="ref.go:155",after:=#[{on:=3,ground:=Go.Ground.data}],guard:=none}) (v:=?vT1_4) rfl zk zk zk (λ_ _ _ h=>h) (Or.inl ⟨by rfl,?yT1_4⟩) (by assumption) ?_
  case yT1_4=>(intro wX hSw;(try dsimp only at hSw);go_simp<;>with_reducible rfl)
  refine wpAnyH_take (i:=5) (oi:={dst:=some 53,op:=Go.Op.load 27 (Go.Operand.tmp 52),type:=27,pos:="ref.go:155",after:=#[{on:=4,ground:=Go.Ground.data}],guard:=none}) (v:=?vT1_5) rfl zk zk zk (λ_ _ _ h=>h) (Or.inl ⟨by rfl,?yT1_5⟩) (by assumption) ?_
  case yT1_5=>(intro wX hSw;(try dsimp only at hSw);go_simp<;>with_reducible rfl)
  refine wpAnyH_take (i:=6) (oi:={dst:=some 54,op:=Go.Op.fieldAddr 50 (Go.Operand.tmp 4) 1,type:=0,pos:="ref.go:155",after:=#[],guard:=none}) (v:=?vT1_6) rfl zk zk zk (λ_ _ _ h=>h) (Or.inl ⟨by rfl,?yT1_6⟩) (by assumption) ?_
  case yT1_6=>(intro wX hSw;(try dsimp only at hSw);go_simp<;>with_reducible rfl)
  refine wpAnyH_take (i:=7) (oi:={dst:=some 55,op:=Go.Op.load 3 (Go.Operand.tmp 54),type:=3,pos:="ref.go:155",after:=#[{on:=6,ground:=Go.Ground.data}],guard:=none}) (v:=?vT1_7) rfl zk zk zk (λ_ _ _ h=>h) (Or.inl ⟨by rfl,?yT1_7⟩) (by assumption) ?_
  case yT1_7=>(intro wX hSw;(try dsimp only at hSw);go_simp<;>with_reducible rfl)
  refine wpAnyH_take (i:=8) (oi:={dst:=some 56,op:=Go.Op.indexAddr 27 (Go.Operand.tmp 53) (Go.Operand.tmp 55),type:=0,pos:="ref.go:155",after:=#[{on:=5,ground:=Go.Ground.data},{on:=7,ground:=Go.Ground.data}],guard:=none}) (v:=?vT1_8) rfl zk zk zk (λ_ _ _ h=>h) (Or.inl ⟨by rfl,?yT1_8⟩) (by assumption) ?_
  case yT1_8=>(intro wX hSw;(try dsimp only at hSw);go_simp<;>with_reducible rfl)
  refine wpAnyH_take (i:=9) (oi:={dst:=some 57,op:=Go.Op.fieldAddr 79 (Go.Operand.tmp 56) 3,type:=0,pos:="ref.go:155",after:=#[{on:=8,ground:=Go.Ground.data}],guard:=none}) (v:=?vT1_9) rfl zk zk zk (λ_ _ _ h=>h) (Or.inl ⟨by rfl,?yT1_9⟩) (by assumption) ?_
  case yT1_9=>(intro wX hSw;(try dsimp only at hSw);go_simp<;>with_reducible rfl)
  refine wpAnyH_take (i:=10) (oi:={dst:=some 58,op:=Go.Op.load 50 (Go.Operand.tmp 57),type:=50,pos:="ref.go:155",after:=#[{on:=9,ground:=Go.Ground.data}],guard:=none}) (v:=?vT1_10) rfl zk zk zk (λ_ _ _ h=>h) (Or.inl ⟨by rfl,?yT1_10⟩) (by assumption) ?_
  case yT1_10=>(intro wX hSw;(try dsimp only at hSw);go_simp<;>with_reducible rfl)
  refine wpAnyH_take (i:=11) (oi:={dst:=some 59,op:=Go.Op.move (Go.Operand.tmp 7),type:=55,pos:="ref.go:155",after:=#[],guard:=none}) (v:=?vT1_11) rfl zk zk zk (λ_ _ _ h=>h) (Or.inl ⟨by rfl,?yT1_11⟩) (by assumption) ?_
  case yT1_11=>(intro wX hSw;(try dsimp only at hSw);go_simp<;>with_reducible rfl)
  refine wpAnyH_ready (rs:=[12]) zk zp (AllReadyH.cons (o:={dst:=some 60,op:=Go.Op.call {callee:=Go.Callee.value (Go.Operand.func 45),args:=#[Go.Operand.tmp 48,Go.Operand.tmp 58,Go.Operand.tmp 59],argTypes:=#[86,50,55]},type:=3,pos:="ref.go:155",after:=#[{on:=0,ground:=Go.Ground.data},{on:=10,ground:=Go.Ground.data},{on:=11,ground:=Go.Ground.data}],guard:=none}) rfl (λK hK=>?_) AllReadyH.nil);have hH:=uC.o vs _ w3.drew (u6+1) tB.o hB.o zB.o qB.o;have ci:=xC.o d rfl _ g.body _ vs g.params _ _ _ w3.drew (u6+1) zzl hH;clear hH
  (go_simp;go_at_call 45;refine ci.mono ?_;intro e w9 h9)
  rw[<-HX3.o]at h9;obtain⟨v9,f9,rfl,hm9,hc9,bA⟩:=h9.any;have HM9:=Zh hm9;have HC9:=Zh (mA.o.trans hc9);have kB:=Zh bA;clear ci h9 hm9 hc9 bA;refine zU hK (⟨HC9.o,sA.o _ _ _ HM9.o HC9.o⟩) λhHeld=>?_;clear hK K
  refine wpAnyH_take (i:=13) (oi:={dst:=some 8,op:=Go.Op.assign (Go.Operand.tmp 60),type:=3,pos:="ref.go:155",after:=#[{on:=12,ground:=Go.Ground.data},{on:=12,ground:=Go.Ground.chain},{on:=0,ground:=Go.Ground.phase},{on:=1,ground:=Go.Ground.phase},{on:=2,ground:=Go.Ground.phase},{on:=3,ground:=Go.Ground.phase},{on:=4,ground:=Go.Ground.phase},{on:=5,ground:=Go.Ground.phase},{on:=6,ground:=Go.Ground.phase},{on:=7,ground:=Go.Ground.phase},{on:=8,ground:=Go.Ground.phase},{on:=9,ground:=Go.Ground.phase},{on:=10,ground:=Go.Ground.phase},{on:=11,ground:=Go.Ground.phase},{on:=12,ground:=Go.Ground.phase}],guard:=none}) (v:=?vT2_13) rfl zk zk zk (λ_ _ _ h=>h) (Or.inl ⟨by rfl,?yT2_13⟩) (by assumption) ?_
  case yT2_13=>(intro wX hSw;(try dsimp only at hSw);go_simp<;>with_reducible rfl)
  refine wpAnyH_done zk ?_ _;have gA:w9.cell? ⟨K.p,16,none⟩=some (Iv ((c:Int)+1)):=Ja HM9.o.self 16;have pA:=Jc HM9.o.self 16;have hlt:=HM9.o.lt;have cC:IntKind.i64.wrap ((c:Int)+1-1)=(c:Int):=by rw[IntWalk.i64_in _ zo];omega
  have pB:(c:Int)+1-1=(c:Int):=zo
  have zA:Hi (EvG K W c X (.returned (Iv v9)) (w9.setCell ⟨K.p,16,none⟩ (Iv c))):=kB.o _ _ _ (HM9.o.setC hk c) ((HC1.o.trans HC9.o).setCell (.inl zp) _);clear hHeld HM9 HC9 kB zB mA hB sA;go_wp2;go_ret;exact zA.o
def Qjs(K:Qar)(hk:K.Ok)(c d n:Nat)(HCA:Qme K c d n)(nn:Int)(s:By)(l:List Exp)(cs:Array Value)(vars types:List Int)(vv:Value)(Qad:Nat)(t:Int)(W:World)(u:Nat)(hn:Qaz (utL l)<=n)(h:Qdp K c (.mk 20 nn s l) cs vars types vv Qad t W u):
  Calls prog 45 #[Pt K.p,.agg cs,vv] W (EvG K W c (evK K d vars u (.mk 20 nn s l))):=by
 obtain⟨ad,cc,rfl,zA,hK⟩:=h.x.kids;obtain⟨va,vc,rfl⟩:=h.ints.form';obtain⟨X,hX⟩:∃X,evK K d vars u (.mk 20 nn s l)=X:=⟨_,rfl⟩
 rw[hX];have HX:=Zh hX;have hb1:Below W.heap.size W (W.alloc (.cells #[Iv 20,Iv nn,Sv s,.slice ad l.length cc] 50)):=zzb.alloc zzl _;have HM1:=Zh (h.at'.up hb1);have HC1:Hi (Chg [K.p] W (W.alloc (.cells #[Iv 20,Iv nn,Sv s,.slice ad l.length cc] 50))):=Chg.of_below hb1 [K.p];have HCP:=Zh (zzw W (.cells #[Iv 20,Iv nn,Sv s,.slice ad l.length cc] 50));have HNE:Hi (W.heap.size≠K.p):=by have:=h.at'.lt;unfold Hi;omega
 have HH:=Zh h;have HN:=Zh hn;go_enter func45,ntmps45;go_upto_region 1 with fail;generalize World.alloc W _=w1 at*;generalize W.heap.size=eb at*
 have FF:Hi (∀W',Chg [K.p] w1 W'->W'.cell? ⟨eb,0,none⟩=some (Iv 20)/\W'.cell? ⟨eb,1,none⟩=some (Iv nn)/\W'.cell? ⟨eb,2,none⟩=some (Sv s)/\W'.cell? ⟨eb,3,none⟩=some (.slice ad l.length cc)):=by
  intro W' hW;have hh:=hW.heap_some (by simp;exact HNE.o) HCP.o;refine⟨?_,?_,?_,?_⟩<;>(rw[Ja hh];rfl)
 obtain⟨b0,b1,b2,b3⟩:=FF.o _ (Chg.refl _ _);have h1:Qdp K c (.mk 20 nn s l) #[Iv 20,Iv nn,Sv s,.slice ad l.length cc] vars types (.slice va vars.length vc) Qad t w1 u:=⟨HH.o.nm,HH.o.sz,HH.o.x,HH.o.fit,HH.o.ty,HH.o.vs,HH.o.us,HM1.o,HH.o.ints.chg HC1.o⟩
 have cf:=HCA nn s l _ vars types _ Qad t w1 u HN.o h1;rw[HX.o]at cf;go_wp2_with fail;refine cf.mono ?_;intro e w2 h2;have xA:=EvG.back HC1.o h2;obtain⟨v9,f9,rfl,_,_,_⟩:=xA.any;have yA:=Zh xA;go_wp2;go_ret;exact yA.o
def Qfg(K:Qar)(hk:K.Ok)(c d:Nat)(hcd:c+d=100)(IHB:∀d',d=d'+1->∀m,QcO K (c+1) d' m):∀n,QcO K c d n
 |0=>λe cs vars types vv Qad t W u hn h=>by
  have:=KN (utN e);omega
 |n+1=>λe cs vars types vv Qad t W u hn h=>by
  have IH:=Qfg K hk c d hcd IHB n;obtain⟨k,nn,s,l⟩:=e;have xA:Qaz (utL l)<=n:=by rw[utN,JA]at hn;omega
  obtain⟨_,hf,ha,_⟩:=J6 h.fit
  have yA:l.length=1->∃a,l=[a]:=λh=>by
   match l,h with
   |[a],_=>exact⟨a,rfl⟩
  rcases Jbb hf with rfl|rfl|rfl|rfl|rfl|rfl|rfl|rfl|h8|rfl|rfl|rfl|rfl|rfl|rfl
  ·exact Qkx K hk c d n IH nn s l cs vars types vv Qad t W u xA h
  ·exact Qjt K hk c d n IH nn s l cs vars types vv Qad t W u xA h
  ·exact Qkt K hk c d n IH nn s l cs vars types vv Qad t W u xA h
  ·exact Qjr K hk c d n IH nn s l cs vars types vv Qad t W u xA h
  ·exact QiH K hk c d n IH nn s l cs vars types vv Qad t W u xA h
  ·exact Qjq K hk c d n IH nn s l cs vars types vv Qad t W u xA h
  ·obtain⟨a,rfl⟩:=yA ha;exact Qkv K hk c d n IH nn s a cs vars types vv Qad t W u xA h
  ·obtain⟨a,rfl⟩:=yA ha;exact Qku K hk c d n IH nn s a cs vars types vv Qad t W u xA h
  ·have h2:l.length=2:=by
    rw[ha];unfold Qbi;rw[if_neg zo,if_neg zo,if_neg zo,if_neg zo]
   obtain⟨a,b,rfl⟩:=KD h2;exact QiG K hk c d n IH k nn s a b cs vars types vv Qad t W u xA h ⟨h8.1,by omega⟩
  ·obtain⟨a,b,rfl⟩:=KD (show l.length=2 from ha);exact QiG K hk c d n IH 15 nn s a b cs vars types vv Qad t W u xA h ⟨by decide,by decide⟩
  ·obtain⟨a,b,rfl⟩:=KD (show l.length=2 from ha);exact Qky K hk c d n IH nn s a b cs vars types vv Qad t W u xA h
  ·obtain⟨a,b,rfl⟩:=KD (show l.length=2 from ha);exact QlQ K hk c d n IH nn s a b cs vars types vv Qad t W u xA h
  ·obtain⟨z,a,b,rfl⟩:=Zu (show l.length=3 from ha);exact QlR K hk c d n IH nn s z a b cs vars types vv Qad t W u xA h
  ·obtain⟨a,b,rfl⟩:=KD (show l.length=2 from ha);exact Qkw K hk c d n IH nn s a b cs vars types vv Qad t W u xA h
  ·exact Qjs K hk c d n (QiJ K hk c d n hcd IH IHB) nn s l cs vars types vv Qad t W u xA h
def QiI(K:Qar)(hk:K.Ok):∀d c,c+d=100->∀n,QcO K c d n
 |0,c,h=>Qfg K hk c 0 h (λd' h=>by cases h)
 |d+1,c,h=>Qfg K hk c (d+1) h (λd' h'=>by
  obtain rfl:d=d':=zo
  exact QiI K hk d (c+1) zo)
mutual
def Qfp:Exp->Nat
 |.mk _ _ _ l=>Qek l+1
def Qek:List Exp->Nat
 |[]=>0
 |a::l=>max (Qfp a) (Qek l)
end
def Qfi(k n:Int)(s:By)(l:List Exp):Qfp (.mk k n s l)=Qek l+1:=by conv=>lhs;unfold Qfp
def Qbu(a:Exp)(l:List Exp):Qek (a::l)=max (Qfp a) (Qek l):=by conv=>lhs;unfold Qek
def Qfj:∀{l:List Exp}{a:Exp},a∈l->Qfp a<=Qek l
 |b::l,a,h=>by
  rw[Qbu]
  rcases List.mem_cons.1 h with rfl|h
  ·omega
  ·have:=Qfj h;omega
def Qgs:∀{l:List Exp}{n:Nat},(∀a∈l,Qfp a<=n)->Qek l<=n
 |[],n,h=>by unfold Qek;omega
 |b::l,n,h=>by
  rw[Qbu];have h1:=h b zp;have h2:=Qgs (l:=l) (n:=n) λa ha=>h a (by simp[ha])
  omega
def QfX(nf many:Nat)(k:Int)(i:Nat):shL nf many k i []=true:=by unfold shL;rfl
def QfY{nf many:Nat}{k:Int}(hk:k≠19):∀{l:List Exp}{i:Nat},shL nf many k i l=true->∀a∈l,shN nf many a=true
 |[],_,_,a,ha=>by cases ha
 |b::l,i,h,a,ha=>by
  rw[Qbn,if_neg λh=>hk h.1,Bool.and_eq_true]at h
  rcases List.mem_cons.1 ha with rfl|ha
  ·exact h.1
  ·exact QfY hk h.2 a ha
def QgX{pa:List Nat}{m Qad:Nat}{k:Int}(hk:k≠19):∀{l:List Exp}{i:Nat},(∀a∈l,QaC pa m Qad a=true)->QaD pa m Qad k i l=true
 |[],_,_=>by unfold QaD;rfl
 |b::l,i,h=>by
  unfold QaD;rw[if_neg λh=>hk h.1,Bool.and_eq_true];exact⟨h b zp,QgX hk λa ha=>h a (by simp[ha])⟩
def Qjz{nf m:Nat}{k:Int}(hk:k≠19):∀{l:List Exp}{i:Nat},(∀a∈l,shN nf m a=true)->shL nf m k i l=true
 |[],_,_=>QfX _ _ _ _
 |b::l,i,h=>by
  rw[Qbn,if_neg λh=>hk h.1,Bool.and_eq_true];exact⟨h b zp,Qjz hk λa ha=>h a (by simp[ha])⟩
def QfJ{pa:List Nat}{m Qad:Nat}{k:Int}(hk:k≠19):∀{l:List Exp}{i:Nat},QaD pa m Qad k i l=true->∀a∈l,QaC pa m Qad a=true
 |[],_,_,a,ha=>by cases ha
 |b::l,i,h,a,ha=>by
  unfold QaD at h;rw[if_neg λh=>hk h.1,Bool.and_eq_true]at h
  rcases List.mem_cons.1 ha with rfl|ha
  ·exact h.1
  ·exact QfJ hk h.2 a ha
def Qjw{fs:List Qau}{vars:List Int}{n:Int}{s:By}{l:List Exp}(h:(ofN fs vars (utN (.mk 20 n s l))).2=[]):l.length=(fs.getD n.toNat ⟨[],0⟩).params.length:=by
 rw[utN,YX]at h;simp only[show ¬((20:Int)=1\/(20:Int)=5) by decide,show ¬(20:Int)=2 by decide,show ¬(20:Int)=3 by decide,show ¬((20:Int)=6\/(8<=(20:Int)/\(20:Int)<=12)) by decide,show ¬((20:Int)=13\/(20:Int)=14) by decide,show ¬(20:Int)=15 by decide,show ¬((20:Int)=7\/(20:Int)=16\/(20:Int)=17) by decide,show ¬(20:Int)=18 by decide,show ¬(20:Int)=19 by decide,if_false,if_true]at h;have h2:=(List.append_eq_nil_iff.1 h).1
 by_cases hl:(utL l).length≠(fs.getD n.toNat ⟨[],0⟩).params.length
 ·rw[if_pos hl]at h2;cases h2
 ·rw[JR]at hl;exact Decidable.not_not.1 hl
def Qgj{fs:List Qau}{vars:List Int}{n:Int}{s:By}{a b:Exp}:(ofN fs vars (utN (.mk 19 n s [a,b])))=((ofN fs (vars++[(ofN fs vars (utN a)).1]) (utN b)).1,(ofN fs vars (utN a)).2++(ofN fs (vars++[(ofN fs vars (utN a)).1]) (utN b)).2):=by
 rw[utN,utL,utL,utL,YX];simp only[show ¬((19:Int)=1\/(19:Int)=5) by decide,show ¬(19:Int)=2 by decide,show ¬(19:Int)=3 by decide,show ¬((19:Int)=6\/(8<=(19:Int)/\(19:Int)<=12)) by decide,show ¬((19:Int)=13\/(19:Int)=14) by decide,show ¬(19:Int)=15 by decide,show ¬((19:Int)=7\/(19:Int)=16\/(19:Int)=17) by decide,show ¬(19:Int)=18 by decide,if_false,if_true]
mutual
def QhZ(fs:List Qau):∀(e:Exp)(vars:List Int)(Qad:Nat),shN fs.length vars.length e=true->Qfp e<=Qad->(ofN fs vars (utN e)).2=[]->QaC (QbH fs) vars.length Qad e=true
 |.mk k n s l,vars,Qad,h1,h2,h3=>by
  have hl:=QgC fs l;obtain⟨hf,hk,hlen,hs⟩:=QaS h1;rw[Qfi]at h2;have h3':=h3;rw[utN]at h3'
  have hkids:k≠19->∀a∈l,(ofN fs vars (utN a)).2=[]:=λh19 a ha=>
   Jcr h3' h19 hk (λh20=>by rw[JR];exact hlen h20) (utN a) (by rw[Jfv];exact List.mem_map.2 ⟨a,ha,rfl⟩)
  have har:l.length=Qbi (QbH fs) k n:=by
   by_cases h20:k=20
   ·subst h20;rw[Qjw h3];unfold Qbi;rw[if_neg (by decide),if_neg (by decide),if_neg (by decide),if_pos rfl];unfold QbH;rw[List.getD_eq_getElem?_getD,List.getD_eq_getElem?_getD,List.getElem?_map]
    cases fs[n.toNat]?<;>rfl
   ·rw[hlen h20,Jkm hk h20]
  unfold QaC;simp only[Bool.and_eq_true,decide_eq_true_eq,beq_iff_eq];refine⟨⟨⟨by omega,by rw[K6];exact hf⟩,har⟩,?_⟩
  by_cases h19:k=19
  ·subst h19;have h2l:l.length=2:=by rw[hlen (by decide)];rfl
   obtain⟨a,b,hab⟩:=KD h2l;have ha:=hl a (by rw[hab];simp);have hb:=hl b (by rw[hab];simp);rw[hab]at h3 hs h2;rw[Qgj]at h3;obtain⟨g1,g2⟩:=List.append_eq_nil_iff.1 h3;rw[Qbn,Qbn,if_neg (by simp),if_pos ⟨rfl,rfl⟩,Bool.and_eq_true,Bool.and_eq_true]at hs;rw[Qbu,Qbu]at h2;rw[hab];unfold QaD QaD QaD;rw[if_neg (by simp),if_pos ⟨rfl,rfl⟩,Bool.and_eq_true,Bool.and_eq_true];refine⟨ha vars _ hs.1 (by omega) g1,?_,rfl⟩;have:=hb (vars++[(ofN fs vars (utN a)).1]) (Qad-1) (by rw[length_append,List.length_singleton];exact hs.2.1) (by omega) g2;rw[length_append,List.length_singleton]at this;exact this
  ·exact QgX h19 λa ha=>hl a ha vars _ (QfY h19 hs a ha) (by have:=Qfj ha;omega) (hkids h19 a ha)
def QgC(fs:List Qau):∀(l:List Exp),∀a∈l,∀(vars:List Int)(Qad:Nat),shN fs.length vars.length a=true->Qfp a<=Qad->(ofN fs vars (utN a)).2=[]->QaC (QbH fs) vars.length Qad a=true
 |[],a,ha=>by cases ha
 |b::l,a,ha=>by
  rcases List.mem_cons.1 ha with h|h
  ·rw[h];exact QhZ fs b
  ·exact QgC fs l a h
end
mutual
def QiK(pa:List Nat):∀(e:Exp)(m Qad:Nat),QaC pa m Qad e=true->shN pa.length m e=true/\Qfp e<=Qad
 |.mk k n s l,m,Qad,h=>by
  have hl:=QgW pa l;obtain⟨hn,hf,ha,hL⟩:=J6 h
  have hk:0<=k/\k<21:=by
   unfold Qab at hf;simp only[Bool.and_eq_true,decide_eq_true_eq]at hf;exact⟨hf.1.2,hf.2⟩
  have hlen:k≠20->l.length=ar0 k:=λh20=>by rw[ha,Jkm hk h20]
  rw[Qia,Qfi,Bool.and_eq_true,Bool.and_eq_true,Bool.or_eq_true,beq_iff_eq,beq_iff_eq]
  have h20:k=20\/l.length=ar0 k:=by
   by_cases h20:k=20
   ·exact .inl h20
   ·exact .inr (hlen h20)
  by_cases h19:k=19
  ·subst h19;obtain⟨a,b,hab⟩:=KD (show l.length=2 by rw[hlen (by decide)];rfl);have hla:=hl a (by rw[hab];simp);have hlb:=hl b (by rw[hab];simp);rw[hab]at hL;obtain⟨g1,g2⟩:=KJ hL;rw[if_pos rfl]at g2;have ea:=hla _ _ g1;have eb:=hlb _ _ g2;rw[hab]at h20 |-;refine⟨⟨⟨hf,h20⟩,?_⟩,?_⟩
   ·rw[Qbn,Qbn,if_neg (by simp),if_pos ⟨rfl,rfl⟩,ea.1,eb.1,QfX];rfl
   ·rw[Qbu,Qbu];have h0:Qek []=0:=by unfold Qek;rfl
    omega
  ·have hm:=QfJ h19 hL;refine⟨⟨⟨hf,h20⟩,Qjz h19 λa ha=>(hl a ha _ _ (hm a ha)).1⟩,?_⟩;have:=Qgs (l:=l) (n:=Qad-1) λa ha=>(hl a ha _ _ (hm a ha)).2
   omega
def QgW(pa:List Nat):∀(l:List Exp),∀a∈l,∀(m Qad:Nat),QaC pa m Qad a=true->shN pa.length m a=true/\Qfp a<=Qad
 |[],a,ha=>by cases ha
 |b::l,a,ha=>by
  rcases List.mem_cons.1 ha with h|h
  ·rw[h];exact QiK pa b
  ·exact QgW pa l a h
end
def Qct(fs:List Qau)(vars:List Int)(e:Exp)(t:Int):Bool:=decide (Qfp e<=40)&&shN fs.length vars.length e&&decide ((ofN fs vars (utN e)).2=[])&&decide ((ofN fs vars (utN e)).1=t)
def Qgf{fs:List Qau}{vars:List Int}{e:Exp}{t:Int}:Qct fs vars e t=(QaC (QbH fs) vars.length 40 e&&(QcW fs vars t (utN e)==[])):=by
 rw[Bool.eq_iff_iff];unfold Qct QcW;simp only[Bool.and_eq_true,decide_eq_true_eq,beq_iff_eq,List.append_eq_nil_iff]
 constructor
 ·rintro⟨⟨⟨h1,h2⟩,h3⟩,h4⟩;exact⟨QhZ fs e vars 40 h2 h1 h3,h3,by rw[if_neg λh=>h h4]⟩
 ·rintro⟨h1,h2,h3⟩;obtain⟨g1,g2⟩:=QiK _ e _ _ h1;rw[K6]at g1;refine⟨⟨⟨g2,g1⟩,h2⟩,?_⟩
  by_cases h:(ofN fs vars (utN e)).1=t
  ·exact h
  ·rw[if_pos h]at h3;cases h3
def Qfw(r:Qah):Bool:=QaZ [] r.funcs&&QdU r.action&&r.funcs.all (λf=>Qct r.sigs f.params f.body f.result)&&r.clauses.all λc=>QdU c.action&&QbM c.reason&&Qct r.sigs [] c.cond 1
def Qij(r:Qah):Qfw r=QbJ r:=by
 rw[Bool.eq_iff_iff];unfold Qfw QbJ QbI QbX QkE;simp only[Qgf,Bool.and_eq_true,List.all_eq_true,Zx]
 constructor
 ·rintro⟨⟨⟨h1,h2⟩,h3⟩,h4⟩;exact⟨⟨⟨⟨h1,λc hc=>(h4 c hc).1⟩,h2⟩,λf hf=>(h3 f hf).1,λc hc=>(h4 c hc).2.1⟩,λf hf=>(h3 f hf).2,λc hc=>(h4 c hc).2.2⟩
 ·rintro⟨⟨⟨⟨h1,h2⟩,h3⟩,h4,h5⟩,h6,h7⟩;exact⟨⟨⟨h1,h3⟩,λf hf=>⟨h4 f hf,h6 f hf⟩⟩,λc hc=>⟨h2 c hc,h5 c hc,h7 c hc⟩⟩
def Qhg(c d:UInt8):c=d↔c.toNat=d.toNat:=⟨λh=>by rw[h],λh=>UInt8.toNat_inj.1 h⟩
def Qhq(c:UInt8)(w:World):Calls prog 149 #[.int .u8 (c.toNat:Nat)] w (Qbj (.bool (Qew c)) w):=by
 have hi:Qew c=true↔c.toNat=9\/c.toNat=10\/c.toNat=13\/c.toNat=32:=by
  simp only[Qew,Bool.or_eq_true,beq_iff_eq,Qhg,or_assoc];exact Iff.rfl
 have hx:=c.toNat_lt;generalize c.toNat=x at*
 by_cases h:x=9\/x=10\/x=13\/x=32
 ·have H:=Zh (hi.2 h)
  rcases h with rfl|rfl|rfl|rfl
  all_goals
   go_enter func149,ntmps149;go_wp2;go_ret;exact⟨by rw[H.o];rfl,rfl⟩
 ·have H:Hi (Qew c=false):=by
   unfold Hi
   cases hq:Qew c with
   |false=>rfl
   |true=>exact absurd (hi.1 hq) h
  have n9:((x:Int)==9)=false:=zzq zo;have xA:((x:Int)==10)=false:=zzq zo;have yA:((x:Int)==13)=false:=zzq zo;have zA:((x:Int)==32)=false:=zzq zo;go_enter func149,ntmps149;go_wp2;go_ret;exact⟨by rw[H.o];rfl,rfl⟩
def Qce(c:UInt8)(w:World):Calls prog 160 #[.int .u8 (c.toNat:Nat)] w (Qbj (.bool (Qdg c)) w):=by
 have hx:=c.toNat_lt
 by_cases h1:97<=c.toNat
 ·have b1:decide (97<=(c.toNat:Int))=true:=zE zo
  by_cases h2:c.toNat<=122
  ·have H:Hi (Qdg c=true):=by unfold Hi;simp[Qdg,h1,h2]
   have b2:decide ((c.toNat:Int)<=122)=true:=zE zo;generalize c.toNat=x at*;go_enter func160,ntmps160;go_wp2;go_ret;exact⟨by rw[H.o];rfl,rfl⟩
  ·have H:Hi (Qdg c=false):=by unfold Hi;simp[Qdg,h2]
   have b2:decide ((c.toNat:Int)<=122)=false:=zF zo;generalize c.toNat=x at*;go_enter func160,ntmps160;go_wp2;go_ret;exact⟨by rw[H.o];rfl,rfl⟩
 ·have H:Hi (Qdg c=false):=by unfold Hi;simp[Qdg,h1]
  have b1:decide (97<=(c.toNat:Int))=false:=zF zo;generalize c.toNat=x at*;go_enter func160,ntmps160;go_wp2;go_ret;exact⟨by rw[H.o];rfl,rfl⟩
def QcC(c:UInt8)(w:World):Calls prog 162 #[.int .u8 (c.toNat:Nat)] w (Qbj (.bool (QeL c)) w):=by
 have hx:=c.toNat_lt
 by_cases h1:48<=c.toNat
 ·have b1:decide (48<=(c.toNat:Int))=true:=zE zo
  by_cases h2:c.toNat<=57
  ·have H:Hi (QeL c=true):=by unfold Hi;simp[QeL,h1,h2]
   have b2:decide ((c.toNat:Int)<=57)=true:=zE zo;generalize c.toNat=x at*;go_enter func162,ntmps162;go_wp2;go_ret;exact⟨by rw[H.o];rfl,rfl⟩
  ·have H:Hi (QeL c=false):=by unfold Hi;simp[QeL,h2]
   have b2:decide ((c.toNat:Int)<=57)=false:=zF zo;generalize c.toNat=x at*;go_enter func162,ntmps162;go_wp2;go_ret;exact⟨by rw[H.o];rfl,rfl⟩
 ·have H:Hi (QeL c=false):=by unfold Hi;simp[QeL,h1]
  have b1:decide (48<=(c.toNat:Int))=false:=zF zo;generalize c.toNat=x at*;go_enter func162,ntmps162;go_wp2;go_ret;exact⟨by rw[H.o];rfl,rfl⟩
def Qft(l:By)(a:Nat)(w:World)(ha:a<=l.length)(hl:l.length<=281474976710656):Calls prog 161 #[Sv l,Iv (a:Nat)] w (Qbj (Iv ((Qal (l.drop a)).length:Nat)) w):=by
 have hs:=JP l;go_enter func161,ntmps161;go_wp2;go_loop [5] (λv=>∃k:Nat,a+k<=l.length/\v=Iv k/\Hi (∀c∈(l.drop a).take k,QcQ c=true)) λv=>l.length-(intOf v).toNat
 case atStart=>exact⟨0,by omega,rfl,by unfold Hi;simp⟩
 case round=>
  obtain⟨k,hk,rfl,HA⟩:=hrel;have fin:Hi (((l.drop a).drop k).head?.map QcQ≠some true)->Hi ((Qal (l.drop a)).length=k):=λh=>by unfold Hi;rw[Jex HA.o h.o];simp;omega
  by_cases hlt:a+k<l.length
  ·have hg:=Jit l hlt;have vA:(l.drop a).drop k=l[a+k]::l.drop (a+k+1):=by rw[drop_drop,List.drop_eq_getElem_cons hlt]
   have zA:(l.drop a).take (k+1)=(l.drop a).take k++[l[a+k]]:=by
    rw[List.take_succ_eq_append_getElem zq,List.getElem_drop]
   have HN:QcQ l[a+k]=true->Hi (∀c∈(l.drop a).take (k+1),QcQ c=true):=by
    intro h c hc;rw[zA,List.mem_append]at hc
    rcases hc with hc|hc
    ·exact HA.o c hc
    ·rw[List.mem_singleton]at hc;rw[hc];exact h
   have HF:QcQ l[a+k]=false->Hi (((l.drop a).drop k).head?.map QcQ≠some true):=by
    intro h;unfold Hi;rw[vA,List.head?_cons,Option.map_some,h];simp
   have hx:l[a+k].toNat<256:=l[a+k].toNat_lt;obtain⟨c,xA⟩:∃c,l[a+k]=c:=⟨_,rfl⟩
   rw[xA]at hg HN HF hx;have cL:=λW=>Qce c W
   have cD:=λW=>QcC c W
   have uA:c=95↔c.toNat=95:=Qhg c 95;have HE:=Zh uA;have hz:((a:Int)+(k:Int)).toNat=a+k:=zo
   cases h1:Qdg c with
   |true=>
    have H:=HN (by simp[QcQ,h1]);rw[h1]at cL;generalize c.toNat=x at*;go_wp2_with fail;refine(Calls.mono (cL _) ?_);rintro e w' ⟨rfl,rfl⟩;go_wp2_with fail;go_round
    case rel=>exact⟨k+1,by omega,by go_num,H⟩
    case measure=>simp[intOf];omega
   |false=>
    rw[h1]at cL
    cases h2:QeL c with
    |true=>
     have H:=HN (by simp[QcQ,h2]);rw[h2]at cD;generalize c.toNat=x at*;go_wp2_with fail;refine(Calls.mono (cL _) ?_);rintro e w' ⟨rfl,rfl⟩;go_wp2_with fail;refine(Calls.mono (cD _) ?_);rintro e w' ⟨rfl,rfl⟩;go_wp2_with fail;go_round
     case rel=>exact⟨k+1,by omega,by go_num,H⟩
     case measure=>simp[intOf];omega
    |false=>
     rw[h2]at cD
     by_cases h3:c.toNat=95
     ·have H:=HN (by rw[HE.o.2 h3];decide);rw[h3]at hg hx cL cD;go_wp2_with fail;refine(Calls.mono (cL _) ?_);rintro e w' ⟨rfl,rfl⟩;go_wp2_with fail;refine(Calls.mono (cD _) ?_);rintro e w' ⟨rfl,rfl⟩;go_wp2_with fail;go_round
      case rel=>exact⟨k+1,by omega,by go_num,H⟩
      case measure=>simp[intOf];omega
     ·have b3:((c.toNat:Int)==95)=false:=zzq zo;have yA:(c==95)=false:=zzq λh=>h3 (HE.o.1 h);have H:=fin (HF (by simp[QcQ,h1,h2,yA]));generalize c.toNat=x at*;go_wp2_with fail;refine(Calls.mono (cL _) ?_);rintro e w' ⟨rfl,rfl⟩;go_wp2_with fail;refine(Calls.mono (cD _) ?_);rintro e w' ⟨rfl,rfl⟩;go_wp2_with fail;go_ret;exact⟨by rw[H.o];rfl,rfl⟩
  ·have H:=fin (by unfold Hi;rw[drop_drop,List.drop_eq_nil_of_le zo];simp);have d1:decide ((a:Int)+(k:Int)<(l.length:Int))=false:=zF zo;have d2:decide (a+k<l.length)=false:=zF zo;go_wp2_with fail;go_ret;exact⟨by rw[H.o];rfl,rfl⟩
def QjA(o:Option By):Nat:=match o with
 |some v=>v.length+2
 |none=>0
def Qgd(l:By)(a:Nat)(w:World)(ha:a<l.length)(hl:l.length<=281474976710655):Calls prog 164 #[Sv l,Iv (a:Nat)] w (Qbj (Iv (QjA (QaN 25 (l.drop (a+1))):Nat)) w):=by
 have hs:=JP l;go_enter func164,ntmps164;go_wp2;go_loop [5] (λv=>∃k:Nat,a+1+k<=l.length/\k<=25/\v=Iv ((k:Nat)+1)/\Hi (∀c∈(l.drop (a+1)).take k,c≠34/\¬(c.toNat<32\/126<c.toNat\/c=92))) λv=>l.length+1-(intOf v).toNat
 case atStart=>exact⟨0,by omega,by omega,rfl,by unfold Hi;simp⟩
 case round=>
  obtain⟨k,hk,dA,rfl,HA⟩:=hrel;have HT:=Zh (JgC k 25 (l.drop (a+1)) HA.o zq dA)
  by_cases hlt:a+1+k<l.length
  ·have d1:decide ((a:Int)+((k:Int)+1)<(l.length:Int))=true:=zE zo
   by_cases hlt2:k<25
   ·have d2:decide ((k:Int)+1<=25)=true:=zE zo;have yA:a+(k+1)<l.length:=zo
    have hg:=Jit l yA;have hx:l[a+(k+1)].toNat<256:=l[a+(k+1)].toNat_lt
    have cA:(l.drop (a+1)).drop k=l[a+(k+1)]::l.drop (a+(k+1)+1):=by
     rw[drop_drop,show a+1+k=a+(k+1) by omega,List.drop_eq_getElem_cons yA]
    have vA:(l.drop (a+1)).take (k+1)=(l.drop (a+1)).take k++[l[a+(k+1)]]:=by
     rw[List.take_succ_eq_append_getElem zq,List.getElem_drop]
     congr 2
     congr 1
     omega
    have HD:Hi (QaN 25 (l.drop (a+1))=if l[a+(k+1)]=34 then some ((l.drop (a+1)).take k) else if l[a+(k+1)].toNat<32\/126<l[a+(k+1)].toNat\/l[a+(k+1)]=92 then none else QaN 25 (l.drop (a+1))):=by
     unfold Hi;have h1:=HT.o;rw[cA,show 25-k=(24-k)+1 by omega]at h1;simp only[QaN]at h1;split
     ·rename_i hq;rw[if_pos hq]at h1;rw[h1];simp
     ·rename_i hq;rw[if_neg hq]at h1;split
      ·rename_i hb;rw[if_pos hb]at h1;rw[h1];rfl
      ·rfl
    have HN:l[a+(k+1)]≠34->¬(l[a+(k+1)].toNat<32\/126<l[a+(k+1)].toNat\/l[a+(k+1)]=92)->Hi (∀c∈(l.drop (a+1)).take (k+1),c≠34/\¬(c.toNat<32\/126<c.toNat\/c=92)):=by
     intro h1 h2 c hc;rw[vA,List.mem_append]at hc
     rcases hc with hc|hc
     ·exact HA.o c hc
     ·rw[List.mem_singleton]at hc;rw[hc];exact⟨h1,h2⟩
    have xA:((l.drop (a+1)).take k).length=k:=zq
    have aA:l[a+(k+1)]=34↔l[a+(k+1)].toNat=34:=Qhg _ 34;have bA:l[a+(k+1)]=92↔l[a+(k+1)].toNat=92:=Qhg _ 92;simp only[Ne,aA,bA]at HN HD;obtain⟨x,uA⟩:∃x,l[a+(k+1)].toNat=x:=⟨_,rfl⟩
    rw[uA]at hg HD HN hx;have hz:((a:Int)+((k:Int)+1)).toNat=a+(k+1):=zo
    have eA:0<=(a:Int)+((k:Int)+1):=zo
    by_cases h34:x=34
    ·have H:Hi (QjA (QaN 25 (l.drop (a+1)))=k+2):=by unfold Hi;rw[HD.o,if_pos h34,QjA,xA]
     subst h34;go_wp2;go_ret;exact⟨by rw[H.o];first|rfl|(simp;omega)|go_num,rfl⟩
    ·have gA:((x:Int)==34)=false:=zzq zo
     by_cases h32:x<32
     ·have H:Hi (QjA (QaN 25 (l.drop (a+1)))=0):=by unfold Hi;rw[HD.o,if_neg h34,if_pos (.inl h32)];rfl
      have b1:decide ((x:Int)<32)=true:=zE zo;go_wp2;go_ret;exact⟨by rw[H.o];rfl,rfl⟩
     ·have b1:decide ((x:Int)<32)=false:=zF zo
      by_cases h126:126<x
      ·have H:Hi (QjA (QaN 25 (l.drop (a+1)))=0):=by unfold Hi;rw[HD.o,if_neg h34,if_pos (.inr (.inl h126))];rfl
       have b2:decide (126<(x:Int))=true:=zE zo;go_wp2;go_ret;exact⟨by rw[H.o];rfl,rfl⟩
      ·have b2:decide (126<(x:Int))=false:=zF zo
       by_cases h92:x=92
       ·have H:Hi (QjA (QaN 25 (l.drop (a+1)))=0):=by unfold Hi;rw[HD.o,if_neg h34,if_pos (.inr (.inr h92))];rfl
        subst h92;go_wp2;go_ret;exact⟨by rw[H.o];rfl,rfl⟩
       ·have hA:((x:Int)==92)=false:=zzq zo;have H:=HN h34 zo;go_wp2;go_round
        case rel=>exact⟨k+1,by omega,by omega,by go_num,H⟩
        case measure=>simp[intOf];omega
   ·have d2:decide ((k:Int)+1<=25)=false:=zF zo;have H:Hi (QjA (QaN 25 (l.drop (a+1)))=0):=by unfold Hi;rw[HT.o,show 25-k=0 by omega];rfl
    go_wp2;go_ret;exact⟨by rw[H.o];rfl,rfl⟩
  ·have d1:decide ((a:Int)+((k:Int)+1)<(l.length:Int))=false:=zF zo
   have H:Hi (QjA (QaN 25 (l.drop (a+1)))=0):=by
    have zA:(l.drop (a+1)).drop k=[]:=by rw[drop_drop];exact List.drop_eq_nil_of_le zo
    unfold Hi;rw[HT.o,zA]
    cases 25-k<;>rfl
   go_wp2;go_ret;exact⟨by rw[H.o];rfl,rfl⟩
def QcS(l:By)(a b:Nat)(h:a<=b)(hb:b<=l.length)(i j:Int)(hi:i=a)(hj:j=b)(w:World):(Instr.slice 9 (Sv l) (some (Iv i)) (some (Iv j)) none).run prog w=.ok (Sv ((l.drop a).take (b-a))) w:=by
 subst hi;subst hj;unfold Sv;rw[run_slice_string w 9 (bs l) .i64 .i64 a b underlying9 zo zo (by rw[JP];omega),<-KH];rfl
def QhY(c:UInt8)(r:By):Qay (c::r)=if (c::r).take 2∈Qef then (c::r).take 2 else if c∈QaW then [c] else []:=by
 unfold Qay;rw[if_neg (show ¬(c::r).head?=none by simp)];rfl
def QcE:Nat->UInt8
 |0=>61
 |1=>33
 |2=>60
 |_=>62
def Qgc(l:By)(a:Nat)(c:UInt8)(r:By)(w:World)(hd:l.drop a=c::r)(ha:a<l.length)(hl:l.length<=281474976710000):Calls prog 165 #[Sv l,Iv (a:Nat)] w (Qcz w ((Qay (c::r)).length:Nat)):=by
 have hs:=JP l;have HS:=Zh (QhY c r)
 have ht2:∀x:UInt8,(c::r).take 2=[x,61]->a+2<=l.length:=by
  intro x hx;have h1:=congrArg List.length hx;have h2:=congrArg List.length hd;simp at h1 h2;omega
 have zA:=Zh ht2;have hg:=Jit l ha
 have hc:l[a]=c:=by
  have:=List.drop_eq_getElem_cons ha;rw[hd]at this;injection this with h _;exact h.symm
 rw[hc]at hg;have hx:=c.toNat_lt
 have vA:a+2<=l.length->Hi (∀W:World,(Instr.slice 9 (Sv l) (some (Iv (a:Int))) (some (Iv ((a:Int)+2))) none).run prog W=.ok (Sv ((c::r).take 2)) W):=by
  intro h W;have:=QcS l a (a+2) zo h (a:Int) ((a:Int)+2) rfl zo W;rw[hd,show a+2-a=2 by omega]at this;exact this
 have HC:=Zh hc;clear ht2 hd hc;generalize hq:(c::r).take 2=q at*;have tq:=Jk q;have HQ:=Zh hq;clear hq;go_enter func165,ntmps165;go_wp2_with fail;obtain⟨W,hW⟩:∃W,W=w.alloc (.cells #[.string ⟨#[61,61]⟩,.string ⟨#[33,61]⟩,.string ⟨#[60,61]⟩,.string ⟨#[62,61]⟩] 9):=⟨_,rfl⟩
 have g0:W.heap[w.heap.size]?=some (.cells #[.string ⟨#[61,61]⟩,.string ⟨#[33,61]⟩,.string ⟨#[60,61]⟩,.string ⟨#[62,61]⟩] 9 (0,0)):=by rw[hW];exact zzw w _
 have cA:Below w.heap.size w W:=by rw[hW];exact zzb.alloc zzl _
 rw[<-hW];clear hW;have G0:=Zh g0;clear g0;go_loopw [6] (λv wr=>∃k n:Nat,k<=4/\v=Iv k/\wr=W.drewN n/\Hi (∀j,j<k->q≠[QcE j,61])) λv _=>4-(intOf v).toNat
 case atStart=>exact⟨0,0,by omega,rfl,rfl,by unfold Hi;intro j hj;omega⟩
 case round=>
  obtain⟨k,n,hk,rfl,rfl,HA⟩:=hrel
  by_cases hlt:k<4
  ·have xA:∃s:ByteArray,W.cell? ⟨w.heap.size,k,none⟩=some (.string s)/\s=bs [QcE k,61]:=by
    rcases (by omega:k=0\/k=1\/k=2\/k=3) with rfl|rfl|rfl|rfl
    all_goals exact⟨_,by rw[cell_of_row _ _ _ _ _ _ G0.o];rfl,rfl⟩
   obtain⟨s,xA,uA⟩:=xA;rw[uA]at xA;have tl:=Jk [QcE k,61]
   by_cases h2:a+2<=l.length
   ·have d2:decide ((a:Int)+2<=(l.length:Int))=true:=zE zo;have vA:=(vA h2).o
    by_cases hqe:q=[QcE k,61]
    ·have H:Hi ((Qay (c::r)).length=2):=by
      unfold Hi;rw[HS.o,if_pos,hqe]
      ·rfl
      ·rw[hqe]
       rcases (by omega:k=0\/k=1\/k=2\/k=3) with rfl|rfl|rfl|rfl<;>decide
     have e1:(q==[QcE k,61])=true:=beq_iff_eq.2 hqe;clear HS zA HQ HA hqe uA;generalize [QcE k,61]=lk at*;go_wp2_with fail;go_quiet (fail);go_wp2_with fail;go_ret;exact⟨by rw[H.o];rfl,J2 (J2 cA _) _⟩
    ·have e1:(q==[QcE k,61])=false:=zzq hqe
     have H:Hi (∀j,j<k+1->q≠[QcE j,61]):=by
      intro j hj
      rcases (by omega:j<k\/j=k) with h|h
      ·exact HA.o j h
      ·rw[h];exact hqe
     clear HS zA HQ HA hqe uA;generalize [QcE k,61]=lk at*;go_wp2_with fail;go_quiet (fail);go_wp2_with fail;go_roundw
     case rel=>exact⟨k+1,_,by omega,by go_num,by first|rfl|(simp;rfl),H⟩
     case measure=>simp[intOf];omega
   ·have d2:decide ((a:Int)+2<=(l.length:Int))=false:=zF zo
    have H:Hi (∀j,j<k+1->q≠[QcE j,61]):=by
     intro j hj hq;exact absurd (zA.o (QcE j) hq) h2
    clear HS zA HQ HA uA vA;generalize [QcE k,61]=lk at*;go_wp2_with fail;go_quiet (fail);go_wp2_with fail;go_roundw
    case rel=>exact⟨k+1,_,by omega,by go_num,by first|rfl|(simp;rfl),H⟩
    case measure=>simp[intOf];omega
  ·obtain rfl:k=4:=zo
   have hno:q∉Qef:=by
    have h0:=HA.o 0 zo;have h1:=HA.o 1 zo;have h2:=HA.o 2 zo;have h3:=HA.o 3 zo;simp only[QcE]at h0 h1 h2 h3;simp[Qef,h0,h1,h2,h3]
   have HR:Hi (Qay (c::r)=if c∈QaW then [c] else []):=by unfold Hi;rw[HS.o,if_neg hno]
   clear HS zA HQ HA vA hno tq;go_wp2_with fail;obtain⟨w2,bA⟩:∃w2:World,w2=W.drewN n:=⟨_,rfl⟩
   have hbw:Below w.heap.size w w2:=by rw[bA];exact J2 cA _
   rw[<-bA];clear bA;go_loopw [8] (λv wr=>∃i m:Nat,i<=12/\v=Iv i/\wr=w2.drewN m/\Hi (∀j,j<i->QaW[j]?≠some c)) λv _=>12-(intOf v).toNat
   case atStart=>exact⟨0,0,by omega,rfl,rfl,by unfold Hi;intro j hj;omega⟩
   case round=>
    obtain⟨i,m,hi,rfl,rfl,HA⟩:=hrel
    by_cases hlt:i<12
    ·have yA:i<QaW.length:=hlt;have eA:∀h,(({data:=#[40,41,44,58,61,60,62,43,45,42,47,37]}:ByteArray)[i]'h).toNat=(QaW[i]'yA).toNat:=Jit QaW yA;have dA:=(QaW[i]'yA).toNat_lt;have aA:QaW[i]?=some (QaW[i]'yA):=List.getElem?_eq_getElem yA;have hmem:(QaW[i]'yA)∈QaW:=List.getElem_mem yA;have HE:=Zh (Qhg c (QaW[i]'yA));obtain⟨y,hy⟩:∃y,QaW[i]'yA=y:=⟨_,rfl⟩
     rw[hy]at eA dA aA hmem HE;clear hy
     by_cases hcy:c.toNat=y.toNat
     ·have H:Hi ((Qay (c::r)).length=1):=by
       unfold Hi;rw[HR.o,if_pos (by rw[HE.o.2 hcy];exact hmem)];rfl
      have e1:((c.toNat:Int)==(y.toNat:Int))=true:=beq_iff_eq.2 zo;clear HR HA HE aA hmem;generalize c.toNat=x at*;generalize y.toNat=z at*;clear hcy;go_wp2_with fail;go_quiet (fail);go_wp2_with fail;go_ret;exact⟨by rw[H.o];rfl,J2 (J2 hbw _) _⟩
     ·have H:Hi (∀j,j<i+1->QaW[j]?≠some c):=by
       intro j hj
       rcases (by omega:j<i\/j=i) with h|h
       ·exact HA.o j h
       ·rw[h,aA];intro he;injection he with he;exact hcy (by rw[he])
      have e1:((c.toNat:Int)==(y.toNat:Int))=false:=zzq zo;clear HR HA HE aA hmem;generalize c.toNat=x at*;generalize y.toNat=z at*;clear hcy;go_wp2_with fail;go_quiet (fail);go_wp2_with fail;go_roundw
      case rel=>exact⟨i+1,_,by omega,by go_num,by first|rfl|(simp;rfl),H⟩
      case measure=>simp[intOf];omega
    ·obtain rfl:i=12:=zo
     have H:Hi ((Qay (c::r)).length=0):=by
      unfold Hi;rw[HR.o,if_neg]
      ·rfl
      ·intro hm;obtain⟨j,hj,he⟩:=List.getElem_of_mem hm;exact HA.o j hj (by rw[List.getElem?_eq_getElem hj,he])
     clear HR HA;go_wp2_with fail;go_ret;exact⟨by rw[H.o];rfl,J2 hbw _⟩
def QmK(o:Option (Tok×Nat)):Nat:=match o with
 |some (_,n)=>n
 |none=>0
def Qdm(o:Option (Tok×Nat))(a:Nat)(w:World)(e:Ending)(w':World):Prop:=
 (∃u:Tok,e=.returned (.tuple #[.agg (QmJ u),Iv (QmK o:Nat)])/\∀t n,o=some (t,n)->u={t with off:=(a:Nat)})/\Below w.heap.size w w'
def Qcd{o:Option (Tok×Nat)}{a:Nat}{w w':World}(u:Tok)(n:Nat)(hn:n=QmK o)(h:∀t m,o=some (t,m)->u={t with off:=(a:Nat)})(hB:Below w.heap.size w w'):
  Qdm o a w (.returned (.tuple #[.agg #[Iv u.kind,.string (bs u.text),Iv u.n,Iv u.off],Iv (n:Nat)])) w':=⟨⟨u,by rw[hn];rfl,h⟩,hB⟩
def Qba{P:Program}{fn:Func}{p a:Tmp}{ty:TypeId}(h:fn.results=#[.cell p ty,.tmp a])(tmps:Array Value)(w:World)(g:Nat)(t:TypeId)(cs:Array Value)(fr:Nat×Nat)(d:TypeDesc)
  (hp:tmps.getD p undef=Pt g) (hg:w.heap[g]?=some (.cells cs t fr))
  (hu:P.underlying ty=some d) (hd:(match d with|.struct _|.array _ _=>true|_=>false)=true) (hi:(P.info? ty).map (·.size)=some cs.size):
  (results fn tmps).run P w=.ok (.tuple #[.agg cs,tmps.getD a undef]) w:=by
 have xA:tmps[p]?.getD undef=Pt g:=by simpa using hp
 simp[results,h,xA,asAddr,run_loadVar_row w g t ty cs fr d hg hu hd hi]
def Qgb(l:By)(a:Nat)(c:UInt8)(r:By)(w:World)(hd:l.drop a=c::r)(ha:a<l.length)(hl:l.length<=281474976710000)(hc:Qdg c=true)(hg:∀h,((bs l)[a]'h).toNat=c.toNat):
  Calls prog 150 #[Sv l,Iv (a:Nat)] w (Qdm (Qbv (c::r)) a w):=by
 have HF:Hi (Qbv (c::r)=if (Qal (c::r)).length<=24 then some (⟨0,Qal (c::r),0,0⟩,(Qal (c::r)).length) else none):=by
  unfold Hi;simp only[Qbv];rw[if_pos hc]
 have hs:=JP l;have cL:=λW=>Qce c W
 have cD:=λW=>QcC c W
 have cW:=λW=>Qft l a W zo zo
 rw[hd]at cW
 have yA:a+(Qal (c::r)).length<=l.length:=by
  have h1:=Yv (c::r);rw[<-hd,length_drop]at h1;rw[<-hd];omega
 have uA:=QcS l a (a+(Qal (c::r)).length) zo yA (a:Int) ((a:Int)+((Qal (c::r)).length:Int)) rfl zo;rw[hd,show a+(Qal (c::r)).length-a=(Qal (c::r)).length by omega,Jes]at uA;have hx:=c.toNat_lt;rw[hc]at cL;clear hd hc cD;generalize xA:Qal (c::r)=wd at*;generalize c.toNat=x at*
 by_cases h24:wd.length<=24
 ·have HT:Hi (Qbv (c::r)=some (⟨0,wd,0,0⟩,wd.length)):=by unfold Hi;rw[HF.o,if_pos h24]
  have zA:decide (24<(wd.length:Int))=false:=zF zo;clear HF xA;go_enter func150,ntmps150;go_wp2_with fail;refine(Calls.mono (cL _) ?_);rintro e w1 ⟨rfl,rfl⟩;go_wp2_with fail;refine(Calls.mono (cW _) ?_);rintro e w1 ⟨rfl,rfl⟩;go_wp2_with fail;refine bodyPost_ret (Qba rfl _ _ w.heap.size 105 #[Iv 0,Sv wd,Iv 0,Iv (a:Nat)] (0,0) _ rfl (heap_alloc2_old _ _ _) underlying105 rfl Qci) rfl ?_;rw[HT.o];exact Qcd ⟨0,wd,0,(a:Nat)⟩ wd.length rfl (by intro t m h;injection h with h;injection h with h1 h2;subst h1;rfl) ((zzb.alloc zzl _).alloc zp _)
 ·have HT:Hi (Qbv (c::r)=none):=by unfold Hi;rw[HF.o,if_neg h24]
  have zA:decide (24<(wd.length:Int))=true:=zE zo;clear HF xA;go_enter func150,ntmps150;go_wp2_with fail;refine(Calls.mono (cL _) ?_);rintro e w1 ⟨rfl,rfl⟩;go_wp2_with fail;refine(Calls.mono (cW _) ?_);rintro e w1 ⟨rfl,rfl⟩;go_wp2_with fail;refine bodyPost_ret (Qba rfl _ _ w.heap.size 105 #[Iv 0,.string (⟨#[]⟩),Iv 0,Iv (a:Nat)] (0,0) _ rfl (heap_alloc2_old _ _ _) underlying105 rfl Qci) rfl ?_;rw[HT.o];exact Qcd ⟨0,[],0,(a:Nat)⟩ 0 rfl (by intro t m h;cases h) ((zzb.alloc zzl _).alloc zp _)
def Qhj(l:By)(a:Nat)(c:UInt8)(r:By)(w:World)(hd:l.drop a=c::r)(ha:a<l.length)(hl:l.length<=281474976710000)(hc0:Qdg c=false)(hc:QeL c=true)(hg:∀h,((bs l)[a]'h).toNat=c.toNat):
  Calls prog 150 #[Sv l,Iv (a:Nat)] w (Qdm (Qbv (c::r)) a w):=by
 have HF:Hi (Qbv (c::r)=(QaL (Qal (c::r)) 0 1125899906842624).map λn=>(⟨1,[],n,0⟩,(Qal (c::r)).length)):=by
  unfold Hi;simp only[Qbv];rw[if_neg (by simp[hc0]),if_pos hc]
 have hs:=JP l;have cL:=λW=>Qce c W
 have cD:=λW=>QcC c W
 have cW:=λW=>Qft l a W zo zo
 rw[hd]at cW
 have zA:a+(Qal (c::r)).length<=l.length:=by
  have h1:=Yv (c::r);rw[<-hd,length_drop]at h1;rw[<-hd];omega
 have uA:=QcS l a (a+(Qal (c::r)).length) zo zA (a:Int) ((a:Int)+((Qal (c::r)).length:Int)) rfl zo;rw[hd,show a+(Qal (c::r)).length-a=(Qal (c::r)).length by omega,Jes]at uA;have hx:=c.toNat_lt;rw[hc0]at cL;rw[hc]at cD;have cP:=λW=>Qhn (Qal (c::r)) 0 1125899906842624 W zo
 rw[QlE]at cP;generalize vA:Qal (c::r)=wd at*;generalize c.toNat=x at*;have HP:∀o,QaL wd 0 1125899906842624=o->Hi (Qbv (c::r)=o.map λn=>(⟨1,[],n,0⟩,wd.length)):=λo h=>by unfold Hi;rw[HF.o,h]
 generalize yA:QaL wd 0 1125899906842624=o at*;have HT:=HP o rfl
 cases o with
 |some m=>
  have xA:∀W,Calls prog 163 #[Sv wd,Iv 0,Iv 1125899906842624] W (Qbj (.tuple #[Iv m,.bool true]) W):=cP;go_enter func150,ntmps150;go_wp2_with fail;refine(Calls.mono (cL _) ?_);rintro e w1 ⟨rfl,rfl⟩;go_wp2_with fail;refine(Calls.mono (cD _) ?_);rintro e w1 ⟨rfl,rfl⟩;go_wp2_with fail;refine(Calls.mono (cW _) ?_);rintro e w1 ⟨rfl,rfl⟩;go_wp2_with fail;refine(Calls.mono (xA _) ?_);rintro e w1 ⟨rfl,rfl⟩;go_wp2_with fail;refine bodyPost_ret (Qba rfl _ _ w.heap.size 105 #[Iv 1,.string (⟨#[]⟩),Iv m,Iv (a:Nat)] (0,0) _ rfl (heap_alloc2_old _ _ _) underlying105 rfl Qci) rfl ?_;rw[HT.o];exact Qcd ⟨1,[],m,(a:Nat)⟩ wd.length rfl (by intro t m h;injection h with h;injection h with h1 h2;subst h1;rfl) ((zzb.alloc zzl _).alloc zp _)
 |none=>
  have xA:∀W,Calls prog 163 #[Sv wd,Iv 0,Iv 1125899906842624] W (Qbj (.tuple #[Iv 0,.bool false]) W):=cP;go_enter func150,ntmps150;go_wp2_with fail;refine(Calls.mono (cL _) ?_);rintro e w1 ⟨rfl,rfl⟩;go_wp2_with fail;refine(Calls.mono (cD _) ?_);rintro e w1 ⟨rfl,rfl⟩;go_wp2_with fail;refine(Calls.mono (cW _) ?_);rintro e w1 ⟨rfl,rfl⟩;go_wp2_with fail;refine(Calls.mono (xA _) ?_);rintro e w1 ⟨rfl,rfl⟩;go_wp2_with fail;refine bodyPost_ret (Qba rfl _ _ w.heap.size 105 #[Iv 0,.string (⟨#[]⟩),Iv 0,Iv (a:Nat)] (0,0) _ rfl (heap_alloc2_old _ _ _) underlying105 rfl Qci) rfl ?_;rw[HT.o];exact Qcd ⟨0,[],0,(a:Nat)⟩ 0 rfl (by intro t m h;cases h) ((zzb.alloc zzl _).alloc zp _)
def Qhi(l:By)(a:Nat)(c:UInt8)(r:By)(w:World)(hd:l.drop a=c::r)(ha:a<l.length)(hl:l.length<=281474976710000)(hc:c=34)(hg:∀h,((bs l)[a]'h).toNat=c.toNat):
  Calls prog 150 #[Sv l,Iv (a:Nat)] w (Qdm (Qbv (c::r)) a w):=by
 have HF:Hi (Qbv (c::r)=(QaN 25 r).map λw=>(⟨2,w,0,0⟩,w.length+2)):=by
  unfold Hi;subst hc;simp only[Qbv];rw[if_neg zd,if_neg zd,if_pos trivial]
 have hs:=JP l;have cL:=λW=>Qce c W
 have cD:=λW=>QcC c W
 rw[show Qdg c=false by rw[hc];rfl]at cL;rw[show QeL c=false by rw[hc];rfl]at cD;have cQ:=λW=>Qgd l a W ha zo
 have xA:l.drop (a+1)=r:=by rw[<-drop_drop,hd];rfl
 rw[xA]at cQ;have hx:c.toNat=34:=by rw[hc];rfl
 rw[hx]at hg cL cD
 have uA:r.length+a+1=l.length:=by
  have:=congrArg List.length hd;simp at this;omega
 cases ho:QaN 25 r with
 |some v=>
  have HT:Hi (Qbv (c::r)=some (⟨2,v,0,0⟩,v.length+2)):=by unfold Hi;rw[HF.o,ho];rfl
  obtain⟨v1,v2,v3⟩:=Vc _ _ _ ho;rw[ho]at cQ;have yA:∀W,Calls prog 164 #[Sv l,Iv (a:Nat)] W (Qbj (Iv ((v.length:Nat)+2)) W):=cQ;have zA:=QcS l (a+1) (a+1+v.length) zo zo ((a:Int)+1) ((a:Int)+((v.length:Int)+2)-1) zo zo
  have hv:(r.take (a+1+v.length-(a+1)))=v:=by
   rw[show a+1+v.length-(a+1)=v.length by omega];have:=congrArg (List.take v.length) v3;rw[List.take_take,List.take_left' rfl,Nat.min_eq_left zo]at this;exact this
  rw[xA,hv]at zA;have vl:v.length<=24:=zo
  go_enter func150,ntmps150;go_wp2_with fail;refine(Calls.mono (cL _) ?_);rintro e w1 ⟨rfl,rfl⟩;go_wp2_with fail;refine(Calls.mono (cD _) ?_);rintro e w1 ⟨rfl,rfl⟩;go_wp2_with fail;refine(Calls.mono (yA _) ?_);rintro e w1 ⟨rfl,rfl⟩;go_wp2_with fail;refine bodyPost_ret (Qba rfl _ _ w.heap.size 105 #[Iv 2,Sv v,Iv 0,Iv (a:Nat)] (0,0) _ rfl (heap_alloc2_old _ _ _) underlying105 rfl Qci) rfl ?_;rw[HT.o];exact Qcd ⟨2,v,0,(a:Nat)⟩ (v.length+2) rfl (by intro t m h;injection h with h;injection h with h1 h2;subst h1;rfl) ((zzb.alloc zzl _).alloc zp _)
 |none=>
  have HT:Hi (Qbv (c::r)=none):=by unfold Hi;rw[HF.o,ho];rfl
  rw[ho]at cQ;have yA:∀W,Calls prog 164 #[Sv l,Iv (a:Nat)] W (Qbj (Iv 0) W):=cQ;go_enter func150,ntmps150;go_wp2_with fail;refine(Calls.mono (cL _) ?_);rintro e w1 ⟨rfl,rfl⟩;go_wp2_with fail;refine(Calls.mono (cD _) ?_);rintro e w1 ⟨rfl,rfl⟩;go_wp2_with fail;refine(Calls.mono (yA _) ?_);rintro e w1 ⟨rfl,rfl⟩;go_wp2_with fail;refine bodyPost_ret (Qba rfl _ _ w.heap.size 105 #[Iv 0,.string (⟨#[]⟩),Iv 0,Iv (a:Nat)] (0,0) _ rfl (heap_alloc2_old _ _ _) underlying105 rfl Qci) rfl ?_;rw[HT.o];exact Qcd ⟨0,[],0,(a:Nat)⟩ 0 rfl (by intro t m h;cases h) ((zzb.alloc zzl _).alloc zp _)
def Qie(l:By)(a:Nat)(c:UInt8)(r:By)(w:World)(hd:l.drop a=c::r)(ha:a<l.length)(hl:l.length<=281474976710000)(hc0:Qdg c=false)(hc1:QeL c=false)(hc2:c≠34)(hg:∀h,((bs l)[a]'h).toNat=c.toNat):
  Calls prog 150 #[Sv l,Iv (a:Nat)] w (Qdm (Qbv (c::r)) a w):=by
 have HF:Hi (Qbv (c::r)=if Qay (c::r)=[] then none else some (⟨3,Qay (c::r),0,0⟩,(Qay (c::r)).length)):=by
  unfold Hi;simp only[Qbv];rw[if_neg (by simp[hc0]),if_neg (by simp[hc1]),if_neg hc2]
 have hs:=JP l;have cL:=λW=>Qce c W
 have cD:=λW=>QcC c W
 rw[hc0]at cL;rw[hc1]at cD;have cS:=λW=>Qgc l a c r W hd ha hl
 have xA:=ZU (c::r)
 have yA:a+(Qay (c::r)).length<=l.length:=by
  have h1:=xA.1;rw[<-hd,length_drop]at h1;rw[<-hd];omega
 have zA:=QcS l a (a+(Qay (c::r)).length) zo yA (a:Int) ((a:Int)+((Qay (c::r)).length:Int)) rfl zo;rw[hd,show a+(Qay (c::r)).length-a=(Qay (c::r)).length by omega,xA.2.2]at zA;have bA:((c.toNat:Int)==34)=false:=zzq (λh=>hc2 ((Qhg c 34).2 (by show c.toNat=34;omega)));have hx:=c.toNat_lt;have aA:=xA.2.1
 have HTS:Hi (∀t m,Qbv (c::r)=some (t,m)->(⟨3,Qay (c::r),0,(a:Nat)⟩:Tok)={t with off:=(a:Nat)}):=by
  unfold Hi;intro t m h;rw[HF.o]at h;split at h
  ·cases h
  ·injection h with h;injection h with h1 h2;subst h1;rfl
 have vA:Hi ((Qay (c::r)).length=QmK (Qbv (c::r))):=by
  unfold Hi;rw[HF.o];split
  ·rename_i h;rw[h];rfl
  ·rfl
 generalize Qay (c::r)=sg at*;generalize c.toNat=x at*;go_enter func150,ntmps150;go_wp2_with fail;refine(Calls.mono (cL _) ?_);rintro e w1 ⟨rfl,rfl⟩;go_wp2_with fail;refine(Calls.mono (cD _) ?_);rintro e w1 ⟨rfl,rfl⟩;go_wp2_with fail;have cS:=cS ((w.alloc (.cells #[Iv 0,Em,Iv 0,Iv 0] 105)).alloc (.cells #[Iv 0,Em,Iv 0,Iv (a:Nat)] 105));refine(Calls.mono cS ?_);rintro e w4 ⟨rfl,hbx⟩;have uA:=(((Below.refl w.heap.size w).alloc zzl (.cells #[Iv 0,Em,Iv 0,Iv 0] 105)).alloc zp (.cells #[Iv 0,Em,Iv 0,Iv (a:Nat)] 105)).trans (hbx.mono zq);have g4:w4.heap[w.heap.size]?=some (.cells #[Iv 0,Em,Iv 0,Iv 0] 105 (0,0)):=by rw[hbx.block _ zq,heap_alloc2_old]
 have g6:w4.heap[w.heap.size+1]?=some (.cells #[Iv 0,Em,Iv 0,Iv (a:Nat)] 105 (0,0)):=by rw[hbx.block _ zp,heap_alloc2_new]
 have G4:=Zh g4;have G6:=Zh g6;have q0:w4.cell? ⟨w.heap.size,0,none⟩=some (Iv 0):=by rw[cell_of_row _ _ _ _ _ _ G4.o];rfl
 have q1:w4.cell? ⟨w.heap.size,1,none⟩=some Em:=by rw[cell_of_row _ _ _ _ _ _ G4.o];rfl
 have q2:w4.cell? ⟨w.heap.size,2,none⟩=some (Iv 0):=by rw[cell_of_row _ _ _ _ _ _ G4.o];rfl
 have q3:w4.cell? ⟨w.heap.size,3,none⟩=some (Iv 0):=by rw[cell_of_row _ _ _ _ _ _ G4.o];rfl
 have p0:w4.cell? ⟨w.heap.size+1,0,none⟩=some (Iv 0):=by rw[cell_of_row _ _ _ _ _ _ G6.o];rfl
 have p1:w4.cell? ⟨w.heap.size+1,1,none⟩=some Em:=by rw[cell_of_row _ _ _ _ _ _ G6.o];rfl
 have p2:w4.cell? ⟨w.heap.size+1,2,none⟩=some (Iv 0):=by rw[cell_of_row _ _ _ _ _ _ G6.o];rfl
 have p3:w4.cell? ⟨w.heap.size+1,3,none⟩=some (Iv (a:Nat)):=by rw[cell_of_row _ _ _ _ _ _ G6.o];rfl
 have f0:=frozen_of_row _ _ 0 _ _ G4.o;have e0:=frozen_of_row _ _ 0 _ _ G6.o;have f1:=frozen_of_row _ _ 1 _ _ G4.o;have e1:=frozen_of_row _ _ 1 _ _ G6.o;have f2:=frozen_of_row _ _ 2 _ _ G4.o;have e2:=frozen_of_row _ _ 2 _ _ G6.o;have f3:=frozen_of_row _ _ 3 _ _ G4.o;have e3:=frozen_of_row _ _ 3 _ _ G6.o;go_wp2_with fail
 have GG:((((((w4.setCell ⟨w.heap.size+1,0,none⟩ (Iv 3)).setCell ⟨w.heap.size+1,1,none⟩ (Sv sg)).setCell ⟨w.heap.size,0,none⟩ (Iv 3)).setCell ⟨w.heap.size,1,none⟩ (Sv sg)).setCell ⟨w.heap.size,2,none⟩ (Iv 0)).setCell ⟨w.heap.size,3,none⟩ (Iv (a:Nat))).heap[w.heap.size]?=some (.cells #[Iv 3,Sv sg,Iv 0,Iv (a:Nat)] 105 (0,0)):=by
  refine Qjx _ _ _ _ (a0:=Iv 0) (a1:=Em) (a2:=Iv 0) (a3:=Iv 0) ?_;rw[heap_setCell_other _ _ _ _ zp,heap_setCell_other _ _ _ _ zp];exact G4.o
 refine bodyPost_ret (Qba rfl _ _ w.heap.size 105 #[Iv 3,Sv sg,Iv 0,Iv (a:Nat)] (0,0) _ rfl GG underlying105 rfl Qci) rfl ?_;exact Qcd ⟨3,sg,0,(a:Nat)⟩ sg.length vA.o HTS.o (Ke _ _ _ _ ((uA.setCell zp _).setCell zp _) zzl)
def QgF(l:By)(a:Nat)(c:UInt8)(r:By)(w:World)(hd:l.drop a=c::r)(hl:l.length<=281474976710000):
  Calls prog 150 #[Sv l,Iv (a:Nat)] w (Qdm (Qbv (c::r)) a w):=by
 have ha:a<l.length:=by
  have:=congrArg List.length hd;simp at this;omega
 have hg:∀h,((bs l)[a]'h).toNat=c.toNat:=by
  have h1:=Jit l ha;have h2:=List.drop_eq_getElem_cons ha;rw[hd]at h2;injection h2 with h2 _;rw[h2];exact h1
 cases h1:Qdg c with
 |true=>exact Qgb l a c r w hd ha hl h1 hg
 |false=>
  cases h2:QeL c with
  |true=>exact Qhj l a c r w hd ha hl h1 h2 hg
  |false=>
   by_cases h3:c=34
   ·exact Qhi l a c r w hd ha hl h3 hg
   ·exact Qie l a c r w hd ha hl h1 h2 h3 hg
def QfZ{l:By}{a n:Nat}{c:UInt8}{r:By}{t:Tok}(w:World)(hd:l.drop a=c::r)(hl:l.length<=281474976710000)(h:Qbv (c::r)=some (t,n)):
  Calls prog 150 #[Sv l,Iv (a:Nat)] w (λe w'=>e=.returned (.tuple #[.agg #[Iv t.kind,.string (bs t.text),Iv t.n,Iv (a:Nat)],Iv (n:Nat)])/\Below w.heap.size w w'):=by
 refine(QgF l a c r w hd hl).mono ?_;rintro e w' ⟨⟨u,rfl,hu⟩,hb⟩;rw[hu t n h,h];exact⟨rfl,hb⟩
def Qga{l:By}{a:Nat}{c:UInt8}{r:By}(w:World)(hd:l.drop a=c::r)(hl:l.length<=281474976710000)(h:Qbv (c::r)=none):
  Calls prog 150 #[Sv l,Iv (a:Nat)] w (λe w'=>∃(x y z:Int) (b:ByteArray),e=.returned (.tuple #[.agg #[Iv x,.string b,Iv y,Iv z],Iv 0])/\Below w.heap.size w w'):=by
 refine(QgF l a c r w hd hl).mono ?_;rintro e w' ⟨⟨u,rfl,hu⟩,hb⟩;rw[h];exact⟨u.kind,u.n,u.off,bs u.text,rfl,hb⟩
def Qhk(l:By)(w:World)(h:4096<l.length)(hl:l.length<=9223372036854775807):Calls prog 134 #[Sv l] w (Qdl (QaQ l) w):=by
 have HR:Hi (QaQ l=([],7,0)):=by unfold Hi QaQ;rw[if_pos h]
 have hs:=JP l;have d1:decide (4096<(l.length:Int))=true:=zE zo;clear h;go_enter func134,ntmps134;go_wp2;go_ret3;rw[HR.o];exact⟨_,rfl,World.ownsRow_nil _ _ _ _,zzb⟩
def Qif(l:By)(w:World)(h:l.length<=4096):Calls prog 134 #[Sv l] w (Qdl (QaQ l) w):=by
 have HR:Hi (QaQ l=match sc 0 l with|.ok ts=>(ts,0,0)|.err k=>([],2,(k:Nat))):=by unfold Hi QaQ;rw[if_neg zo];rfl
 have hs:=JP l;have d1:decide (4096<(l.length:Int))=false:=zF zo;obtain⟨i0,hi,hA,iA,jA⟩:=info_parts QjI;go_enter func134,ntmps134;go_wp2_with fail;go_loopw [5,6] (λv6 v7 wr=>∃(us:List Tok) (k:Nat),k<=l.length/\v7=Iv k/\us.length<=k/\wr.ownsRow w.heap.size 105 4 v6 us.length (Qax us)/\Below w.heap.size w wr/\Hi (sc 0 l=(sc k (l.drop k)).prep us)) λ_ v7 _=>l.length-(intOf v7).toNat
 case atStart=>exact⟨[],0,by omega,rfl,by simp,World.ownsRow_nil _ _ _ _,zzb,by unfold Hi;rw[JgD];rfl⟩
 case round=>
  obtain⟨us,k,hk,rfl,kA,xA,zA,HS⟩:=hrel;obtain⟨va,vc,rfl⟩:=Z0 xA
  by_cases hlt:k<l.length
  ·have hg:=Jit l hlt;have hx:l[k].toNat<256:=l[k].toNat_lt;have cA:=List.drop_eq_getElem_cons hlt;obtain⟨c,bA⟩:∃c,l[k]=c:=⟨_,rfl⟩
   rw[bA]at cA hg hx;have HD:=Zh cA;have cB:=λW=>Qhq c W
   cases hsp:Qew c with
   |true=>
    have H:Hi (sc 0 l=(sc (k+1) (l.drop (k+1))).prep us):=by unfold Hi;rw[HS.o,HD.o,JgB k _ hsp]
    rw[hsp]at cB;have HO:=Zh xA;generalize c.toNat=x at*;go_wp2_with fail;refine(Calls.mono (cB _) ?_);rintro e w1 ⟨rfl,rfl⟩;go_wp2;go_roundw
    case rel=>exact⟨us,k+1,by omega,by go_num,by omega,HO.o,zA,H⟩
    case measure=>simp[intOf];omega
   |false=>
    rw[hsp]at cB
    cases ht:Qbv (c::l.drop (k+1)) with
    |none=>
     have cT:=λW=>Qga W HD.o zo ht
     have H:Hi (QaQ l=([],2,((k:Nat):Int))):=by unfold Hi;rw[HR.o,HS.o,HD.o,ZV k _ hsp ht];rfl
     generalize c.toNat=x at*;go_wp2_with fail;refine(Calls.mono (cB _) ?_);rintro e w1 ⟨rfl,rfl⟩;go_wp2_with fail;refine(Calls.mono (cT _) ?_);rintro e w3 ⟨fa,fb,fd,fx,rfl,aA⟩;have hbx:=zA.trans (aA.mono zA.size);go_wp2_with fail;go_ret3;rw[H.o];exact⟨_,rfl,World.ownsRow_nil _ _ _ _,hbx.alloc hbx.size _⟩
    |some q=>
     obtain⟨t,n⟩:=q;have hw:=Jao ht;have cT:=λW=>QfZ W HD.o zo ht
     have H:Hi (sc 0 l=(sc (k+n) (l.drop (k+n))).prep (us++[{t with off:=(k:Int)}])):=by
      unfold Hi;rw[HS.o,HD.o,ZW k _ hsp ht,Jey,<-HD.o,drop_drop]
     have hn:k+n<=l.length:=by
      have h1:=hw.2.2.1;rw[<-HD.o,length_drop]at h1;omega
     have hn1:=hw.2.1;have hn0:((n:Int)==0)=false:=zzq zo;obtain⟨tk,tt,tn,tf⟩:=t;have HO:=Zh xA;generalize c.toNat=x at*;go_wp2_with fail;refine(Calls.mono (cB _) ?_);rintro e w1 ⟨rfl,rfl⟩;go_wp2_with fail;refine(Calls.mono (cT _) ?_);rintro e w3 ⟨rfl,aA⟩;have yA:=Jdx HO.o aA;have hbx:=zA.trans (aA.mono zA.size);have vA:=Zh yA;have eA:us.length+1<=5000:=zo
     go_wp2_with (at_builtin;refine wpList_append_own _ rfl _ _ 65 rfl w.heap.size 105 i0 (.agg #[Iv 0,Em,Iv 0,Iv 0]) 4 40 underlying65 hi hA iA jA rfl zd _ _ _ rfl ((vA.o.alloc _).alloc _) ⟨w3.heap.size+1,0,none⟩ 1 1 [Iv tk,Sv tt,Iv tn,Iv (k:Nat)] rfl rfl ?c1 ?c2 ?c3 ?c4 ?c5 ?_)
     case c1=>
      intro j u hj;rw[Zd];simpa using hj
     case c2=>intro u hu;simp at hu;rcases hu with rfl|rfl|rfl|rfl<;>rfl
     case c3=>unfold maxLen;omega
     case c4=>omega
     case c5=>simp;exact Nat.le_trans hbx.size zo
     intro v' w' hown' hgrow _;have uA:=(hbx.alloc hbx.size (.cells #[Iv tk,Sv tt,Iv tn,Iv (k:Nat)] 105)).alloc (by simp;exact Nat.le_trans hbx.size zo) (.cells #[Iv tk,Sv tt,Iv tn,Iv (k:Nat)] 105);have hsz:=uA.size;have dA:=uA.grown hgrow hsz (Jar vA.o)
     have HOW:Hi (w'.ownsRow w.heap.size 105 4 v' (us++[(⟨tk,tt,tn,(k:Nat)⟩:Tok)]).length (Qax (us++[(⟨tk,tt,tn,(k:Nat)⟩:Tok)]))):=by
      unfold Hi;rw[List.length_append,KZ];exact hown'
     go_wp2;go_roundw
     case rel=>exact⟨us++[(⟨tk,tt,tn,(k:Nat)⟩:Tok)],k+n,by omega,by go_num,by simp;omega,HOW.o,dA,H⟩
     case measure=>simp[intOf];omega
  ·have gA:k=l.length:=zo
   have H:Hi (QaQ l=(us++[⟨4,[],0,(l.length:Nat)⟩],0,0)):=by
    unfold Hi;rw[HR.o,HS.o,gA,List.drop_length,JcB];rfl
   subst gA;have vA:=Zh xA;have eA:us.length+1<=5000:=zo
   go_wp2_with (at_builtin;refine wpList_append_own _ rfl _ _ 65 rfl w.heap.size 105 i0 (.agg #[Iv 0,Em,Iv 0,Iv 0]) 4 40 underlying65 hi hA iA jA rfl zd _ _ _ rfl (vA.o.alloc _) ⟨wr.heap.size,0,none⟩ 1 1 [Iv 4,Em,Iv 0,Iv (l.length:Nat)] rfl rfl ?d1 ?d2 ?d3 ?d4 ?d5 ?_)
   case d1=>
    intro j u hj;rw[Z1];simpa using hj
   case d2=>intro u hu;simp at hu;rcases hu with rfl|rfl|rfl|rfl<;>rfl
   case d3=>unfold maxLen;omega
   case d4=>omega
   case d5=>simp;exact Nat.le_trans zA.size zo
   intro v' w' hown' hgrow _;have uA:=zA.alloc zA.size (.cells #[Iv 4,Em,Iv 0,Iv (l.length:Nat)] 105);have dA:=uA.grown hgrow uA.size (Jar vA.o)
   have HOW:Hi (w'.ownsRow w.heap.size 105 4 v' (us++[(⟨4,[],0,(l.length:Nat)⟩:Tok)]).length (Qax (us++[(⟨4,[],0,(l.length:Nat)⟩:Tok)]))):=by
    unfold Hi;rw[List.length_append,KZ];exact hown'
   go_wp2_with fail;go_ret3;rw[H.o];exact⟨_,rfl,HOW.o,dA⟩
def Qig(l:By)(w:World)(hl:l.length<=9223372036854775807):Calls prog 134 #[Sv l] w (Qdl (QaQ l) w):=by
 by_cases h:4096<l.length
 ·exact Qhk l w h hl
 ·exact Qif l w zo
end Go.Proofs.YtncanmdgdflnpaaGreatDoor

