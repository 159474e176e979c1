import Derived.Deep.OwnRows
import Derived.KernelRfl
import Derived.Test.YtncanmdgdflnpaaGreatDoorR09
open List(getElem?_eq_getElem mem_of_getElem?)
namespace Go.Proofs.YtncanmdgdflnpaaGreatDoor
open Go.ChangeShapes Go.WideShapes Go.ChangeAt Go.RowKit Go.Lib
open _root_.Go.Proofs.Tryz
set_option linter.all false
set_option maxRecDepth 100000
set_option maxHeartbeats 32000000
def VOk.wf{t v:Int}(h:VOk t v):Qat v:=by
 unfold Qat
 rcases h with⟨_,h1,h2⟩|⟨_,h|h⟩<;>omega
def Jgd(k:Int)(hk:6<=k/\k<=15)(vs:List Int)(av:Value)(p:Nat)(w:World)(hi:QaP w p av vs)(hl:vs.length=ar0 k)(hw:∀v∈vs,Qat v)(h7:k=7->vs.getD 0 0=0\/vs.getD 0 0=1)(u:Nat):
  Calls prog 82 #[Iv k,av] w (Qfk w (Qap k (vs.getD 0 0) (vs.getD 1 0) u)):=by
 have yA:1<=vs.length:=by
  rw[hl];unfold ar0;rw[if_neg zo];split
  ·omega
  ·split<;>omega
 rcases hi with⟨e1,_⟩|⟨g,o,cc,s8,_,_,_,hc⟩
 ·rw[e1]at yA;simp at yA
 have ha:vs[0]?=some (vs.getD 0 0):=by
  rw[List.getD_eq_getElem?_getD,getElem?_eq_getElem zo];rfl
 have c0:=hc 0 _ ha;rw[Nat.add_zero]at c0;have xA:=hw _ (mem_of_getElem? ha)
 by_cases h6:k=6
 ·subst h6;exact Jjl av g o _ cc _ _ w s8 yA c0 xA u
 by_cases h7':k=7
 ·subst h7';exact Jjm av g o _ cc _ _ w s8 yA c0 (h7 rfl) u
 have h2:2<=vs.length:=by rw[hl];unfold ar0;rw[if_neg zo,if_neg zo,if_neg zo];omega
 have hb:vs[1]?=some (vs.getD 1 0):=by
  rw[List.getD_eq_getElem?_getD,getElem?_eq_getElem zo];rfl
 have c1:=hc 1 _ hb;have zA:=hw _ (mem_of_getElem? hb);have uA:k=8\/k=9\/k=10\/k=11\/k=12\/k=13\/k=14\/k=15:=zo
 rcases uA with rfl|rfl|rfl|rfl|rfl|rfl|rfl|rfl
 ·exact Jjj av g o _ cc _ _ w s8 h2 c0 c1 xA zA u
 ·exact Jjk av g o _ cc _ _ w s8 h2 c0 c1 xA zA u
 ·exact JhC av g o _ cc _ _ w s8 h2 c0 c1 xA zA u
 ·exact JhD av g o _ cc _ _ w s8 h2 c0 c1 xA zA u
 ·exact JhE av g o _ cc _ _ w s8 h2 c0 c1 xA zA u
 ·exact JhF av g o _ cc _ _ w s8 h2 c0 c1 xA zA u
 ·exact JhG av g o _ cc _ _ w s8 h2 c0 c1 xA zA u
 ·exact JhH av g o _ cc _ _ w s8 h2 c0 c1 xA zA u
def QfT(K:Qar)(c d:Nat):Prop:=∀(n:Int)(args:List Int)(av:Value)(f:Qau)(W:World)(u:Nat),0<=n->K.r.sigs[n.toNat]?=some f->Qel f.params args->u<=10000->QcN K W u c->QaP W K.p av args->
 Calls prog 81 #[Pt K.p,Iv n,av] W (EvP K W c (Qca K.r.funcs K.F d n args u))
def QcN.setO{K:Qar}(hk:K.Ok){W:World}{u c:Nat}(h:QcN K W u c){b:Nat}(hb:b≠K.p)(h0:K.w0.heap.size<=b)(j:Nat)(v:Value):QcN K (W.setCell ⟨b,j,none⟩ v) u c:=
 ⟨Jh h.self (by simpa using hb.symm) _,Below.setCell h.bel h0 _⟩
structure LpI(K:Qar)(c d:Nat)(vars types:List Int)(u:Nat)(l:List Exp)(w1:World)(kb:Nat)(i:Nat)(vs:List Int)(ui:Nat)(W:World):Prop where
 mr:QcN K W ui c
 chg:Chg [K.p] w1 W
 row:∃A:Array Value,W.heap[kb]?=some (.cells A 3 (0,0))/\A.size=l.length/\∀(j:Nat)(v:Int),vs[j]?=some v->A[j]?=some (Value.int .i64 v)
 ev:QdZ K d vars u l=(QdZ K d vars ui (l.drop i)).bind λws u''=>.val (vs++ws) u''
 len:vs.length=i
 ok:∀(j:Nat)(v:Int)(y:Exp),vs[j]?=some v->l[j]?=some y->VOk (ofN K.r.sigs types (utN y)).1 v
 us:ui<=10000
def LpI.ints{K:Qar}{c d:Nat}{M0 N0:List Int}{u:Nat}{l:List Exp}{w1:World}{kb:Nat}{vs:List Int}{ui:Nat}{W:World}(h:LpI K c d M0 N0 u l w1 kb l.length vs ui W)(hb:kb≠K.p):QaP W K.p (.slice (some ⟨kb,0,none⟩) l.length l.length) vs:=by
 obtain⟨A,h1,h2,h3⟩:=h.row;refine .inr ⟨kb,0,l.length,by rw[h.len],by rw[h.len];exact Nat.le_refl _,hb,Jb h1,λj v hj=>?_⟩;rw[Nat.zero_add,Ja h1];exact h3 j v hj
def LpI.step{K:Qar}(hk:K.Ok){c d:Nat}{M0 N0:List Int}{u:Nat}{l:List Exp}{w1 w5 w6:World}{kb:Nat}{i:Nat}{vs:List Int}{ui:Nat}{W:World}(h:LpI K c d M0 N0 u l w1 kb i vs ui W)(h5:Below W.heap.size W w5){y:Exp}(hy:l[i]?=some y){v:Int}{u6:Nat}
  (he:evK K d M0 ui y=.val v u6) (hv:VOk (ofN K.r.sigs N0 (utN y)).1 v) (hu:u6<=10000) (hm:QcN K w6 u6 c) (hc:Chg [K.p] w5 w6) (hb:kb≠K.p) (A0:w1.heap.size<=kb) (TB:K.w0.heap.size<=kb):
  LpI K c d M0 N0 u l w1 kb (i+1) (vs++[v]) u6 (w6.setCell ⟨kb,i,none⟩ (Iv v)):=by
 obtain⟨A,g1,g2,g3⟩:=h.row;have hi:i<l.length:=(List.getElem?_eq_some_iff.1 hy).1;have yA:l[i]=y:=(List.getElem?_eq_some_iff.1 hy).2;have h6:w6.heap[kb]?=some (.cells A 3 (0,0)):=hc.heap_some (by simpa using hb) ((h5.block _ (Jb g1)).trans g1);refine⟨hm.setO hk hb TB _ _,((h.chg.trans (Chg.of_below h5 [K.p])).trans hc).setCell (.inr A0) _,⟨A.setIfInBounds i (Iv v),?_,by simpa using g2,λj x hj=>?_⟩,?_,by rw[List.length_append,h.len];rfl,λj x z hj hz=>?_,hu⟩
 ·rw[JC h6]
 ·by_cases C6:j<vs.length
  ·rw[List.getElem?_append_left C6]at hj;have:=h.len;rw[Array.getElem?_setIfInBounds_ne zo];exact g3 j x hj
  ·have hlt:=(List.getElem?_eq_some_iff.1 hj).1;rw[List.length_append,List.length_singleton]at hlt;have xA:j=i:=by have:=h.len;omega
   subst xA;rw[List.getElem?_append_right zo,h.len,Nat.sub_self]at hj;obtain rfl:v=x:=by simpa using hj
   rw[Array.getElem?_setIfInBounds_self_of_lt (by rw[g2];exact hi)]
 ·rw[h.ev,List.drop_eq_getElem_cons hi,yA,Jbp,he];simp only[RN.bind_val]
  cases QdZ K d M0 u6 (l.drop (i+1)) with
  |fault er u9=>rfl
  |val ws u9=>simp[RN.bind_val]
 ·by_cases C6:j<vs.length
  ·rw[List.getElem?_append_left C6]at hj;exact h.ok j x z hj hz
  ·have hlt:=(List.getElem?_eq_some_iff.1 hj).1;rw[List.length_append,List.length_singleton]at hlt;have xA:j=i:=by have:=h.len;omega
   subst xA;rw[List.getElem?_append_right zo,h.len,Nat.sub_self]at hj;obtain rfl:v=x:=by simpa using hj
   rw[hy]at hz;obtain rfl:=Option.some.inj hz;exact hv
def LpI.fault{K:Qar}{c d:Nat}{M0 N0:List Int}{u:Nat}{l:List Exp}{w1:World}{kb:Nat}{i:Nat}{vs:List Int}{ui:Nat}{W:World}(h:LpI K c d M0 N0 u l w1 kb i vs ui W){y:Exp}(hy:l[i]?=some y){er:Int}{u6:Nat}(he:evK K d M0 ui y=.fault er u6):QdZ K d M0 u l=.fault er u6:=by
 have hi:i<l.length:=(List.getElem?_eq_some_iff.1 hy).1;have xA:l[i]=y:=(List.getElem?_eq_some_iff.1 hy).2;rw[h.ev,List.drop_eq_getElem_cons hi,xA,Jbp,he];rfl
def LpI.fin{K:Qar}{c d:Nat}{M0 N0:List Int}{u:Nat}{l:List Exp}{w1:World}{kb:Nat}{vs:List Int}{ui:Nat}{W:World}(h:LpI K c d M0 N0 u l w1 kb l.length vs ui W):QdZ K d M0 u l=.val vs ui:=by
 rw[h.ev,List.drop_length,JhL,RN.bind_val,List.append_nil]
def Qkd(n:Nat)(hn:n<=1000000000)(W:World):(Instr.makeSlice 55 (Iv (n:Int)) (Iv (n:Int))).run prog W=.ok (.slice (some ⟨W.heap.size,0,none⟩) n n) (W.alloc (.cells (madeCells #[Iv 0] n) 3)):=
 run_make_row' 55 3 (Iv 0) 8 underlying55 QgT rfl .i64 .i64 n zo zo W
def Jef{fs:List Qau}{N0:List Int}{k nn:Int}{s:By}{l:List Exp}{t:Int}(h:ofN fs N0 (utN (.mk k nn s l))=(t,[]))(h7:k=7):∀y∈l,(ofN fs N0 (utN y)).1=1:=by
 subst h7;rw[utN,YX]at h;simp at h;have h2:=Ko h.2;clear h
 induction l with
 |nil=>intro y hy;cases hy
 |cons a l ih=>
  intro y hy;rw[utL,List.length_cons,List.replicate_succ]at h2
  rcases List.mem_cons.1 hy with rfl|hy
  ·rw[h2.1]
  ·exact ih h2.2 y hy
def Jeg{fs:List Qau}{N0:List Int}{nn:Int}{s:By}{l:List Exp}{t:Int}(h:ofN fs N0 (utN (.mk 20 nn s l))=(t,[])):l.length=(fs.getD nn.toNat ⟨[],0⟩).params.length/\∀(j:Nat)(y:Exp)(p:Int),l[j]?=some y->(fs.getD nn.toNat ⟨[],0⟩).params[j]?=some p->(ofN fs N0 (utN y)).1=p:=by
 obtain⟨f,hf⟩:∃f,fs.getD nn.toNat ⟨[],0⟩=f:=⟨_,rfl⟩
 rw[utN,YX,if_neg zd,if_neg zd,if_neg zd,if_neg zd,if_neg zd,if_neg zd,if_neg zd,if_neg zd,if_neg zd,if_pos rfl]at h;simp only[hf,Prod.mk.injEq,List.append_eq_nil_iff]at h;rw[hf];obtain⟨_,h1,h2⟩:=h;rw[JR]at h1 h2;generalize f.params=ps at*
 have h1':l.length=ps.length:=by
  split at h1
  ·cases h1
  ·rename_i hc;exact Classical.not_not.1 hc
 refine⟨h1',?_⟩;have h2':QcP fs N0 true ps (utL l)=[]:=by rw[<-h2,h1',beq_self_eq_true]
 have h3:=Jcj (by rw[JR];exact h1') h2';clear h1 h1' h2 h2'
 induction l generalizing ps with
 |nil=>intro j y p hj;simp at hj
 |cons a l ih=>
  intro j y p hj hp;rw[utL]at h3
  cases ps with
  |nil=>exact h3.elim
  |cons q ps=>
   cases j with
   |zero=>
    obtain rfl:a=y:=by simpa using hj
    obtain rfl:q=p:=by simpa using hp
    rw[h3.1]
   |succ j=>exact ih ps h3.2 j y p (by simpa using hj) (by simpa using hp)
def RN.used{α:Type}:RN α->Nat
 |.fault _ u=>u
 |.val _ u=>u
def Jjz{k a b:Int}{u:Nat}:(Qap k a b u).used=u:=by
 unfold Qap
 repeat' split
 all_goals rfl
def Y7(K:Qar)(hk:K.Ok)(c d n:Nat)(IH:QhO K c d n)(MC:QfT K c d)(k nn:Int)(s:By)(l:List Exp)(cs:Array Value)(M0 N0:List Int)(vv:Value)(Qad:Nat)(t:Int)(W:World)(u:Nat)(hn:Qaz (utL l)<=n)(h:EvH K c (.mk k nn s l) cs M0 N0 vv Qad t W u)
  (hkk:(6<=k/\k<=15)\/k=20):
  Calls prog 42 #[Pt K.p,.agg cs,vv] W (EvP K W c (evK K d M0 u (.mk k nn s l))):=by
 obtain⟨ad,cc,rfl,yC,hK⟩:=h.x.kids;obtain⟨va,vc,rfl⟩:=h.ints.form';obtain⟨X,hX⟩:∃X,evK K d M0 u (.mk k nn s l)=X:=⟨_,rfl⟩
 rw[hX];have vA:(6<=k/\k<=15)->X=(QdZ K d M0 u l).bind λvs u'=>Qap k (vs.getD 0 0) (vs.getD 1 0) u':=λh=>by rw[<-hX,JhN _ _ _ _ _ _ _ _ h]
 have aA:k=20->X=(QdZ K d M0 u l).bind λvs u'=>Qca K.r.funcs K.F d nn vs u':=λh=>by rw[<-hX,h,JhM]
 have HX:=Zh hX;have A0:Below W.heap.size W (W.alloc (.cells #[Iv k,Iv nn,Sv s,.slice ad l.length cc] 50)):=zzb.alloc zzl _;have H2:=Zh (h.at'.up A0);have M1:Hi (Chg [K.p] W (W.alloc (.cells #[Iv k,Iv nn,Sv s,.slice ad l.length cc] 50))):=Chg.of_below A0 [K.p];have S0:=Zh (zzw W (.cells #[Iv k,Iv nn,Sv s,.slice ad l.length cc] 50));have S1:Hi (W.heap.size≠K.p):=by have:=h.at'.lt;unfold Hi;omega
 have HH:=Zh h;have nB:=Zh hK;have hB:=Zh IH;have HN:=Zh hn;have sA:=Zh vA;have zB:=Zh aA;have hA:=Zh hkk;have rB:=Zh MC;have e0:(k==0)=false:=zzq zo;have e1:(k==1)=false:=zzq zo;have e2:(k==2)=false:=zzq zo;have e3:(k==3)=false:=zzq zo;have e4:(k==4)=false:=zzq zo;have e5:(k==5)=false:=zzq zo;have zC:(k==16)=false:=zzq zo;have uC:(k==17)=false:=zzq zo;have sB:(k==18)=false:=zzq zo;have tB:(k==19)=false:=zzq zo;have xC:l.length<=900000000:=by have:=Jfw l;have:=h.sz;rw[utN,JA]at this;omega
 have qB:=Qkd l.length zo;clear A0 h hK hX IH hn vA aA hkk MC;go_enter func42,ntmps42;go_upto_region 1 with fail;generalize World.alloc W _=w1 at*;generalize W.heap.size=eb at*
 have FF:Hi (∀W',Chg [K.p] w1 W'->W'.cell? ⟨eb,0,none⟩=some (Iv k)/\W'.cell? ⟨eb,1,none⟩=some (Iv nn)/\W'.cell? ⟨eb,2,none⟩=some (Sv s)/\W'.cell? ⟨eb,3,none⟩=some (.slice ad l.length cc)):=by
  exact QhR
 have B0:Hi (∀W',Chg [K.p] w1 W'->Bel K.w0 W'):=λW' hW=>QdL H2.o.bel hk.num hW
 obtain⟨b0,b1,b2,b3⟩:=FF.o _ (Chg.refl _ _);have iB:Hi (w1.heap.size=w1.heap.size):=rfl;go_upto_region 29 with fail
 have xA:Hi (LpI K c d M0 N0 u l w1 w1.heap.size 0 [] u (w1.alloc (.cells (madeCells #[Iv 0] l.length) 3))):=by
  have I0:Below w1.heap.size w1 (w1.alloc (.cells (madeCells #[Iv 0] l.length) 3)):=zzb.alloc zzl _;refine⟨H2.o.up I0,Chg.of_below I0 [K.p],⟨_,zzw w1 _,?_,λj v hj=>by simp at hj⟩,?_,rfl,λj v y hj=>by simp at hj,HH.o.us⟩
  ·rw[size_madeCells]
  ·rw[List.drop_zero]
   cases QdZ K d M0 u l with
   |fault er u9=>rfl
   |val ws u9=>simp[RN.bind_val]
 have cB:Hi (w1.heap.size≠K.p/\w1.heap.size<=w1.heap.size/\K.w0.heap.size<=w1.heap.size):=⟨by have:=H2.o.lt;omega,Nat.le_refl _,H2.o.bel.size⟩
 clear b0 b1 b2 b3 qB iB;generalize World.alloc w1 _=w2 at*;obtain⟨kb,yB⟩:∃kb,w1.heap.size=kb:=⟨_,rfl⟩
 have zA:Hi (kb≠K.p/\w1.heap.size<=kb/\K.w0.heap.size<=kb):=by have:=cB.o;unfold Hi;omega
 rw[yB]at xA |-;clear cB yB;obtain⟨b0,b1,b2,b3⟩:=FF.o _ xA.o.chg;go_wp2_with fail;clear b0 b1 b2 b3;go_loopg [132] l.length λg v132 wr=>∃i:Nat,g+i=l.length/\v132=Iv i/\Hi (∃vs ui,LpI K c d M0 N0 u l w1 kb i vs ui wr)
 case atStart=>exact⟨0,rfl,rfl,_,_,xA.o⟩
 case round=>
 clear xA;obtain⟨wl,rfl⟩:=zG wr
 obtain⟨i,hg,rfl,dB⟩:=hrel;obtain⟨vs,ui,yA⟩:=dB.o;clear dB
 by_cases hi:i<l.length
 ·have hil:(i:Int)<(l.length:Int):=zo
  obtain⟨y,hy⟩:∃y,l[i]?=some y:=⟨l[i],getElem?_eq_getElem hi⟩
  obtain⟨b,o,kB,B5,rA⟩:=nB.o.at0 (List.ne_nil_of_mem (mem_of_getElem? hy));obtain⟨dy,cy,hxy,xB⟩:=rA i y hy;obtain⟨k0,k1,k2,k3⟩:=xB _ (B0.o _ yA.chg);have wk:=zI i;have C3:Below wl.heap.size wl (wl.alloc (.cells #[Iv y.kind,Iv y.num,.string (bs y.name),.slice dy y.kids.length cy] 50)):=zzb.alloc zzl _;have N2:k≠19:=by have:=hA.o;omega
  have iA:=HH.o.kid N2 (i:=i) (y:=y) hy hxy (yA.mr.up C3) (M1.o.trans (yA.chg.trans (Chg.of_below C3 [K.p]))) yA.us;have HO:=Zh (iA.ok hk d);have ci:=hB.o y _ M0 N0 _ _ _ (wl.alloc (.cells #[Iv y.kind,Iv y.num,.string (bs y.name),.slice dy y.kids.length cy] 50)) ui (zu HN.o (KE (l:=l) (y:=y) (mem_of_getElem? hy))) iA;have xA:=Zh yA;have eA:=Zh C3;have HY:=Zh hy;have HG:=Zh hg;subst kB;clear iA C3 yA hy hg hxy xB rA B5 N2;go_wp2_with fail;refine ci.mono ?_;clear ci k0 k1 k2 k3
  cases hz:evK K d M0 ui y with
  |fault er u6=>
   rintro e w6 ⟨rfl,T3,j0⟩;refine⟨rfl,?_⟩;have hf:=xA.o.fault HY.o hz
   have kA:X=.fault er u6:=by
    rcases hA.o with h|h
    ·rw[sA.o h,hf];rfl
    ·rw[zB.o h,hf];rfl
   rw[kA];exact⟨rfl,T3,M1.o.trans (xA.o.chg.trans ((Chg.of_below eA.o [K.p]).trans j0))⟩
  |val v u6=>
   rintro e w6 ⟨rfl,T3,j0⟩;have uB:=HO.o;rw[hz]at uB;obtain⟨mB,qA,tA⟩:=uB;have D2:=Zh (xA.o.step hk eA.o HY.o hz tA qA T3 j0 zA.o.1 zA.o.2.1 zA.o.2.2);obtain⟨A,g1,g2,g3⟩:=xA.o.row;have h6:w6.heap[kb]?=some (.cells A 3 (0,0)):=j0.heap_some (by simpa using zA.o.1) ((eA.o.block _ (Jb g1)).trans g1);have eB:=Jb h6;have f6:=Jc h6 i;obtain⟨xi,q6⟩:∃xi,w6.cell? ⟨kb,i,none⟩=some xi:=⟨_,(Ja h6 i).trans (Array.getElem?_eq_getElem (by rw[g2];exact hi))⟩
   have B3:=Zh hi;clear g1 g2 g3 h6 mB qA tA hz T3 j0 HO xA eA hi;go_wp2;go_roundg (l.length-(i+1))
   case measure=>have:=HG.o;have:=B3.o;omega
   case rel=>exact⟨i+1,by have:=B3.o;omega,by go_num,_,_,D2.o⟩
 have hil:¬(i:Int)<(l.length:Int):=zo
 obtain rfl:i=l.length:=zo
 have xA:=Zh yA;obtain⟨b0,b1,b2,b3⟩:=FF.o _ yA.chg;clear hi hg yA
 by_cases O2:k=20
 ·have jB:(k==20)=true:=beq_iff_eq.2 O2;have aA:=zB.o O2;rw[xA.o.fin,RN.bind_val]at aA;have dA:=Zh aA;have uA:=HH.o.ty;rw[O2]at uA;have cA:=Jeg uA
  have gA:0<=nn/\nn<(K.r.sigs.length:Int):=by
   obtain⟨_,hf,_,_⟩:=J6 HH.o.fit;rw[O2]at hf;unfold Qab at hf;rw[K6]at hf;simp at hf;exact hf.1
  obtain⟨f,hf⟩:=Jft gA.1 gA.2;have bB:K.r.sigs.getD nn.toNat ⟨[],0⟩=f:=by rw[List.getD_eq_getElem?_getD,hf];rfl
  rw[bB]at cA
  have vB:Qel f.params vs:=by
   refine⟨by rw[xA.o.len];exact cA.1.symm,λj p v hp hv=>?_⟩;have hj:j<l.length:=by rw[cA.1];exact(List.getElem?_eq_some_iff.1 hp).1
   have:=xA.o.ok j v l[j] hv (getElem?_eq_getElem hj);rw[cA.2 j l[j] p (getElem?_eq_getElem hj) hp]at this;exact this
  have bA:=rB.o nn vs _ f wl ui gA.1 hf vB xA.o.us xA.o.mr (xA.o.ints zA.o.1);clear O2 aA uA cA gA hf bB vB;go_wp2_with fail;refine bA.mono ?_;clear bA b0 b1 b2 b3;intro e w9 h9;rw[<-dA.o]at h9;have V3:=EvP.back (M1.o.trans xA.o.chg) h9;clear h9
  cases X with
  |fault er u9=>
   obtain⟨rfl,h11⟩:=V3;refine⟨rfl,?_⟩;exact⟨rfl,h11⟩
  |val v9 u9=>
   obtain⟨rfl,h11⟩:=V3;have jA:=Zh h11;clear h11;go_wp2;go_ret;exact⟨rfl,jA.o⟩
 ·have jB:(k==20)=false:=zzq O2;have pA:6<=k/\k<=15:=by have:=hA.o;omega
  have vA:=sA.o pA;rw[xA.o.fin,RN.bind_val]at vA;have dA:=Zh vA;have mA:l.length=ar0 k:=(Jih HH.o.fit).2 O2;have uA:=HH.o.ty
  have bA:=Jgd k pA vs _ K.p wl (xA.o.ints zA.o.1) (by rw[xA.o.len];exact mA) (λv hv=>by
   obtain⟨j,hj⟩:=List.getElem?_of_mem hv;have gB:j<l.length:=by have:=xA.o.len;have:=(List.getElem?_eq_some_iff.1 hj).1;omega
   exact(xA.o.ok j v l[j] hj (getElem?_eq_getElem gB)).wf) (λh7=>by
   have E7:l.length=1:=by rw[mA,h7];rfl
   have pB:vs[0]?=some (vs.getD 0 0):=by
    rw[List.getD_eq_getElem?_getD,getElem?_eq_getElem (zt xA.o.len)];rfl
   have aB:l[0]?=some (l[0]'(by omega)):=getElem?_eq_getElem _;have:=xA.o.ok 0 _ _ pB aB;rw[Jef uA h7 _ (mem_of_getElem? aB)]at this
   exact JdT this) ui
  clear O2 vA pA uA mA;go_wp2_with fail;refine bA.mono ?_;clear bA b0 b1 b2 b3;intro e w9 h9;rw[<-dA.o]at h9;have nA:=Jjz (k:=k) (a:=vs.getD 0 0) (b:=vs.getD 1 0) (u:=ui);rw[<-dA.o]at nA
  cases X with
  |fault er u9=>
   obtain⟨rfl,h11⟩:=h9;obtain rfl:u9=ui:=nA;refine⟨rfl,?_⟩;exact⟨rfl,⟨c,xA.o.mr.up h11⟩,M1.o.trans (xA.o.chg.trans (Chg.of_below h11 [K.p]))⟩
  |val v9 u9=>
   obtain⟨rfl,h11⟩:=h9;obtain rfl:u9=ui:=nA;have jA:Hi (QcN K w9 u9 c/\Chg [K.p] W w9):=⟨xA.o.mr.up h11,M1.o.trans (xA.o.chg.trans (Chg.of_below h11 [K.p]))⟩
   clear h11;go_wp2;go_ret;exact⟨rfl,jA.o⟩
def Jge(K:Qar)(hk:K.Ok):QfT K 100 0:=by
 intro n args av f W u h0 hf hv hu hm hi;obtain⟨X,hX⟩:∃X,Qca K.r.funcs K.F 0 n args u=X:=⟨_,rfl⟩
 rw[hX];have hq:X=if u=10000 then .fault 14 u else .fault 7 (u+1):=by rw[<-hX];rfl
 have HQ:=Zh hq;have cs:=Y2 K hk W u 100 hm hu;have HM:=Zh hm;clear hX hq hi hv hf hm;go_enter func81,ntmps81;go_wp2_with fail;refine cs.mono ?_;intro e w2 h2;unfold QfS at h2
 by_cases h:u=10000
 ·rw[if_pos h]at h2;obtain⟨rfl,rfl⟩:=h2;refine⟨rfl,?_⟩;rw[HQ.o,if_pos h];exact⟨rfl,⟨100,HM.o⟩,Chg.refl _ _⟩
 ·rw[if_neg h]at h2;have D5:Hi (X=.fault 7 (u+1)):=by rw[Hi,HQ.o,if_neg h]
  obtain⟨rfl,xA,E1⟩:=h2;have yA:w2.cell? ⟨K.p,16,none⟩=some (Iv 100):=Ja xA.self 16;have Q8:=Zh xA;have L6:=Zh E1;go_wp2;refine⟨rfl,?_⟩;rw[D5.o];exact⟨rfl,⟨100,Q8.o⟩,L6.o⟩
def Jgf(K:Qar)(hk:K.Ok)(c d:Nat)(NC:c+(d+1)=100)(IH:∀n,QhO K (c+1) d n):QfT K c (d+1):=by
 intro n args av f W u h0 hf hv hu hm hi;obtain⟨X,hX⟩:∃X,Qca K.r.funcs K.F (d+1) n args u=X:=⟨_,rfl⟩
 rw[hX];have hq:X=if u=10000 then .fault 14 u else evK K d args (u+1) (K.r.funcs.getD n.toNat Qmv).body:=by rw[<-hX];rfl
 obtain⟨i,rfl⟩:∃i:Nat,n=i:=⟨n.toNat,by omega⟩
 rw[Int.toNat_natCast]at hf hq;obtain⟨g,hg,aA,e1,e2⟩:=Jig hf;have gA:K.r.funcs.getD i Qmv=g:=by rw[List.getD_eq_getElem?_getD,hg];rfl
 rw[gA]at hq;rw[e1]at hv;have hil:(i:Int)<(K.r.funcs.length:Int):=by have:=(List.getElem?_eq_some_iff.1 hg).1;omega
 obtain⟨b,o,pa,pc,da,dc,G3,hfc⟩:=hk.fns.get hg;obtain⟨_,mA,iA,hsz⟩:=hk.rsz.fn g aA
 have kA:∀w',QcN K w' (u+1) (c+1)->Chg [K.p] W w'->u+1<=10000->EvH K (c+1) g.body #[Iv g.body.kind,Iv g.body.num,.string (bs g.body.name),.slice da g.body.kids.length dc] args g.params av 40 g.result w' (u+1):=λw' h1 h2 h3=>
  ⟨iA,by have:=hv.1;omega,hfc.body,JfD hk.tr aA,Jdc hk.ty aA,hv,h3,h1,hi.chg h2⟩
 have qA:=Zh kA;have HQ:=Zh hq;have nA:=Zh IH;have vA:=Zh hfc;have xA:K.fa=some ⟨b,o,none⟩:=G3;have pA:=Zh xA;have cs:=Y2 K hk W u c hm hu;have HM:=Zh hm;obtain⟨va,vc,rfl⟩:=hi.form';clear hX hq hi hv hf hm hg aA e1 e2 gA G3 hfc xA kA iA hsz mA IH;go_enter func81,ntmps81;go_wp2_with fail;refine cs.mono ?_;intro e w2 h2;unfold QfS at h2
 by_cases h:u=10000
 ·rw[if_pos h]at h2;obtain⟨rfl,rfl⟩:=h2;refine⟨rfl,?_⟩;rw[HQ.o,if_pos h];exact⟨rfl,⟨c,HM.o⟩,Chg.refl _ _⟩
 ·rw[if_neg h]at h2;obtain⟨rfl,zA,E1⟩:=h2;have eA:w2.cell? ⟨K.p,16,none⟩=some (Iv c):=Ja zA.self 16;have hA:=Jc zA.self 16;have hlt:=zA.lt;have dA:((c:Int)==100)=false:=zzq zo;have uA:(c==100)=false:=zzq zo;have wc:=zI c;have bA:=zA.setC hk (c+1);have A5:Chg [K.p] W (w2.setCell ⟨K.p,16,none⟩ (Iv ((c+1:Nat):Int))):=E1.setCell (.inl zp) _;rw[Int.natCast_add,Int.natCast_one]at bA A5;have cA:=Zh bA;have A7:=Zh A5;have jA:u+1<=10000:=zo
  have D5:Hi (X=evK K d args (u+1) g.body):=by rw[Hi,HQ.o,if_neg h]
  have HU:=Zh jA;go_upto_region 5 with fail;generalize World.setCell w2 _ _=w3 at*;have b0:w3.cell? ⟨K.p,0,none⟩=some (.slice K.fa K.r.funcs.length K.fc):=Ja cA.o.self 0;rw[pA.o]at b0;have yA:∀j u,K.w0.cell? ⟨b,o+i*7+j,none⟩=some u->w3.cell? ⟨b,o+i*7+j,none⟩=some u:=λj u hu=>(cA.o.bel.cell (p:=⟨b,o+i*7+j,none⟩) vA.o.blt).trans hu
  have c3:=yA 3 _ vA.o.c3;have c4:=yA 4 _ vA.o.c4;have c5:=yA 5 _ vA.o.c5;have c6:=yA 6 _ vA.o.c6;have hH:=qA.o w3 cA.o A7.o HU.o;have rA:=Zh (hH.ok hk d);have ci:=nA.o _ g.body _ args g.params _ _ _ w3 (u+1) zzl hH;go_wp2_with fail;refine ci.mono ?_;rw[<-D5.o]
  cases X with
  |fault er u9=>
   rintro e w9 ⟨rfl,N4,D3⟩;refine⟨rfl,?_⟩;exact⟨rfl,N4,A7.o.trans D3⟩
  |val v9 u9=>
   rintro e w9 ⟨rfl,N4,D3⟩;have eA:w9.cell? ⟨K.p,16,none⟩=some (Iv ((c:Int)+1)):=Ja N4.self 16;have hA:=Jc N4.self 16;have hlt:=N4.lt;have wd:IntKind.i64.wrap ((c:Int)+1-1)=(c:Int):=by rw[IntWalk.i64_in _ zo];omega
   have sA:(c:Int)+1-1=(c:Int):=zo
   have d7:=Zh (N4.setC hk c);have I6:Hi (Chg [K.p] W (w9.setCell ⟨K.p,16,none⟩ (Iv c))):=(A7.o.trans D3).setCell (.inl zp) _;go_wp2;go_ret;exact⟨rfl,d7.o,I6.o⟩
def Jcs(K:Qar)(hk:K.Ok)(c d:Nat)(HC:QfT K c d):∀n,QhO K c d n
 |0=>λe cs M0 N0 vv Qad t W u hn h=>by
  have:=KN (utN e);omega
 |n+1=>λe cs M0 N0 vv Qad t W u hn h=>by
  have IH:=Jcs K hk c d HC n;obtain⟨k,nn,s,l⟩:=e;have xA:Qaz (utL l)<=n:=by rw[utN,JA]at hn;omega
  obtain⟨_,hf,ha,_⟩:=J6 h.fit
  rcases Jbb hf with rfl|rfl|rfl|rfl|rfl|rfl|rfl|rfl|h8|rfl|rfl|rfl|rfl|rfl|rfl
  ·exact Jjv K hk c d n IH nn s l cs M0 N0 vv Qad t W u xA h
  ·exact JhO K hk c d n IH nn s l cs M0 N0 vv Qad t W u xA h
  ·exact Jjw K hk c d n IH nn s l cs M0 N0 vv Qad t W u xA h
  ·exact JhP K hk c d n IH nn s l cs M0 N0 vv Qad t W u xA h
  ·exact Jgc K hk c d n IH nn s l cs M0 N0 vv Qad t W u xA h
  ·exact JhQ K hk c d n IH nn s l cs M0 N0 vv Qad t W u xA h
  ·exact Y7 K hk c d n IH HC 6 nn s l cs M0 N0 vv Qad t W u xA h (.inl zd)
  ·exact Y7 K hk c d n IH HC 7 nn s l cs M0 N0 vv Qad t W u xA h (.inl zd)
  ·exact Y7 K hk c d n IH HC k nn s l cs M0 N0 vv Qad t W u xA h (.inl zo)
  ·exact Y7 K hk c d n IH HC 15 nn s l cs M0 N0 vv Qad t W u xA h (.inl zd)
  ·obtain⟨a,b,rfl⟩:=KD (show l.length=2 from ha);exact Jjx K hk c d n IH nn s a b cs M0 N0 vv Qad t W u xA h
  ·obtain⟨a,b,rfl⟩:=KD (show l.length=2 from ha);exact Jkp K hk c d n IH nn s a b cs M0 N0 vv Qad t W u xA h
  ·obtain⟨z,a,b,rfl⟩:=Zu (show l.length=3 from ha);exact Jkq K hk c d n IH nn s z a b cs M0 N0 vv Qad t W u xA h
  ·obtain⟨a,b,rfl⟩:=KD (show l.length=2 from ha);exact Jjy K hk c d n IH nn s a b cs M0 N0 vv Qad t W u xA h
  ·exact Y7 K hk c d n IH HC 20 nn s l cs M0 N0 vv Qad t W u xA h (.inr rfl)
def Jdl(K:Qar)(hk:K.Ok):∀d c,c+d=100->QfT K c d
 |0,c,h=>by
  obtain rfl:c=100:=zo
  exact Jge K hk
 |d+1,c,h=>Jgf K hk c d h (Jcs K hk (c+1) d (Jdl K hk d (c+1) zo))
def Jgg(K:Qar)(hk:K.Ok)(e:Exp)(cs:Array Value)(M0 N0:List Int)(vv:Value)(Qad:Nat)(t:Int)(W:World)(u:Nat)(h:EvH K 0 e cs M0 N0 vv Qad t W u):
  Calls prog 42 #[Pt K.p,.agg cs,vv] W (EvP K W 0 (evN (Qca K.r.funcs K.F 100) K.F M0 u e)):=
 Jcs K hk 0 100 (Jdl K hk 100 0 rfl) _ e cs M0 N0 vv Qad t W u zzl h
def Qoo(x0 x1 x2 x3 x4 x5 x6 x7:Int):∀(i:Nat)(v:Int),[x0,x1,x2,x3,x4,x5,x6,x7][i]?=some v->∀W:World,(Instr.index 89 (.agg #[Iv x0,Iv x1,Iv x2,Iv x3,Iv x4,Iv x5,Iv x6,Iv x7]) (Iv (i:Int))).run prog W=.ok (Iv v) W
 |0,v,h,W=>by obtain rfl:=Option.some.inj h;kernel_rfl
 |1,v,h,W=>by obtain rfl:=Option.some.inj h;kernel_rfl
 |2,v,h,W=>by obtain rfl:=Option.some.inj h;kernel_rfl
 |3,v,h,W=>by obtain rfl:=Option.some.inj h;kernel_rfl
 |4,v,h,W=>by obtain rfl:=Option.some.inj h;kernel_rfl
 |5,v,h,W=>by obtain rfl:=Option.some.inj h;kernel_rfl
 |6,v,h,W=>by obtain rfl:=Option.some.inj h;kernel_rfl
 |7,v,h,W=>by obtain rfl:=Option.some.inj h;kernel_rfl
 |i+8,v,h,W=>by simp at h
def QbR(l:List (By×Int))(i:Nat):Option By:=if i=0 then none else (l[i-1]?).map (·.1)
def Qcu(l:List By)(i:Nat):Option By:=if i=0 then none else l[i-1]?
def Jbq(p:Option By)(c:By×Int)(l:List (By×Int)):QaE p (c::l)=(decide (1<=c.2)&&decide (c.2<=1125899906842624)&&(match p with|none=>true|some q=>ltB q c.1)&&QaE (some c.1) l):=by
 cases p<;>rfl
def Jct(p:Option By)(c:By)(l:List By):Qbx p (c::l)=((match p with|none=>true|some q=>ltB q c)&&Qbx (some c) l):=by
 cases p<;>rfl
def Jgh{l:List (By×Int)}{i:Nat}{a:By×Int}{b:Bool}(h:QaE (QbR l i) (l.drop i)=b)(hi:l[i]?=some a):
  (decide (1<=a.2)&&decide (a.2<=1125899906842624)&&(match QbR l i with|none=>true|some q=>ltB q a.1)&&QaE (QbR l (i+1)) (l.drop (i+1)))=b:=by
 obtain⟨hlt,he⟩:=List.getElem?_eq_some_iff.1 hi;rw[List.drop_eq_getElem_cons hlt,he,Jbq]at h;have:QbR l (i+1)=some a.1:=by unfold QbR;rw[if_neg zo,Nat.add_sub_cancel,hi];rfl
 rw[this];exact h
def Jeh{l:List By}{i:Nat}{a:By}{b:Bool}(h:Qbx (Qcu l i) (l.drop i)=b)(hi:l[i]?=some a):
  ((match Qcu l i with|none=>true|some q=>ltB q a)&&Qbx (Qcu l (i+1)) (l.drop (i+1)))=b:=by
 obtain⟨hlt,he⟩:=List.getElem?_eq_some_iff.1 hi;rw[List.drop_eq_getElem_cons hlt,he,Jct]at h;have:Qcu l (i+1)=some a:=by unfold Qcu;rw[if_neg zo,Nat.add_sub_cancel,hi]
 rw[this];exact h
def Qnd{P:Prop}(h:P:=by
  go_wp2;go_roundg (F.labels.length-(i+1))
  case measure=>have:=HG.o;have:=B3.o;omega
  case rel=>exact⟨i+1,by have:=B3.o;omega,by go_num,DA,D2⟩):P:=h
def QkU{P:Prop}(h:P:=by
  go_region;clear b0 b1 b2 b3 b4 b5 b6 b7 b8 b9 b10 b11 c0 c1;go_wp2;go_ret
  exact⟨rfl,E0.o⟩):P:=h
theorem zAi{P:Prop}(h:P:=by
  go_wp2;go_round
  case rel=>exact⟨j+1,by go_num,wA,D2⟩
  case measure=>simp[intOf];omega):P:=h
def Vi(F:Qav)(lv wv:Value)(w:World)(hz:FSz F)(hl:Qbm w lv F.labels)(hw:QaF w wv F.words):Calls prog 15 #[.agg (QaI F lv wv)] w (QbL w (.bool (Qbs F))):=by
 obtain⟨la,lc,rfl,_⟩:=hl.form;obtain⟨wa,wc,rfl,_⟩:=hw.form;obtain⟨q,hq⟩:∃q,Qbs F=q:=⟨_,rfl⟩
 rw[hq];have HQ:Hi ((F.nums.all Qer&&QaE none F.labels&&Qbx none F.words)=q):=hq;unfold QaI;have dA:Below w.heap.size w (w.alloc (.cells #[.slice la F.labels.length lc,Iv F.likes,Iv F.boosts,Iv F.replies,Iv F.reports,Iv F.age,Iv F.home,Iv F.scope,Iv F.length,.bool F.follows,.bool F.reply,.slice wa F.words.length wc] 25)):=zzb.alloc zzl _;have S0:=Zh (zzw w (.cells #[.slice la F.labels.length lc,Iv F.likes,Iv F.boosts,Iv F.replies,Iv F.reports,Iv F.age,Iv F.home,Iv F.scope,Iv F.length,.bool F.follows,.bool F.reply,.slice wa F.words.length wc] 25));have B0:Hi (∀W,Below (w.alloc (.cells #[.slice la F.labels.length lc,Iv F.likes,Iv F.boosts,Iv F.replies,Iv F.reports,Iv F.age,Iv F.home,Iv F.scope,Iv F.length,.bool F.follows,.bool F.reply,.slice wa F.words.length wc] 25)).heap.size (w.alloc (.cells #[.slice la F.labels.length lc,Iv F.likes,Iv F.boosts,Iv F.replies,Iv F.reports,Iv F.age,Iv F.home,Iv F.scope,Iv F.length,.bool F.follows,.bool F.reply,.slice wa F.words.length wc] 25)) W->Bel w W):=λW hW=>Je dA hW
 have bA:Qbm (w.alloc (.cells #[.slice la F.labels.length lc,Iv F.likes,Iv F.boosts,Iv F.replies,Iv F.reports,Iv F.age,Iv F.home,Iv F.scope,Iv F.length,.bool F.follows,.bool F.reply,.slice wa F.words.length wc] 25)) (.slice la F.labels.length lc) F.labels:=hl.up dA;have aA:QaF (w.alloc (.cells #[.slice la F.labels.length lc,Iv F.likes,Iv F.boosts,Iv F.replies,Iv F.reports,Iv F.age,Iv F.home,Iv F.scope,Iv F.length,.bool F.follows,.bool F.reply,.slice wa F.words.length wc] 25)) (.slice wa F.words.length wc) F.words:=hw.up dA;have pA:=Zh bA;have mA:=Zh aA;have eB:=hz.nl;have gB:=hz.nw;have tA:=Zh (Qoo F.likes F.boosts F.replies F.reports F.age F.home F.scope F.length);have jA:Hi (F.nums=[F.likes,F.boosts,F.replies,F.reports,F.age,F.home,F.scope,F.length]):=rfl;go_enter func15,ntmps15;go_upto_region 1 with fail;have S3:Hi (w.heap.size<(w.alloc (.cells #[.slice la F.labels.length lc,Iv F.likes,Iv F.boosts,Iv F.replies,Iv F.reports,Iv F.age,Iv F.home,Iv F.scope,Iv F.length,.bool F.follows,.bool F.reply,.slice wa F.words.length wc] 25)).heap.size):=Jb S0.o;generalize World.alloc w _=w1 at*;generalize w.heap.size=eb at*
 have FF:Hi (∀W,Below w1.heap.size w1 W->W.cell? ⟨eb,0,none⟩=some (.slice la F.labels.length lc)/\W.cell? ⟨eb,1,none⟩=some (Iv F.likes)/\W.cell? ⟨eb,2,none⟩=some (Iv F.boosts)/\W.cell? ⟨eb,3,none⟩=some (Iv F.replies)/\W.cell? ⟨eb,4,none⟩=some (Iv F.reports)/\W.cell? ⟨eb,5,none⟩=some (Iv F.age)/\W.cell? ⟨eb,6,none⟩=some (Iv F.home)/\W.cell? ⟨eb,7,none⟩=some (Iv F.scope)/\W.cell? ⟨eb,8,none⟩=some (Iv F.length)/\W.cell? ⟨eb,9,none⟩=some (.bool F.follows)/\W.cell? ⟨eb,10,none⟩=some (.bool F.reply)/\W.cell? ⟨eb,11,none⟩=some (.slice wa F.words.length wc)):=by
  intro W hW;have hh:=(hW.block _ S3.o).trans S0.o;refine⟨?_,?_,?_,?_,?_,?_,?_,?_,?_,?_,?_,?_⟩<;>(rw[Ja hh];rfl)
 obtain⟨b0,b1,b2,b3,b4,b5,b6,b7,b8,b9,b10,b11⟩:=FF.o _ zzb;go_wp2_with fail;go_loop [26] (λv=>∃k:Nat,v=Iv k/\k<=8/\Hi ((F.nums.take k).all Qer=true)) λv=>8-(intOf v).toNat
 case atStart=>exact⟨0,rfl,by omega,rfl⟩
 case round=>
 obtain⟨k,rfl,hk,uA⟩:=hrel;have wk:=zI k
 by_cases s9:k<8
 ·have rA:(k:Int)<8:=zo
  obtain⟨x,hx⟩:∃x,F.nums[k]?=some x:=⟨F.nums[k]'(by rw[jA.o];exact s9),getElem?_eq_getElem _⟩
  have cB:=tA.o k x (by rw[<-jA.o];exact hx);have vA:=Zh hx
  by_cases h0:0<=x
  ·have d0:decide (x<0)=false:=zF zo
   by_cases hM:x<=1125899906842624
   ·have dM:decide (1125899906842624<x)=false:=zF zo;have zB:=Zh (KK uA.o vA.o (by unfold Qer;rw[zE h0,zE hM];rfl));go_wp2;go_round
    case rel=>exact⟨k+1,by go_num,s9,zB⟩
    case measure=>simp[intOf];omega
   ·have dM:decide (1125899906842624<x)=true:=zE zo;have O0:q=false:=by rw[<-HQ.o,KQ vA.o (by unfold Qer;rw[zF hM];simp)];rfl
    subst O0;have E0:=Zh (B0.o _ zzb);go_wp2;go_ret;exact⟨rfl,E0.o⟩
  ·have d0:decide (x<0)=true:=zE zo;have O0:q=false:=by rw[<-HQ.o,KQ vA.o (by unfold Qer;rw[zF h0];rfl)];rfl
   subst O0;have E0:=Zh (B0.o _ zzb);go_wp2;go_ret;exact⟨rfl,E0.o⟩
 have rA:¬(k:Int)<8:=zo
 have eA:k=8:=zo
 subst eA
 replace HQ:Hi ((QaE (QbR F.labels 0) (F.labels.drop 0)&&Qbx none F.words)=q):=by
  have h1:=HQ.o;have h2:=uA.o;rw[show F.nums.take 8=F.nums from rfl]at h2;rw[h2]at h1;exact h1
 obtain⟨b0,b1,b2,b3,b4,b5,b6,b7,b8,b9,b10,b11⟩:=FF.o _ zzb;have sA:Hi (Below w1.heap.size w1 w1):=zzb;go_wp2_with fail;obtain⟨lb,kA⟩:∃lb,QaE (QbR F.labels 0) (F.labels.drop 0)=lb:=⟨_,rfl⟩
 have qA:=Zh kA;rw[kA]at HQ;go_loopg [39] F.labels.length λg v39 wr=>∃i:Nat,g+i=F.labels.length/\v39=Iv i/\Hi (Below w1.heap.size w1 wr)/\Hi (QaE (QbR F.labels i) (F.labels.drop i)=lb)
 case atStart=>exact⟨0,rfl,rfl,sA,qA⟩
 case round=>
 obtain⟨wl,rfl⟩:=zG wr
 obtain⟨i,hg,rfl,G1,xA⟩:=hrel
 by_cases hi:i<F.labels.length
 ·have hil:(i:Int)<(F.labels.length:Int):=zo
  have wk:=zI i;obtain⟨a,ha⟩:∃a,F.labels[i]?=some a:=⟨F.labels[i],getElem?_eq_getElem hi⟩
  have hA:=pA.o.up G1.o;obtain⟨b,o,yA,_,c0,c1⟩:=hA.get ha;have hst:=Jgh xA.o ha;obtain⟨nm,ct⟩:=a;dsimp only at c0 c1 hst;have D2:=Zh hst;have I0:Below wl.heap.size wl (wl.alloc (.cells #[Sv nm,Iv ct] 91)):=zzb.alloc zzl _;have P2:=Zh (Je G1.o I0);have A2:=Zh (zzw wl (.cells #[Sv nm,Iv ct] 91));have D8:=Zh (hA.up I0);have HG:=Zh hg;have B3:=Zh hi;have yB:=Zh yA;have R4:=yA;subst R4;go_upto_region 10 with fail;have dB:Hi (wl.heap.size<(wl.alloc (.cells #[Sv nm,Iv ct] 91)).heap.size):=Jb A2.o;generalize World.alloc wl _=w3 at*;generalize wl.heap.size=cb at*;have c0:=Ja A2.o 0;have c1:=Ja A2.o 1;simp only[zW]at c0 c1;obtain⟨b0,b1,b2,b3,b4,b5,b6,b7,b8,b9,b10,b11⟩:=FF.o _ P2.o;have E0:Hi (Bel w w3.drew):=B0.o _ P2.o.drew;have DA:Hi (Below w1.heap.size w1 w3.drew):=P2.o.drew;have u1:=Jk nm
  by_cases h1:1<=ct
  ·have d1:decide (ct<1)=false:=zF zo
   replace D2:Hi ((decide (ct<=1125899906842624)&&(match QbR F.labels i with|none=>true|some q=>ltB q nm)&&QaE (QbR F.labels (i+1)) (F.labels.drop (i+1)))=lb):=by
    have h2:=D2.o;rw[zE h1,Bool.true_and]at h2;exact h2
   by_cases hM:ct<=1125899906842624
   ·have dM:decide (1125899906842624<ct)=false:=zF zo
    replace D2:Hi (((match QbR F.labels i with|none=>true|some q=>ltB q nm)&&QaE (QbR F.labels (i+1)) (F.labels.drop (i+1)))=lb):=by
     have h2:=D2.o;rw[zE hM,Bool.true_and]at h2;exact h2
    by_cases Y9:i=0
    ·have di:decide ((0:Int)<(i:Int))=false:=zF zo;have iA:decide (0<i)=false:=zF zo
     replace D2:Hi (QaE (QbR F.labels (i+1)) (F.labels.drop (i+1))=lb):=by
      have h2:=D2.o;rw[show QbR F.labels i=none by unfold QbR;rw[if_pos Y9]]at h2;exact h2
     go_region;exact Qnd
    ·have di:decide ((0:Int)<(i:Int))=true:=zE zo;have iA:decide (0<i)=true:=zE zo;obtain⟨p,hp⟩:∃p,F.labels[i-1]?=some p:=⟨F.labels[i-1]'(zt B3.o),getElem?_eq_getElem _⟩
     obtain⟨b',o',O1,_,p0,_⟩:=D8.o.get hp;injection O1 with O1;injection O1 with e1 e2 e3;subst e1 e2;obtain⟨pn,pc⟩:=p;dsimp only at p0;have wm:IntKind.i64.wrap ((i:Int)-1)=(i:Int)-1:=IntWalk.i64_in _ zo;have bB:((i:Int)-1).toNat=i-1:=zo
     have aB:(0:Int)<=(i:Int)-1:=zo
     have vB:(1:Int)<=(i:Int):=zo
     have gA:1<=i:=zo
     have uB:(i:Int)-1<(F.labels.length:Int):=zo
     have u2:=Jk pn;have cA:QbR F.labels i=some pn:=by unfold QbR;rw[if_neg Y9,hp];rfl
     rw[cA]at D2;clear Y9 hp cA
     cases hlt:ltB pn nm with
     |true=>
      have zA:Op.bytesLess pn nm=true:=hlt
      replace D2:Hi (QaE (QbR F.labels (i+1)) (F.labels.drop (i+1))=lb):=by
       have h2:=D2.o;simp only[hlt,Bool.true_and]at h2;exact h2
      clear hlt;go_region;clear b0 b1 b2 b3 b4 b5 b6 b7 b8 b9 b10 b11 c0 c1 p0;exact Qnd
     |false=>
      have zA:Op.bytesLess pn nm=false:=hlt
      have O0:q=false:=by
       have h2:=D2.o;simp only[hlt,Bool.false_and]at h2;rw[<-HQ.o,<-h2];rfl
      subst O0;clear hlt D2;go_region;clear b0 b1 b2 b3 b4 b5 b6 b7 b8 b9 b10 b11 c0 c1 p0;go_wp2;go_ret;exact⟨rfl,E0.o⟩
   ·have dM:decide (1125899906842624<ct)=true:=zE zo
    have O0:q=false:=by
     have h2:=D2.o;rw[zF hM,Bool.false_and,Bool.false_and]at h2;rw[<-HQ.o,<-h2];rfl
    subst O0;clear h1 hM D2;exact QkU
  ·have d1:decide (ct<1)=true:=zE zo
   have O0:q=false:=by
    have h2:=D2.o;rw[zF h1,Bool.false_and,Bool.false_and,Bool.false_and]at h2;rw[<-HQ.o,<-h2];rfl
   subst O0;clear h1 D2;exact QkU
 have hil:¬(i:Int)<(F.labels.length:Int):=zo
 obtain rfl:i=F.labels.length:=zo
 have hlt:lb=true:=by rw[<-xA.o,List.drop_length];rfl
 subst hlt;replace HQ:Hi (Qbx (Qcu F.words 0) (F.words.drop 0)=q):=HQ.o;obtain⟨b0,b1,b2,b3,b4,b5,b6,b7,b8,b9,b10,b11⟩:=FF.o _ G1.o;have E0:Hi (Bel w wl):=B0.o _ G1.o;have nA:Hi (QaF wl (.slice wa F.words.length wc) F.words):=mA.o.up G1.o;have S4:=Zh G1.o;clear xA hg hi G1 mA pA;go_wp2_with fail;clear b0 b1 b2 b3 b4 b5 b6 b7 b8 b9 b10 b11 hil;go_loop [72] (λv=>∃j:Nat,v=Iv j/\j<=F.words.length/\Hi (Qbx (Qcu F.words j) (F.words.drop j)=q)) λv=>F.words.length-(intOf v).toNat
 case atStart=>exact⟨0,rfl,Nat.zero_le _,HQ⟩
 case round=>
 clear HQ;obtain⟨j,rfl,hj,xA⟩:=hrel;have wk:=zI j
 by_cases wA:j<F.words.length
 ·have hil:(j:Int)<(F.words.length:Int):=zo
  obtain⟨a,ha⟩:∃a,F.words[j]?=some a:=⟨F.words[j],getElem?_eq_getElem wA⟩
  obtain⟨b,o,yA,_,c0⟩:=nA.o.get ha;have hst:=Jeh xA.o ha;have D2:=Zh hst;obtain⟨b0,b1,b2,b3,b4,b5,b6,b7,b8,b9,b10,b11⟩:=FF.o _ S4.o;have u1:=Jk a
  by_cases PC:j=0
  ·have di:decide ((0:Int)<(j:Int))=false:=zF zo;have iA:decide (0<j)=false:=zF zo
   replace D2:Hi (Qbx (Qcu F.words (j+1)) (F.words.drop (j+1))=q):=by
    have h2:=D2.o;rw[show Qcu F.words j=none by unfold Qcu;rw[if_pos PC]]at h2;exact h2
   subst yA;clear PC hst ha xA;exact zAi
  ·have di:decide ((0:Int)<(j:Int))=true:=zE zo;have iA:decide (0<j)=true:=zE zo;obtain⟨p,hp⟩:∃p,F.words[j-1]?=some p:=⟨F.words[j-1]'(by omega),getElem?_eq_getElem _⟩
   obtain⟨b',o',O1,_,p0⟩:=nA.o.get hp;rw[yA]at O1;injection O1 with O1;injection O1 with e1 e2 e3;subst e1 e2;have wm:IntKind.i64.wrap ((j:Int)-1)=(j:Int)-1:=IntWalk.i64_in _ zo;have bB:((j:Int)-1).toNat=j-1:=zo
   have aB:(0:Int)<=(j:Int)-1:=zo
   have vB:(1:Int)<=(j:Int):=zo
   have gA:1<=j:=zo
   have uB:(j:Int)-1<(F.words.length:Int):=zo
   have u2:=Jk p;have cA:Qcu F.words j=some p:=by unfold Qcu;rw[if_neg PC,hp]
   rw[cA]at D2;subst yA;clear PC hp cA hst ha xA
   cases hlt:ltB p a with
   |true=>
    have zA:Op.bytesLess p a=true:=hlt
    replace D2:Hi (Qbx (Qcu F.words (j+1)) (F.words.drop (j+1))=q):=by
     have h2:=D2.o;simp only[hlt,Bool.true_and]at h2;exact h2
    clear hlt;exact zAi
   |false=>
    have zA:Op.bytesLess p a=false:=hlt
    have O0:q=false:=by
     have h2:=D2.o;simp only[hlt,Bool.false_and]at h2;exact h2.symm
    subst O0;clear hlt D2;go_wp2;go_ret;exact⟨rfl,E0.o⟩
 ·have hil:¬(j:Int)<(F.words.length:Int):=zo
  obtain rfl:j=F.words.length:=zo
  have xB:q=true:=by rw[<-xA.o,List.drop_length];rfl
  subst xB;clear xA wA hj;go_wp2;go_ret;exact⟨rfl,E0.o⟩
def Qmx(w:World)(b:Nat):Prop:=w.heap.size<=b
def QfU(X:QjK):Array Value:=#[Iv X.action,.string (bs X.reason),Iv X.used,Iv X.fault]
def QkP(w:World)(X:QjK)(e:Ending)(w':World):Prop:=e=.returned (.agg (QfU X))/\Below w.heap.size w w'
def Qiw:(prog.info? 36).map (·.size)=some 4:=zk
def Qgt{w:World}{T t:Nat}{a0 a1 a2 a3:Value}(v0 v1 v2 v3:Value)(h:w.heap[T]?=some (.cells #[a0,a1,a2,a3] t (0,0))):
  ((((w.setCell ⟨T,0,none⟩ v0).setCell ⟨T,1,none⟩ v1).setCell ⟨T,2,none⟩ v2).setCell ⟨T,3,none⟩ v3).heap[T]?=some (.cells #[v0,v1,v2,v3] t (0,0)):=by
 rw[JC (JC (JC (JC h 0 v0) 1 v1) 2 v2) 3 v3];rfl
def KS{W:World}{ob:Nat}{cs:Array Value}(h:W.heap[ob]?=some (.cells cs 36 (0,0)))(hs:cs.size=4)(tmps:Array Value)(h4:tmps.getD 4 undef=Pt ob):
  (results f13 tmps).run prog W=.ok (.agg cs) W:=by
 have q4:tmps[4]?.getD undef=Pt ob:=by simpa using h4
 have l1:=run_loadVar_row (P:=prog) W ob 36 36 cs (0,0) _ h underlying36 rfl (by rw[hs];exact Qiw);simp[results,results13,q4,asAddr,l1]
def Jcu(p q:Addr)(w:World):
  CallsD prog 40 #[.pointer (some p),.pointer (some q)] .returning w λe u' w'=>e=.returned (.tuple #[])/\u'=.returning/\Below w.heap.size w w':=by
 have ta:∀w,(Instr.typeAssert .nilIface 20 83 true).run prog w=.ok (.tuple #[Iv 0,.bool false]) w:=λ_=>by kernel_rfl
 refine callsD_of_wpS func40 rfl λc₀ cs hu=>?_
 apply wpS_seq;apply wpS_region;simp[wpOpsS,go_sem,recoverD,hu,ntmps40,Exit.thenS,ta];apply wpS_seq;apply wpS_region;simp[wpOpsS,go_sem,Exit.thenS];refine wpS_cond (t:=false) (by simp[Act.eval,Array.replicate]) ?_;simp only[Bool.false_eq_true,if_false];refine wpS_of_wp (wp_skip ?_)
 cases c₀
 simp only[bodyPostS,results,results40];refine⟨by simp,.returning,by simp_all,.tuple #[],by simp[go_sem],rfl,rfl,zzb⟩
def Yd(K:Qar)(u c pm ob:Nat)(er:Int)(older:List PanicEntry)(w:World)(hm:QcN K w u c)(hp:w.heap[pm]?=some (.cells #[Pt K.p] 80 (0,0)))(ho:w.heap[ob]?=some (.cells #[Iv 0,Em,Iv 0,Iv 0] 36 (0,0))):
  CallsD prog 40 #[Pt pm,Pt ob] (.panicking ({v:=.iface 83 (Iv er),recovered:=false}::older)) w λen u' w'=>
   en=.returned (.tuple #[])/\u'=.panicking ({v:=.iface 83 (Iv er),recovered:=true}::older)/\w'.heap[ob]?=some (.cells (QfU ⟨0,[],u,er⟩) 36 (0,0))/\Chg [ob] w w':=by
 have ta:∀w,(Instr.typeAssert (.iface 83 (Iv er)) 20 83 true).run prog w=.ok (.tuple #[Iv er,.bool true]) w:=λ_=>by kernel_rfl
 refine callsD_of_wpS func40 rfl λc₀ cs hu=>?_
 apply wpS_seq;apply wpS_region;simp[wpOpsS,go_sem,recoverD,hu,ntmps40,Exit.thenS,ta];apply wpS_seq;apply wpS_region;simp[wpOpsS,go_sem,Exit.thenS];refine wpS_cond (t:=true) (by simp[Act.eval,Array.replicate]) ?_;simp only[if_true];refine wpS_of_wp ?_;have p0:=Ja hp 0;have yA:w.cell? ⟨K.p,15,none⟩=some (Iv u):=Ja hm.self 15;have o0:=Ja ho 0;have o1:=Ja ho 1;have o2:=Ja ho 2;have o3:=Ja ho 3;have f0:=Jc ho 0;have f1:=Jc ho 1;have f2:=Jc ho 2;have f3:=Jc ho 3;have hlo:=Jb ho;simp only[zW]at p0 o0 o1 o2 o3;have A0:=Qgt (Iv 0) Em (Iv u) (Iv er) ho;have I4:Chg [ob] w ((((w.setCell ⟨ob,0,none⟩ (Iv 0)).setCell ⟨ob,1,none⟩ Em).setCell ⟨ob,2,none⟩ (Iv u)).setCell ⟨ob,3,none⟩ (Iv er)):=((((Chg.refl _ _).setCell (.inl zp) _).setCell (.inl zp) _).setCell (.inl zp) _).setCell (.inl zp) _;have xA:=Zh A0;have R7:=Zh I4;clear A0 I4 hm hp ho;go_wp2
 cases c₀
 simp only[bodyPostS,results,results40];exact⟨by trivial,_,rfl,.tuple #[],by simp[go_sem],rfl,rfl,xA.o,R7.o⟩
structure RrI(K:Qar)(ob pm:Nat)(W:World)(u:Nat):Prop where
 mr:QcN K W u 0
 pmb:W.heap[pm]?=some (.cells #[Pt K.p] 80 (0,0))
 res:W.heap[ob]?=some (.cells #[Iv 0,Em,Iv 0,Iv 0] 36 (0,0))
 low:K.w0.heap.size<=ob/\K.w0.heap.size<=pm/\ob≠K.p/\pm≠K.p
def RrI.on{K:Qar}{ob pm:Nat}{W W':World}{u u' c:Nat}(h:RrI K ob pm W u)(hc:Chg [K.p] W W')(hm:QcN K W' u' 0):RrI K ob pm W' u':=
 ⟨hm,hc.heap_some (by simpa using h.low.2.2.2) h.pmb,hc.heap_some (by simpa using h.low.2.2.1) h.res,h.low⟩
def Jbr{K:Qar}{ob pm:Nat}{W W':World}{u:Nat}(er:Int){u' c:Nat}(h:RrI K ob pm W u)(hc:Chg [K.p] W W')(hm:QcN K W' u' c)(tmps:Array Value)(h4:tmps.getD 4 undef=Pt ob):
  Leaves prog f13 tmps (QkP K.w0 ⟨0,[],u',er⟩) [{target:=.fn (.func 40) #[Pt pm,Pt ob],args:=#[]}] (.panicking [{v:=.iface 83 (Iv er),recovered:=false}]) W':=by
 refine leaves_cons (f:=40) (args:=#[Pt pm,Pt ob]) zp (by simp[go_sem]) ?_;refine(Yd K u' c pm ob er [] W' hm (hc.heap_some (by simpa using h.low.2.2.2) h.pmb) (hc.heap_some (by simpa using h.low.2.2.1) h.res)).mono ?_;rintro e u2 xA ⟨rfl,rfl,g1,E1⟩;exact⟨_,KS g1 rfl tmps h4,rfl,QdL hm.bel h.low.1 E1⟩
def JhR{K:Qar}{ob pm:Nat}{W:World}{X:QjK}(h:W.heap[ob]?=some (.cells (QfU X) 36 (0,0)))(hb:Bel K.w0 W)(tmps:Array Value)(h4:tmps.getD 4 undef=Pt ob):
  Leaves prog f13 tmps (QkP K.w0 X) [{target:=.fn (.func 40) #[Pt pm,Pt ob],args:=#[]}] .returning W:=by
 refine leaves_cons (f:=40) (args:=#[Pt pm,Pt ob]) zp (by simp[go_sem]) ?_;refine(Jcu _ _ W).mono ?_;rintro e u' xA ⟨rfl,rfl,I0⟩;exact⟨_,KS ((I0.block _ (Jb h)).trans h) rfl tmps h4,rfl,Je hb I0⟩
def RrI.o{K:Qar}{ob pm:Nat}{W:World}{u:Nat}(h:RrI K ob pm W u)(X:QjK):(∀j,W.frozen? ⟨ob,j,none⟩=false)/\ob<W.heap.size/\
  (((((W.setCell ⟨ob,0,none⟩ (Iv X.action)).setCell ⟨ob,1,none⟩ (.string (bs X.reason))).setCell ⟨ob,2,none⟩ (Iv X.used)).setCell ⟨ob,3,none⟩ (Iv X.fault)).heap[ob]?=some (.cells (QfU X) 36 (0,0)))/\
  Bel K.w0 ((((W.setCell ⟨ob,0,none⟩ (Iv X.action)).setCell ⟨ob,1,none⟩ (.string (bs X.reason))).setCell ⟨ob,2,none⟩ (Iv X.used)).setCell ⟨ob,3,none⟩ (Iv X.fault)):=
 ⟨λj=>Jc h.res j,Jb h.res,Qgt _ _ _ _ h.res,Below.setCell (Below.setCell (Below.setCell (Below.setCell h.mr.bel h.low.1 _) h.low.1 _) h.low.1 _) h.low.1 _⟩
def Qlm{P:Prop}(h:P:=by
  clear T2;go_region;clear f0 f1 f2 f3 o0 o1 o2 o3 hlo;go_wp2;rw[<-A6.o.1]
  exact JhR L7.o.2.2.1 L7.o.2.2.2 _ rfl):P:=h
def V4(r:Qah)(F:Qav)(c:Array Value)(lv wv:Value)(w:World)(hx:QaV w (In w) r c)(hz:RSz r)(hF:FSz F)(hl:Qbm w lv F.labels)(hw:QaF w wv F.words):
  Calls prog 13 #[.agg c,.agg (QaI F lv wv)] w (QkP w (QiT r F)):=by
 obtain⟨fa,fc,ca,cc,rfl,aC,hcl⟩:=hx.parts;obtain⟨la,lc,rfl,_⟩:=hl.form;obtain⟨wa,wc,rfl,_⟩:=hw.form;obtain⟨X,hX⟩:∃X,QiT r F=X:=⟨_,rfl⟩
 rw[hX];have hq:X=if QbJ r=true/\Qbs F=true then Qfm r F 0 r.clauses else⟨0,[],0,1⟩:=hX.symm;have HX:=Zh hq;have tB:Below w.heap.size w (((w.alloc (.cells #[.slice fa r.funcs.length fc,.slice ca r.clauses.length cc,Iv r.action] 30)).alloc (.cells #[.slice la F.labels.length lc,Iv F.likes,Iv F.boosts,Iv F.replies,Iv F.reports,Iv F.age,Iv F.home,Iv F.scope,Iv F.length,.bool F.follows,.bool F.reply,.slice wa F.words.length wc] 25)).alloc (.cells #[Iv 0,Em,Iv 0,Iv 0] 36)):=((zzb.alloc zzl _).alloc zp _).alloc zq _;have B0:Hi (∀W,Below (((w.alloc (.cells #[.slice fa r.funcs.length fc,.slice ca r.clauses.length cc,Iv r.action] 30)).alloc (.cells #[.slice la F.labels.length lc,Iv F.likes,Iv F.boosts,Iv F.replies,Iv F.reports,Iv F.age,Iv F.home,Iv F.scope,Iv F.length,.bool F.follows,.bool F.reply,.slice wa F.words.length wc] 25)).alloc (.cells #[Iv 0,Em,Iv 0,Iv 0] 36)).heap.size (((w.alloc (.cells #[.slice fa r.funcs.length fc,.slice ca r.clauses.length cc,Iv r.action] 30)).alloc (.cells #[.slice la F.labels.length lc,Iv F.likes,Iv F.boosts,Iv F.replies,Iv F.reports,Iv F.age,Iv F.home,Iv F.scope,Iv F.length,.bool F.follows,.bool F.reply,.slice wa F.words.length wc] 25)).alloc (.cells #[Iv 0,Em,Iv 0,Iv 0] 36)) W->Bel w W):=λW hW=>Je tB hW
 have mC:Hi ((((w.alloc (.cells #[.slice fa r.funcs.length fc,.slice ca r.clauses.length cc,Iv r.action] 30)).alloc (.cells #[.slice la F.labels.length lc,Iv F.likes,Iv F.boosts,Iv F.replies,Iv F.reports,Iv F.age,Iv F.home,Iv F.scope,Iv F.length,.bool F.follows,.bool F.reply,.slice wa F.words.length wc] 25)).alloc (.cells #[Iv 0,Em,Iv 0,Iv 0] 36)).heap[w.heap.size]?=some (.cells #[.slice fa r.funcs.length fc,.slice ca r.clauses.length cc,Iv r.action] 30 (0,0))):=Jf (Jf (zzw _ _))
 have L1:Hi ((((w.alloc (.cells #[.slice fa r.funcs.length fc,.slice ca r.clauses.length cc,Iv r.action] 30)).alloc (.cells #[.slice la F.labels.length lc,Iv F.likes,Iv F.boosts,Iv F.replies,Iv F.reports,Iv F.age,Iv F.home,Iv F.scope,Iv F.length,.bool F.follows,.bool F.reply,.slice wa F.words.length wc] 25)).alloc (.cells #[Iv 0,Em,Iv 0,Iv 0] 36)).heap[w.heap.size+1]?=some (.cells #[.slice la F.labels.length lc,Iv F.likes,Iv F.boosts,Iv F.replies,Iv F.reports,Iv F.age,Iv F.home,Iv F.scope,Iv F.length,.bool F.follows,.bool F.reply,.slice wa F.words.length wc] 25 (0,0))):=by
  have e1:=zzw (w.alloc (.cells #[.slice fa r.funcs.length fc,.slice ca r.clauses.length cc,Iv r.action] 30)) (.cells #[.slice la F.labels.length lc,Iv F.likes,Iv F.boosts,Iv F.replies,Iv F.reports,Iv F.age,Iv F.home,Iv F.scope,Iv F.length,.bool F.follows,.bool F.reply,.slice wa F.words.length wc] 25);simp only[World.size_alloc]at e1;exact Jf e1
 have tA:Hi ((((w.alloc (.cells #[.slice fa r.funcs.length fc,.slice ca r.clauses.length cc,Iv r.action] 30)).alloc (.cells #[.slice la F.labels.length lc,Iv F.likes,Iv F.boosts,Iv F.replies,Iv F.reports,Iv F.age,Iv F.home,Iv F.scope,Iv F.length,.bool F.follows,.bool F.reply,.slice wa F.words.length wc] 25)).alloc (.cells #[Iv 0,Em,Iv 0,Iv 0] 36)).heap[w.heap.size+1+1]?=some (.cells #[Iv 0,Em,Iv 0,Iv 0] 36 (0,0))):=by
  have e2:=zzw ((w.alloc (.cells #[.slice fa r.funcs.length fc,.slice ca r.clauses.length cc,Iv r.action] 30)).alloc (.cells #[.slice la F.labels.length lc,Iv F.likes,Iv F.boosts,Iv F.replies,Iv F.reports,Iv F.age,Iv F.home,Iv F.scope,Iv F.length,.bool F.follows,.bool F.reply,.slice wa F.words.length wc] 25)) (.cells #[Iv 0,Em,Iv 0,Iv 0] 36);simp only[World.size_alloc]at e2;exact e2
 have uD:=Zh hx;have vD:=Zh aC;have hC:=Zh hcl;have cC:=Zh hl;have pB:=Zh hw;have HZ:=Zh hz;have nB:=Zh hF;have j4:Hi ((((w.alloc (.cells #[.slice fa r.funcs.length fc,.slice ca r.clauses.length cc,Iv r.action] 30)).alloc (.cells #[.slice la F.labels.length lc,Iv F.likes,Iv F.boosts,Iv F.replies,Iv F.reports,Iv F.age,Iv F.home,Iv F.scope,Iv F.length,.bool F.follows,.bool F.reply,.slice wa F.words.length wc] 25)).alloc (.cells #[Iv 0,Em,Iv 0,Iv 0] 36)).heap.size=w.heap.size+1+1+1):=by unfold Hi;simp
 have eD:=hz.nc;have yB:∀(fn:Fn)(first cap:Array Value)(w:World),(Instr.makeFunc fn first cap).run prog w=.ok (.func fn first cap) w:=λ_ _ _ _=>rfl
 have yC:=Zh yB;unfold QaI;clear tB hx aC hcl hl hw hz hF hX hq yB;go_enter_defers func13,ntmps13;go_upto_region 1 with fail
 have A2:Hi (Qmx w (w.heap.size+1+1)/\w.heap.size+1+1<(((w.alloc (.cells #[.slice fa r.funcs.length fc,.slice ca r.clauses.length cc,Iv r.action] 30)).alloc (.cells #[.slice la F.labels.length lc,Iv F.likes,Iv F.boosts,Iv F.replies,Iv F.reports,Iv F.age,Iv F.home,Iv F.scope,Iv F.length,.bool F.follows,.bool F.reply,.slice wa F.words.length wc] 25)).alloc (.cells #[Iv 0,Em,Iv 0,Iv 0] 36)).heap.size/\w.heap.size+1<(((w.alloc (.cells #[.slice fa r.funcs.length fc,.slice ca r.clauses.length cc,Iv r.action] 30)).alloc (.cells #[.slice la F.labels.length lc,Iv F.likes,Iv F.boosts,Iv F.replies,Iv F.reports,Iv F.age,Iv F.home,Iv F.scope,Iv F.length,.bool F.follows,.bool F.reply,.slice wa F.words.length wc] 25)).alloc (.cells #[Iv 0,Em,Iv 0,Iv 0] 36)).heap.size/\w.heap.size<(((w.alloc (.cells #[.slice fa r.funcs.length fc,.slice ca r.clauses.length cc,Iv r.action] 30)).alloc (.cells #[.slice la F.labels.length lc,Iv F.likes,Iv F.boosts,Iv F.replies,Iv F.reports,Iv F.age,Iv F.home,Iv F.scope,Iv F.length,.bool F.follows,.bool F.reply,.slice wa F.words.length wc] 25)).alloc (.cells #[Iv 0,Em,Iv 0,Iv 0] 36)).heap.size):=by
  have:=j4.o;unfold Hi Qmx;omega
 clear j4;generalize World.alloc (World.alloc (World.alloc w _) _) _=w1 at*;generalize w.heap.size+1+1=ob at*;generalize w.heap.size+1=fb at*;generalize w.heap.size=eb at*
 have FF:Hi (∀W,Below w1.heap.size w1 W->(W.cell? ⟨eb,0,none⟩=some (.slice fa r.funcs.length fc)/\W.cell? ⟨eb,1,none⟩=some (.slice ca r.clauses.length cc)/\W.cell? ⟨eb,2,none⟩=some (Iv r.action))/\W.cell? ⟨fb,0,none⟩=some (.slice la F.labels.length lc)/\W.cell? ⟨fb,1,none⟩=some (Iv F.likes)/\W.cell? ⟨fb,2,none⟩=some (Iv F.boosts)/\W.cell? ⟨fb,3,none⟩=some (Iv F.replies)/\W.cell? ⟨fb,4,none⟩=some (Iv F.reports)/\W.cell? ⟨fb,5,none⟩=some (Iv F.age)/\W.cell? ⟨fb,6,none⟩=some (Iv F.home)/\W.cell? ⟨fb,7,none⟩=some (Iv F.scope)/\W.cell? ⟨fb,8,none⟩=some (Iv F.length)/\W.cell? ⟨fb,9,none⟩=some (.bool F.follows)/\W.cell? ⟨fb,10,none⟩=some (.bool F.reply)/\W.cell? ⟨fb,11,none⟩=some (.slice wa F.words.length wc)):=by
  intro W hW;have hr:=(hW.block _ A2.o.2.2.2).trans mC.o;have hf:=(hW.block _ A2.o.2.2.1).trans L1.o;refine⟨⟨?_,?_,?_⟩,?_,?_,?_,?_,?_,?_,?_,?_,?_,?_,?_,?_⟩
  all_goals first|(rw[Ja hr];rfl)|(rw[Ja hf];rfl)
 obtain⟨⟨r0,r1,r2⟩,b0,b1,b2,b3,b4,b5,b6,b7,b8,b9,b10,b11⟩:=FF.o _ zzb;have cr:=JfK r _ w1 (uD.o.up (B0.o _ zzb)) HZ.o;go_wp2_with fail;refine cr.mono ?_;rintro e w2 ⟨rfl,I0⟩;clear cr r0 r1 r2 b0 b1 b2 b3 b4 b5 b6 b7 b8 b9 b10 b11;have hA:=Zh I0;clear I0
 cases M8:QbJ r with
 |false=>
  have X5:X=⟨0,[],0,1⟩:=by rw[HX.o,if_neg λh=>by rw[M8]at h;exact absurd h.1 zp]
  subst X5;have xA:=(hA.o.block _ A2.o.2.1).trans tA.o;have f0:=Jc xA 0;have f1:=Jc xA 1;have f2:=Jc xA 2;have f3:=Jc xA 3;have o0:=Ja xA 0;have o1:=Ja xA 1;have o2:=Ja xA 2;have o3:=Ja xA 3;simp only[zW]at o0 o1 o2 o3;have hlo:=Jb xA;have iA:=Zh (Qgt (Iv 0) Em (Iv 0) (Iv 1) xA);have dA:Hi (Bel w (((((w2.setCell ⟨ob,0,none⟩ (Iv 0)).setCell ⟨ob,1,none⟩ Em).setCell ⟨ob,2,none⟩ (Iv 0)).setCell ⟨ob,3,none⟩ (Iv 1)))):=Below.setCell (p:=⟨ob,3,none⟩) (Below.setCell (p:=⟨ob,2,none⟩) (Below.setCell (p:=⟨ob,1,none⟩) (Below.setCell (p:=⟨ob,0,none⟩) (B0.o _ hA.o) A2.o.1 _) A2.o.1 _) A2.o.1 _) A2.o.1 _;clear xA M8;go_wp2;exact⟨_,KS iA.o rfl _ rfl,rfl,dA.o⟩
 |true=>
 obtain⟨⟨r0,r1,r2⟩,b0,b1,b2,b3,b4,b5,b6,b7,b8,b9,b10,b11⟩:=FF.o _ hA.o;have cf:=Vi F (.slice la F.labels.length lc) (.slice wa F.words.length wc) w2 nB.o (cC.o.up (B0.o _ hA.o)) (pB.o.up (B0.o _ hA.o));unfold QaI at cf;go_wp2_with fail;refine cf.mono ?_;rintro e w3 ⟨rfl,xC⟩;clear cf r0 r1 r2 b0 b1 b2 b3 b4 b5 b6 b7 b8 b9 b10 b11;have bA:=Zh (Je hA.o xC);clear xC
 cases j8:Qbs F with
 |false=>
  have X5:X=⟨0,[],0,1⟩:=by rw[HX.o,if_neg λh=>by rw[j8]at h;exact absurd h.2 zp]
  subst X5;have xA:=(bA.o.block _ A2.o.2.1).trans tA.o;have f0:=Jc xA 0;have f1:=Jc xA 1;have f2:=Jc xA 2;have f3:=Jc xA 3;have o0:=Ja xA 0;have o1:=Ja xA 1;have o2:=Ja xA 2;have o3:=Ja xA 3;simp only[zW]at o0 o1 o2 o3;have hlo:=Jb xA;have iA:=Zh (Qgt (Iv 0) Em (Iv 0) (Iv 1) xA);have dA:Hi (Bel w (((((w3.setCell ⟨ob,0,none⟩ (Iv 0)).setCell ⟨ob,1,none⟩ Em).setCell ⟨ob,2,none⟩ (Iv 0)).setCell ⟨ob,3,none⟩ (Iv 1)))):=Below.setCell (p:=⟨ob,3,none⟩) (Below.setCell (p:=⟨ob,2,none⟩) (Below.setCell (p:=⟨ob,1,none⟩) (Below.setCell (p:=⟨ob,0,none⟩) (B0.o _ bA.o) A2.o.1 _) A2.o.1 _) A2.o.1 _) A2.o.1 _;clear xA M8 j8;go_wp2;exact⟨_,KS iA.o rfl _ rfl,rfl,dA.o⟩
 |true=>
 replace HX:Hi (X=Qfm r F 0 (r.clauses.drop 0)):=by rw[Hi,HX.o,if_pos ⟨M8,j8⟩];rfl
 obtain⟨qB,rB,_⟩:=Jco M8;have mA:=Zh (And.intro qB (And.intro rB j8));clear M8 j8 qB rB;obtain⟨⟨r0,r1,r2⟩,b0,b1,b2,b3,b4,b5,b6,b7,b8,b9,b10,b11⟩:=FF.o _ bA.o;have C4:Hi (w1.heap.size<=w3.heap.size):=bA.o.size;obtain⟨K,hK⟩:∃K:Qar,K=⟨w,w3.heap.size,fa,fc,ca,cc,la,lc,wa,wc,r,F⟩:=⟨_,rfl⟩
 have yB:=yC.o;have zB:Below w3.heap.size w3 ((w3.alloc (.cells (K.cells 0 0) 82)).alloc (.cells #[Pt w3.heap.size] 80)):=(zzb.alloc zzl _).alloc zp _;have hB:=Zh (Je bA.o zB);have qA:Bel w w3:=B0.o _ bA.o
 have dB:Hi K.Ok:=by
  subst hK;exact⟨vD.o,hC.o,cC.o,pB.o,HZ.o,nB.o,mA.o.1,mA.o.2.1,mA.o.2.2,qA.size⟩
 have zA:Hi (RrI K ob (w3.heap.size+1) ((w3.alloc (.cells (K.cells 0 0) 82)).alloc (.cells #[Pt w3.heap.size] 80)) 0):=by
  have nA:=(bA.o.block _ A2.o.2.1).trans tA.o;have e1:=zzw (w3.alloc (.cells (K.cells 0 0) 82)) (.cells #[Pt w3.heap.size] 80);simp only[World.size_alloc]at e1;have hlt:=Jb nA;have cD:w.heap.size<=w3.heap.size:=qA.size;have aA:K.p=w3.heap.size:=by rw[hK]
  have kA:K.w0=w:=by rw[hK]
  refine⟨⟨by rw[aA];exact Jf (zzw _ _),by rw[kA];exact Je qA zB⟩,by rw[aA];exact e1,(zB.block _ hlt).trans nA,?_,?_,?_,?_⟩
  ·rw[kA];exact A2.o.1
  ·rw[kA];omega
  ·rw[aA];omega
  ·rw[aA];omega
 have pA:=Zh hK;have bC:K.cells 0 0=#[.slice fa r.funcs.length fc,.slice ca r.clauses.length cc,Iv r.action,.slice la F.labels.length lc,Iv F.likes,Iv F.boosts,Iv F.replies,Iv F.reports,Iv F.age,Iv F.home,Iv F.scope,Iv F.length,.bool F.follows,.bool F.reply,.slice wa F.words.length wc,Iv 0,Iv 0]:=by rw[hK];rfl
 rw[bC]at hB zA;clear zB qA hK bC;go_upto_region 5 with fail;clear r0 r1 r2 b0 b1 b2 b3 b4 b5 b6 b7 b8 b9 b10 b11 yB yC bA hA
 (try simp only[World.size_alloc])
 generalize World.alloc (World.alloc w3 _) _=w4 at*;obtain⟨pm,vB⟩:∃pm,w3.heap.size+1=pm:=⟨_,rfl⟩
 rw[vB]at zA;simp only[vB];clear vB;have aA:w3.heap.size=K.p:=by rw[pA.o]
 have kA:K.w0=w:=by rw[pA.o]
 have uC:K.r=r:=by rw[pA.o]
 have iC:K.F=F:=by rw[pA.o]
 have A6:=Zh (And.intro kA (And.intro uC iC))
 have S3:Hi (eb≠K.p/\eb<w4.heap.size):=by
  have h1:=A2.o.2.2.2;have h2:=hB.o.size;unfold Hi;refine⟨?_,by omega⟩;rw[<-aA];have h3:=C4.o;omega
 simp only[aA];clear aA kA uC iC B0 L1 tA
 have dC:Hi (∀W,Chg [K.p] w4 W->W.cell? ⟨eb,1,none⟩=some (.slice ca r.clauses.length cc)/\W.cell? ⟨eb,2,none⟩=some (Iv r.action)):=by
  intro W hW;obtain⟨⟨_,q1,q2⟩,_⟩:=FF.o _ hB.o;exact⟨hW.cell_some (p:=⟨eb,1,none⟩) (by simpa using S3.o.1) q1,hW.cell_some (p:=⟨eb,2,none⟩) (by simpa using S3.o.1) q2⟩
 obtain⟨q1,q2⟩:=dC.o _ (Chg.refl _ _);go_wp2_with fail;clear q1 q2;go_loopg [25] r.clauses.length λg v25 wr=>∃i u:Nat,g+i=r.clauses.length/\v25=Iv i/\Hi (RrI K ob pm wr u)/\Hi (Chg [K.p] w4 wr)/\Hi (u<=10000)/\Hi (X=Qfm r F u (r.clauses.drop i))
 case atStart=>exact⟨0,0,rfl,rfl,zA,Chg.refl _ _,by unfold Hi;omega,HX⟩
 case round=>
 clear zA HX;obtain⟨wl,rfl⟩:=zG wr
 obtain⟨i,u,hg,rfl,uA,sA,hu,xB⟩:=hrel
 by_cases hi:i<r.clauses.length
 ·have hil:(i:Int)<(r.clauses.length:Int):=zo
  have wk:=zI i;obtain⟨m,hm⟩:∃m,r.clauses[i]?=some m:=⟨r.clauses[i],List.getElem?_eq_getElem hi⟩
  have hmem:=List.mem_of_getElem? hm;obtain⟨b,o,da,dc,jC,hfc⟩:=hC.o.get hm;obtain⟨sB,hsz,_⟩:=HZ.o.cl m hmem;have G1:Bel w wl:=by have:=uA.o.mr.bel;rw[A6.o.1]at this;exact this
  have gA:∀j v,w.cell? ⟨b,o+i*6+j,none⟩=some v->wl.cell? ⟨b,o+i*6+j,none⟩=some v:=λj v hv=>(G1.cell (p:=⟨b,o+i*6+j,none⟩) hfc.blt).trans hv
  have c0:=gA 0 _ hfc.c0;have c1:=gA 1 _ hfc.c1;have c2:=gA 2 _ hfc.c2;have c3:=gA 3 _ hfc.c3;have c4:=gA 4 _ hfc.c4;have c5:=gA 5 _ hfc.c5;rw[Nat.add_zero]at c0
  have eC:X=if u=10000 then⟨0,[],u,14⟩ else match evN (Qca r.funcs F 100) F [] (u+1) m.cond with|.fault e u'=>⟨0,[],u',e⟩|.val v u'=>if v=0 then Qfm r F u' (r.clauses.drop (i+1)) else⟨m.action,m.reason,u',0⟩:=by
   have h1:=xB.o;have h2:r.clauses[i]=m:=(List.getElem?_eq_some_iff.1 hm).2;rw[List.drop_eq_getElem_cons hi,h2,Qfm]at h1;exact h1
  have cA:=Zh eC;have C3:Below wl.heap.size wl (wl.alloc (.cells #[Iv m.cond.kind,Iv m.cond.num,.string (bs m.cond.name),.slice da m.cond.kids.length dc,Iv m.action,.string (bs m.reason)] 62)):=zzb.alloc zzl _;have mB:=Zh (uA.o.mr.up C3);have zC:Hi (Chg [K.p] wl (wl.alloc (.cells #[Iv m.cond.kind,Iv m.cond.num,.string (bs m.cond.name),.slice da m.cond.kids.length dc,Iv m.action,.string (bs m.reason)] 62))):=Chg.of_below C3 [K.p];have aB:=Zh (zzw wl (.cells #[Iv m.cond.kind,Iv m.cond.num,.string (bs m.cond.name),.slice da m.cond.kids.length dc,Iv m.action,.string (bs m.reason)] 62));have zA:=uA;have aD:=sA;have HU:=hu;have HG:=Zh hg;have B3:=Zh hi
  have jB:(wl.alloc (.cells #[Iv m.cond.kind,Iv m.cond.num,.string (bs m.cond.name),.slice da m.cond.kids.length dc,Iv m.action,.string (bs m.reason)] 62)).cell? ⟨pm,0,none⟩=some (Pt K.p):=by
   have:=(C3.block _ (Jb uA.o.pmb)).trans uA.o.pmb;rw[Ja this];rfl
  have vA:∀W',QcN K W' (u+1) 0->u+1<=10000->EvH K 0 m.cond #[Iv m.cond.kind,Iv m.cond.num,.string (bs m.cond.name),.slice da m.cond.kids.length dc] [] [] Nl 40 1 W' (u+1):=λW' h1 h2=>by
   have hr:=A6.o;refine⟨sB,by simp;omega,by rw[hr.1];exact hfc.cond,?_,?_,Qel.nil,h2,h1,.inl ⟨rfl,none,0,rfl⟩⟩
   ·rw[hr.2.1];exact Jje mA.o.1 hmem
   ·rw[hr.2.1];exact Jhy mA.o.2.1 hmem
  have gC:=Zh vA;have bD:Hi (w.heap.size<=wl.heap.size):=G1.size;subst jC;clear C3 hmem hfc G1 gA eC xB uA sA hu hg hi hm vA sB hsz;go_upto_region 8 with fail;clear c0 c1 c2 c3 c4 c5;have R5:Hi (wl.heap.size≠K.p/\wl.heap.size<(wl.alloc (.cells #[Iv m.cond.kind,Iv m.cond.num,.string (bs m.cond.name),.slice da m.cond.kids.length dc,Iv m.action,.string (bs m.reason)] 62)).heap.size):=⟨by have:=zA.o.mr.lt;omega,by simp⟩
  generalize World.alloc wl _=w5 at*;generalize wl.heap.size=cb at*;have cs:=Y2 K dB.o w5 u 0 mB.o HU.o;go_wp2_with fail;refine cs.mono ?_;intro e w6 h6;unfold QfS at h6
  by_cases hu1:u=10000
  ·rw[if_pos hu1]at h6;obtain⟨rfl,rfl⟩:=h6;have X5:X=⟨0,[],u,14⟩:=by rw[cA.o,if_pos hu1]
   rw[X5];rw[<-A6.o.1];exact Jbr 14 zA.o zC.o mB.o _ rfl
  rw[if_neg hu1]at h6;obtain⟨rfl,T3,j0⟩:=h6;have dD:=Zh T3;have M2:=Zh (zC.o.trans j0)
  have uB:∀W,Chg [K.p] w5 W->W.cell? ⟨cb,0,none⟩=some (Iv m.cond.kind)/\W.cell? ⟨cb,1,none⟩=some (Iv m.cond.num)/\W.cell? ⟨cb,2,none⟩=some (.string (bs m.cond.name))/\W.cell? ⟨cb,3,none⟩=some (.slice da m.cond.kids.length dc)/\W.cell? ⟨cb,4,none⟩=some (Iv m.action)/\W.cell? ⟨cb,5,none⟩=some (.string (bs m.reason)):=by
   intro W hW;have hh:=hW.heap_some (by simpa using R5.o.1) aB.o;refine⟨?_,?_,?_,?_,?_,?_⟩<;>(rw[Ja hh];rfl)
  have zD:=Zh uB;have cB:=Zh j0
  have eA:∀W,Chg [K.p] wl W->W.cell? ⟨pm,0,none⟩=some (Pt K.p):=λW hW=>by
   have:=hW.heap_some (by simpa using zA.o.low.2.2.2) zA.o.pmb;rw[Ja this];rfl
  have yD:=Zh eA;obtain⟨k0,k1,k2,k3,k4,k5⟩:=uB _ j0;have sC:=eA _ M2.o;have kB:u+1<=10000:=by have:=HU.o;omega
  have hH:=gC.o w6 T3 kB;have eB:=Zh (hH.ok dB.o 100);have ci:=Jgg K dB.o m.cond _ [] [] _ _ _ w6 (u+1) hH;rw[A6.o.2.1,A6.o.2.2]at ci;replace cA:Hi (X=match evN (Qca r.funcs F 100) F [] (u+1) m.cond with|.fault e u'=>⟨0,[],u',e⟩|.val v u'=>if v=0 then Qfm r F u' (r.clauses.drop (i+1)) else⟨m.action,m.reason,u',0⟩):=by rw[Hi,cA.o,if_neg hu1]
  go_wp2_with fail;refine ci.mono ?_;have rA:=eB.o;unfold evK at rA;rw[A6.o.2.1,A6.o.2.2]at rA
  cases vA:evN (Qca r.funcs F 100) F [] (u+1) m.cond with
  |fault er u'=>
   rintro e w7 ⟨rfl,⟨c7,jA⟩,O3⟩;have X5:X=⟨0,[],u',er⟩:=by rw[cA.o,vA]
   rw[X5];rw[<-A6.o.1];exact Jbr er zA.o (M2.o.trans O3) jA _ rfl
  |val v u'=>
   rw[vA]at rA;obtain⟨_,bB,vC⟩:=rA;rintro e w7 ⟨rfl,jA,O3⟩;have yA:=Zh (RrI.on (c:=0) zA.o (M2.o.trans O3) jA);have iB:Hi (Chg [K.p] w4 w7):=aD.o.trans (M2.o.trans O3);have kC:=Zh bB;obtain⟨k0,k1,k2,k3,k4,k5⟩:=zD.o _ (cB.o.trans O3);have qC:=yD.o _ (M2.o.trans O3)
   by_cases hv:v=0
   ·have tC:Hi (X=Qfm r F u' (r.clauses.drop (i+1))):=by rw[Hi,cA.o,vA];dsimp only;rw[if_pos hv]
    subst hv;go_wp2;go_roundg (r.clauses.length-(i+1))
    case measure=>have:=HG.o;have:=B3.o;omega
    case rel=>exact⟨i+1,u',by have:=B3.o;omega,by go_num,yA,iB,kC,tC⟩
   ·have nC:X=⟨m.action,m.reason,u',0⟩:=by rw[cA.o,vA];dsimp only;rw[if_neg hv]
    subst nC;have e0:(v==0)=false:=zzq hv;have e1:(v !=0)=true:=by rw[bne,e0];rfl
    have rC:w7.cell? ⟨K.p,15,none⟩=some (Iv u'):=Ja jA.self 15;have xD:=yA.o.res;go_upto_region 10 with fail;have T2:=yA.o.res;have f0:=Jc T2 0;have f1:=Jc T2 1;have f2:=Jc T2 2;have f3:=Jc T2 3;have o0:=Ja T2 0;have o1:=Ja T2 1;have o2:=Ja T2 2;have o3:=Ja T2 3;simp only[zW]at o0 o1 o2 o3;have hlo:=Jb T2;have gB:=Zh (RrI.on (c:=0) yA.o (Chg.of_below (Below.refl w7.heap.size w7).drew [K.p]) yA.o.mr.drew);have L7:=Zh (gB.o.o ⟨m.action,m.reason,u',0⟩);exact Qlm
 have hil:¬(i:Int)<(r.clauses.length:Int):=zo
 obtain rfl:i=r.clauses.length:=zo
 have pC:X=⟨r.action,[],u,0⟩:=by
  have h1:=xB.o;rw[List.drop_length,Qfm]at h1;exact h1
 subst pC;obtain⟨q1,q2⟩:=dC.o _ sA.o
 have qC:wl.cell? ⟨pm,0,none⟩=some (Pt K.p):=by
  rw[Ja uA.o.pmb];rfl
 have rC:wl.cell? ⟨K.p,15,none⟩=some (Iv u):=Ja uA.o.mr.self 15;have yA:=uA;go_upto_region 12 with fail;have T2:=yA.o.res;have f0:=Jc T2 0;have f1:=Jc T2 1;have f2:=Jc T2 2;have f3:=Jc T2 3;have o0:=Ja T2 0;have o1:=Ja T2 1;have o2:=Ja T2 2;have o3:=Ja T2 3;simp only[zW]at o0 o1 o2 o3;have hlo:=Jb T2;have gB:=Zh (RrI.on (c:=0) yA.o (Chg.of_below (Below.refl wl.heap.size wl).drew [K.p]) yA.o.mr.drew);have L7:=Zh (gB.o.o ⟨r.action,[],u,0⟩);exact Qlm
def ex1:Qah:=⟨[],[⟨.mk 13 0 [] [.mk 0 3 [] [],.mk 3 0 Qcq []],3,[120]⟩],0⟩
def ex2:Qah:=⟨[⟨[102],[0],1,.mk 20 0 [] [.mk 2 0 [] []]⟩],[⟨.mk 20 0 [] [.mk 0 1 [] []],3,[120]⟩],0⟩
def ex3:Qah:=⟨[],[⟨.mk 15 0 [] [.mk 11 0 [] [.mk 0 1 [] [],.mk 3 0 Qcq []],.mk 0 1 [] []],3,[120]⟩],0⟩
def FZ:Qav:=⟨[],0,0,0,0,0,0,0,0,false,false,[]⟩
def tx1:By:=[119,104,101,110,32,108,105,107,101,115,32,62,32,51,32,116,104,101,110,32,104,105,100,101,32,34,120,34,32,100,101,102,97,117,108,116,32,115,104,111,119]
def JhS:QcD tx1=(ex1,0,0):=zk
def tx2:By:=[100,101,102,32,102,40,110,58,32,105,110,116,41,58,32,98,111,111,108,32,61,32,102,40,110,41,32,119,104,101,110,32,102,40,49,41,32,116,104,101,110,32,104,105,100,101,32,34,120,34,32,100,101,102,97,117,108,116,32,115,104,111,119]
def JhT:QcD tx2=(ex2,0,0):=zk
def tx3:By:=[119,104,101,110,32,49,32,47,32,108,105,107,101,115,32,61,61,32,49,32,116,104,101,110,32,104,105,100,101,32,34,120,34,32,100,101,102,97,117,108,116,32,115,104,111,119]
def JhU:QcD tx3=(ex3,0,0):=zk
def JjA:QiT ex1 {FZ with likes:=4}=⟨3,[120],1,0⟩:=by decide +kernel
def JjB:QiT ex2 FZ=⟨0,[],102,7⟩:=by decide +kernel
def JjC:QiT ex3 FZ=⟨0,[],1,1⟩:=by decide +kernel
def JjD:QiT ex1 {FZ with likes:=-1}=⟨0,[],0,1⟩:=by decide +kernel
def Jak{r:Qah}(h1:r.funcs.length<=1)(h2:r.clauses.length<=1)(h3:∀f∈r.funcs,f.name.length<=9223372036854775807/\f.params.length<=1000000/\NmN f.body/\siz (utN f.body)<=1000000)(h4:∀c∈r.clauses,NmN c.cond/\siz (utN c.cond)<=1000000/\c.reason.length<=9223372036854775807):RSz r:=⟨by omega,by omega,h3,h4⟩
def Jii:RSz ex1:=by
 refine Jak zd zd (by simp[ex1]) λc hc=>?_;simp[ex1]at hc;subst hc;exact⟨by simp[NmN,NmL,Qcq],by simp[utN,utL,JA,Ju,JG],by simp⟩
def Jkr:RSz ex2:=by
 refine Jak zd zd (λf hf=>?_) λc hc=>?_
 ·simp[ex2]at hf;subst hf;exact⟨by simp,by simp,by simp[NmN,NmL],by simp[utN,utL,JA,Ju,JG]⟩
 ·simp[ex2]at hc;subst hc;exact⟨by simp[NmN,NmL],by simp[utN,utL,JA,Ju,JG],by simp⟩
def Jks:RSz ex3:=by
 refine Jak zd zd (by simp[ex3]) λc hc=>?_;simp[ex3]at hc;subst hc;exact⟨by simp[NmN,NmL,Qcq],by simp[utN,utL,JA,Ju,JG],by simp⟩
def Yt(W:World):Qbm W Nl []:=⟨none,0,[],rfl,Nat.le_refl _,rfl,.inl rfl⟩
def VP(W:World):QaF W Nl []:=⟨none,0,[],rfl,Nat.le_refl _,rfl,.inl rfl⟩
def JjE(X Y:QjK)(W:World):(binOp .eql 36 (.agg (QfU X)) (.agg (QfU Y))).run prog W=.ok (.bool (decide (X=Y))) W:=by
 have hu:prog.underlying 36=some (.struct (prog.fieldsOf 36)):=zk
 have hp:prog.stoodInHeld 36=false:=zk
 rw[run_eql_struct,run_equalIn_agg _ _ _ _ _ hu hp];unfold Program.fieldsOf;rw[underlying36];obtain⟨a,b,x,y⟩:=X;obtain⟨a',b',x',y'⟩:=Y;have u3:=underlying3;have u9:=underlying9;have xA:=underlying31;simp[Op.eqFields,QfU,go_sem];simp only[Jk]
 by_cases h1:a=a'
 ·by_cases h2:b=b'
  ·by_cases h3:x=x'
   ·by_cases h4:y=y'
    ·simp[h1,h2,h3,h4]
    ·simp[h1,h2,h3,h4]
   ·simp[h1,h2,h3];intro h;exact absurd (Int.ofNat_inj.1 h) h3
  ·simp[h1,h2]
 ·simp[h1]
def PsP.inw{w:World}{X:Qah×Int×Int}{e:Ending}{w':World}(h:PsP w X e w'):∃c,e=.returned (.tuple #[.agg c,Iv X.2.1,Iv X.2.2])/\QaV w' (In w') X.1 c/\Below w.heap.size w w':=by
 obtain⟨c,h1,h2,h3⟩:=h;exact⟨c,h1,h2.keep (λ_ _=>rfl) λb hb=>hb.2,h3⟩
def Jbs(W:World)(hL:Laid W):Calls prog 11 #[.string ⟨#[119,104,101,110,32,108,105,107,101,115,32,62,32,51,32,116,104,101,110,32,104,105,100,101,32,34,120,34,32,100,101,102,97,117,108,116,32,115,104,111,119]⟩] W (λe w'=>∃c,e=.returned (.tuple #[.agg c,Iv 0,Iv 0])/\QaV w' (In w') ex1 c/\Below W.heap.size W w'):=by
 have h:=Qdf tx1 W zd hL;rw[JhS]at h;exact h.mono λe w' hp=>hp.inw
def Jbt(W:World)(hL:Laid W):Calls prog 11 #[.string ⟨#[100,101,102,32,102,40,110,58,32,105,110,116,41,58,32,98,111,111,108,32,61,32,102,40,110,41,32,119,104,101,110,32,102,40,49,41,32,116,104,101,110,32,104,105,100,101,32,34,120,34,32,100,101,102,97,117,108,116,32,115,104,111,119]⟩] W (λe w'=>∃c,e=.returned (.tuple #[.agg c,Iv 0,Iv 0])/\QaV w' (In w') ex2 c/\Below W.heap.size W w'):=by
 have h:=Qdf tx2 W zd hL;rw[JhT]at h;exact h.mono λe w' hp=>hp.inw
def Jbu(W:World)(hL:Laid W):Calls prog 11 #[.string ⟨#[119,104,101,110,32,49,32,47,32,108,105,107,101,115,32,61,61,32,49,32,116,104,101,110,32,104,105,100,101,32,34,120,34,32,100,101,102,97,117,108,116,32,115,104,111,119]⟩] W (λe w'=>∃c,e=.returned (.tuple #[.agg c,Iv 0,Iv 0])/\QaV w' (In w') ex3 c/\Below W.heap.size W w'):=by
 have h:=Qdf tx3 W zd hL;rw[JhU]at h;exact h.mono λe w' hp=>hp.inw
def Jei(W:World)(c:Array Value)(h:QaV W (In W) ex1 c):Calls prog 13 #[.agg c,.agg #[Nl,Iv 4,Iv 0,Iv 0,Iv 0,Iv 0,Iv 0,Iv 0,Iv 0,.bool false,.bool false,Nl]] W (λe w'=>e=.returned (.agg #[Iv 3,.string ⟨#[120]⟩,Iv 1,Iv 0])/\Below W.heap.size W w'):=by
 have h1:=V4 ex1 {FZ with likes:=4} c Nl Nl W h Jii ⟨by decide,by decide⟩ (Yt W) (VP W);rw[JjA]at h1;exact h1
def Jgi(W:World):(binOp .eql 36 (.agg #[Iv 3,.string ⟨#[120]⟩,Iv 1,Iv 0]) (.agg #[Iv 3,.string ⟨#[120]⟩,Iv 1,Iv 0])).run prog W=.ok (.bool true) W:=zk
def Jej(W:World)(c:Array Value)(h:QaV W (In W) ex2 c):Calls prog 13 #[.agg c,.agg #[Nl,Iv 0,Iv 0,Iv 0,Iv 0,Iv 0,Iv 0,Iv 0,Iv 0,.bool false,.bool false,Nl]] W (λe w'=>e=.returned (.agg #[Iv 0,Em,Iv 102,Iv 7])/\Below W.heap.size W w'):=by
 have h1:=V4 ex2 FZ c Nl Nl W h Jkr ⟨by decide,by decide⟩ (Yt W) (VP W);rw[JjB]at h1;exact h1
def Jgj(W:World):(binOp .eql 36 (.agg #[Iv 0,Em,Iv 102,Iv 7]) (.agg #[Iv 0,Em,Iv 102,Iv 7])).run prog W=.ok (.bool true) W:=zk
def Jek(W:World)(c:Array Value)(h:QaV W (In W) ex3 c):Calls prog 13 #[.agg c,.agg #[Nl,Iv 0,Iv 0,Iv 0,Iv 0,Iv 0,Iv 0,Iv 0,Iv 0,.bool false,.bool false,Nl]] W (λe w'=>e=.returned (.agg #[Iv 0,Em,Iv 1,Iv 1])/\Below W.heap.size W w'):=by
 have h1:=V4 ex3 FZ c Nl Nl W h Jks ⟨by decide,by decide⟩ (Yt W) (VP W);rw[JjC]at h1;exact h1
def Jgk(W:World):(binOp .eql 36 (.agg #[Iv 0,Em,Iv 1,Iv 1]) (.agg #[Iv 0,Em,Iv 1,Iv 1])).run prog W=.ok (.bool true) W:=zk
def Jel(W:World)(c:Array Value)(h:QaV W (In W) ex1 c):Calls prog 13 #[.agg c,.agg #[Nl,Iv (-1),Iv 0,Iv 0,Iv 0,Iv 0,Iv 0,Iv 0,Iv 0,.bool false,.bool false,Nl]] W (λe w'=>e=.returned (.agg #[Iv 0,Em,Iv 0,Iv 1])/\Below W.heap.size W w'):=by
 have h1:=V4 ex1 {FZ with likes:=-1} c Nl Nl W h Jii ⟨by decide,by decide⟩ (Yt W) (VP W);rw[JjD]at h1;exact h1
def Jgl(W:World):(binOp .eql 36 (.agg #[Iv 0,Em,Iv 0,Iv 1]) (.agg #[Iv 0,Em,Iv 0,Iv 1])).run prog W=.ok (.bool true) W:=zk
def Jgm(w:World)(hL:Laid w):Calls prog 10 #[] w (Qfl w true):=by
 have HL:=Zh hL;have tA:Hi (Bel w w):=zzb;go_enter func10,ntmps10;go_wp2_with fail;refine(Jbs w (HL.o.below tA.o)).mono ?_;rintro e u1 ⟨c1,rfl,pA,A0⟩;obtain⟨xA,bA,dA,yA,rfl,_,_⟩:=pA.parts;have T8:Below u1.heap.size u1 (u1.alloc (.cells #[.slice xA ex1.funcs.length bA,.slice dA ex1.clauses.length yA,Iv ex1.action] 30)):=zzb.alloc zzl _;have uB:Hi (Bel w (u1.alloc (.cells #[.slice xA ex1.funcs.length bA,.slice dA ex1.clauses.length yA,Iv ex1.action] 30))):=Je tA.o (Je A0 T8);have yB:=Zh (zzw u1 (.cells #[.slice xA ex1.funcs.length bA,.slice dA ex1.clauses.length yA,Iv ex1.action] 30));have bB:=Zh (pA.up T8);have F7:Hi (Below w.heap.size w (u1.alloc (.cells #[.slice xA ex1.funcs.length bA,.slice dA ex1.clauses.length yA,Iv ex1.action] 30))):=Je A0 T8;go_upto_region 2 with fail;generalize World.alloc u1 _=v1 at*;generalize u1.heap.size=k1 at*;go_wp2_with fail;refine(Jbt v1 (HL.o.below uB.o)).mono ?_;rintro e u2 ⟨c2,rfl,mA,I0⟩;obtain⟨zA,vA,gA,hA,rfl,_,_⟩:=mA.parts;have Q4:Below u2.heap.size u2 (u2.alloc (.cells #[.slice zA ex2.funcs.length vA,.slice gA ex2.clauses.length hA,Iv ex2.action] 30)):=zzb.alloc zzl _;have vB:Hi (Bel w (u2.alloc (.cells #[.slice zA ex2.funcs.length vA,.slice gA ex2.clauses.length hA,Iv ex2.action] 30))):=Je uB.o (Je I0 Q4);have xB:=Zh (zzw u2 (.cells #[.slice zA ex2.funcs.length vA,.slice gA ex2.clauses.length hA,Iv ex2.action] 30));have cB:=Zh (mA.up Q4);have R3:Hi (Below v1.heap.size v1 (u2.alloc (.cells #[.slice zA ex2.funcs.length vA,.slice gA ex2.clauses.length hA,Iv ex2.action] 30))):=Je I0 Q4;go_upto_region 3 with fail;generalize World.alloc u2 _=v2 at*;generalize u2.heap.size=k2 at*;go_wp2_with fail;refine(Jbu v2 (HL.o.below vB.o)).mono ?_;rintro e u3 ⟨c3,rfl,kA,sA⟩;obtain⟨cA,eA,aA,uA,rfl,_,_⟩:=kA.parts;have iA:Below u3.heap.size u3 (u3.alloc (.cells #[.slice cA ex3.funcs.length eA,.slice aA ex3.clauses.length uA,Iv ex3.action] 30)):=zzb.alloc zzl _;have dB:Hi (Bel w (u3.alloc (.cells #[.slice cA ex3.funcs.length eA,.slice aA ex3.clauses.length uA,Iv ex3.action] 30))):=Je vB.o (Je sA iA);have zB:=Zh (zzw u3 (.cells #[.slice cA ex3.funcs.length eA,.slice aA ex3.clauses.length uA,Iv ex3.action] 30));have eB:=Zh (kA.up iA);have Q7:Hi (Below v2.heap.size v2 (u3.alloc (.cells #[.slice cA ex3.funcs.length eA,.slice aA ex3.clauses.length uA,Iv ex3.action] 30))):=Je sA iA;go_upto_region 4 with fail;generalize World.alloc u3 _=v3 at*;generalize u3.heap.size=k3 at*
 have F1:Hi (∀W,Below v1.heap.size v1 W->W.cell? ⟨k1,0,none⟩=some (.slice xA ex1.funcs.length bA)/\W.cell? ⟨k1,1,none⟩=some (.slice dA ex1.clauses.length yA)/\W.cell? ⟨k1,2,none⟩=some (Iv ex1.action)):=by
  intro W hW;have hh:=(hW.block _ (Jb yB.o)).trans yB.o;refine⟨?_,?_,?_⟩<;>(rw[Ja hh];rfl)
 have F2:Hi (∀W,Below v2.heap.size v2 W->W.cell? ⟨k2,0,none⟩=some (.slice zA ex2.funcs.length vA)/\W.cell? ⟨k2,1,none⟩=some (.slice gA ex2.clauses.length hA)/\W.cell? ⟨k2,2,none⟩=some (Iv ex2.action)):=by
  intro W hW;have hh:=(hW.block _ (Jb xB.o)).trans xB.o;refine⟨?_,?_,?_⟩<;>(rw[Ja hh];rfl)
 have F3:Hi (∀W,Below v3.heap.size v3 W->W.cell? ⟨k3,0,none⟩=some (.slice cA ex3.funcs.length eA)/\W.cell? ⟨k3,1,none⟩=some (.slice aA ex3.clauses.length uA)/\W.cell? ⟨k3,2,none⟩=some (Iv ex3.action)):=by
  intro W hW;have hh:=(hW.block _ (Jb zB.o)).trans zB.o;refine⟨?_,?_,?_⟩<;>(rw[Ja hh];rfl)
 have aB:Hi (∀W,Below v3.heap.size v3 W->Below v2.heap.size v2 W):=λW hW=>Je Q7.o hW
 have jA:Hi (∀W,Below v3.heap.size v3 W->Below v1.heap.size v1 W):=λW hW=>Je R3.o (Je Q7.o hW)
 have nA:Hi (Below v3.heap.size v3 v3):=zzb;obtain⟨r0,r1,r2⟩:=F1.o _ (jA.o _ nA.o);have cr:=Jei v3 _ (bB.o.up (jA.o _ nA.o));have he:=Jgi;go_wp2_with fail;refine cr.mono ?_;rintro e z1 ⟨rfl,hb⟩;have rA:=Zh (Je nA.o hb);go_upto_region 7 with fail;obtain⟨r0,r1,r2⟩:=F2.o _ (aB.o _ rA.o);have cr:=Jej z1 _ (cB.o.up (aB.o _ rA.o));have he:=Jgj;go_wp2_with fail;refine cr.mono ?_;rintro e z2 ⟨rfl,hb⟩;have qA:=Zh (Je rA.o hb);go_upto_region 8 with fail;obtain⟨r0,r1,r2⟩:=F3.o _ qA.o;have cr:=Jek z2 _ (eB.o.up qA.o);have he:=Jgk;go_wp2_with fail;refine cr.mono ?_;rintro e z3 ⟨rfl,hb⟩;have C4:=Zh (Je qA.o hb);go_upto_region 9 with fail;obtain⟨r0,r1,r2⟩:=F1.o _ (jA.o _ C4.o);have cr:=Jel z3 _ (bB.o.up (jA.o _ C4.o));have he:=Jgl;go_wp2_with fail;refine cr.mono ?_;rintro e z4 ⟨rfl,hb⟩;have gB:=Zh (Je C4.o hb);have HF:Hi (Bel w z4):=Je dB.o gB.o;go_wp2;go_ret;exact⟨rfl,HF.o⟩
end Go.Proofs.YtncanmdgdflnpaaGreatDoor


