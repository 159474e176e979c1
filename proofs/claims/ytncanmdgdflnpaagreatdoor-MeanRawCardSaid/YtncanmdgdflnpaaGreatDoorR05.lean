import Derived.Test.YtncanmdgdflnpaaGreatDoorR04
open List(ne_nil_of_mem)
open Nat(add_zero le_trans one_mul zero_add zero_mul)
namespace Go.Proofs.YtncanmdgdflnpaaGreatDoor
open Go.ChangeShapes Go.WideShapes Go.ChangeAt Go.RowKit Go.Lib
open _root_.Go.Proofs.Tryz
set_option linter.all false
set_option maxRecDepth 100000
set_option maxHeartbeats 32000000
def QaP(W:World)(rb:Nat)(v:Value)(l:List Int):Prop:=
 (l=[]/\∃ad cc,v=.slice ad 0 cc)\/∃g o cc,v=.slice (some ⟨g,o,none⟩) l.length cc/\l.length<=cc/\g≠rb/\g<W.heap.size/\∀i n,l[i]?=some n->W.cell? ⟨g,o+i,none⟩=some (Iv n)
def QaP.chg{W W':World}{rb:Nat}{v:Value}{l:List Int}(h:QaP W rb v l)(hc:Chg [rb] W W'):QaP W' rb v l:=by
 refine h.imp id ?_;rintro⟨g,o,cc,h1,h2,h3,h4,h5⟩;exact⟨g,o,cc,h1,h2,h3,Nat.lt_of_lt_of_le h4 hc.size,λi n hi=>hc.cell_some (p:=⟨g,o+i,none⟩) (by simpa using h3) (h5 i n hi)⟩
def QdJ(W:World)(rb:Nat)(M:Value)(fs:List Qau):Prop:=
 ∃ad cc,M=.slice ad fs.length cc/\(fs≠[]->∃g o,ad=some ⟨g,o,none⟩/\g≠rb/\∀i s,fs[i]?=some s->∃x0 pv k n x5 a6 n6 c6,QaP W rb pv s.params/\
  ∀j u,([.string x0,pv,Iv s.result,Iv k,Iv n,.string x5,.slice a6 n6 c6]:List Value)[j]?=some u->W.cell? ⟨g,o+i*7+j,none⟩=some u)
def QdJ.chg{W W':World}{rb:Nat}{M:Value}{fs:List Qau}(h:QdJ W rb M fs)(hc:Chg [rb] W W'):QdJ W' rb M fs:=by
 obtain⟨ad,cc,h1,h2⟩:=h;refine⟨ad,cc,h1,λhne=>?_⟩;obtain⟨g,o,h3,h4,h5⟩:=h2 hne;refine⟨g,o,h3,h4,λi s hs=>?_⟩;obtain⟨x0,pv,k,n,x5,a6,n6,c6,h6,h7⟩:=h5 i s hs;exact⟨x0,pv,k,n,x5,a6,n6,c6,h6.chg hc,λj u hu=>hc.cell_some (p:=⟨g,o+i*7+j,none⟩) (by simpa using h4) (h7 j u hu)⟩
mutual
def QeI(nf:Nat):Nat->Nd->Prop
 |nv,.mk k n s o l=>(k=2->0<=n/\n<nv)/\(k=20->0<=n/\n<nf)/\(match k==19,l with|true,[a,b]=>QeI nf nv a/\QeI nf (nv+1) b|_,l=>QeH nf nv l)
def QeH(nf:Nat):Nat->List Nd->Prop
 |_,[]=>True
 |nv,a::l=>QeI nf nv a/\QeH nf nv l
end
def JeZ{nf nv:Nat}{l:List Nd}(h:QeH nf nv l):∀a∈l,QeI nf nv a:=by
 induction l with
 |nil=>intro a ha;cases ha
 |cons x r ih=>
  unfold QeH at h;exact QjP
structure Qan(fs:List Qau)(rb:Nat)(M:Value)(W:World)(x:Option Int)(vars:List Int)(vv:Value)(a:An):Prop where
 at':a.At W
 rf:rb∉foot a
 flt:Qbf W rb 147 x M
 sigs:QdJ W rb M fs
 ints:QaP W rb vv vars
 ok:QeI fs.length vars.length a.nd
 wf:WfN a.nd
def Qan.chg{fs:List Qau}{rb:Nat}{M:Value}{W W':World}{x x':Option Int}{M0:List Int}{vv:Value}{a:An}(h:Qan fs rb M W x M0 vv a)(hc:Chg [rb] W W')(hf:Qbf W' rb 147 x' M):Qan fs rb M W' x' M0 vv a:=
 ⟨JE a h.at' λb hb=>hc.block b (JaL a h.at' b hb) (by simp;intro e;subst e;exact h.rf hb),h.rf,hf,h.sigs.chg hc,h.ints.chg hc,h.ok,h.wf⟩
def Qan.up{fs:List Qau}{rb:Nat}{M:Value}{W W':World}{x:Option Int}{M0:List Int}{vv:Value}{a:An}(h:Qan fs rb M W x M0 vv a)(hb:Below W.heap.size W W'):Qan fs rb M W' x M0 vv a:=
 h.chg (Chg.of_below hb [rb]) ((hb.block _ (Jb h.flt)).trans h.flt)
def Qan.kid{fs:List Qau}{rb:Nat}{M:Value}{W:World}{x:Option Int}{M0:List Int}{vv:Value}{k n:Int}{s:By}{off:Int}{b c:Nat}{l:List An}(h:Qan fs rb M W x M0 vv (.mk k n s off b c l))(hk:k≠19):∀y∈l,Qan fs rb M W x M0 vv y:=by
 intro y hy;obtain⟨i,hi⟩:=List.getElem?_of_mem hy;have hat:=h.at';unfold An.At at hat;have zA:=h.rf;rw[Kt,if_neg (ne_nil_of_mem hy)]at zA;have yA:=h.ok;unfold An.nd QeI at yA;have xA:=yA.2.2;rw[zzq hk]at xA;have hwf:=h.wf;unfold An.nd WfN at hwf;have hmem:y.nd∈ndL l:=by rw[J7];exact List.mem_map.2 ⟨y,hy,rfl⟩
 exact⟨(JO hat.2 hi).2,λhm=>zA (List.mem_cons_of_mem _ (Jz hy _ hm)),h.flt,h.sigs,h.ints,JeZ xA _ hmem,Z9 hwf.2.2.2.2 _ hmem⟩
def TyP(w:World)(rb:Nat)(M:Value)(x:Option Int)(errs:List Int)(v:Value)(e:Ending)(w':World):Prop:=e=.returned v/\Qbf w' rb 147 (QaG x errs) M/\Chg [rb] w w'
def QbS(fs:List Qau)(M0:List Int)(t:Int)(a:Nd):List Int:=(ofN fs M0 a).2++if (ofN fs M0 a).1≠t then [a.off] else []
def JD(fs:List Qau)(rb:Nat)(M:Value)(a:An)(M0:List Int)(vv:Value)(x:Option Int)(t:Int)(w:World)(hpre:Qan fs rb M w x M0 vv a)
  (H:∀W,Qan fs rb M W x M0 vv a->Calls prog 108 #[Pt rb,.agg (Qaa a),vv] W (TyP W rb M x (ofN fs M0 a.nd).2 (Iv (ofN fs M0 a.nd).1))):
  Calls prog 76 #[Pt rb,.agg (Qaa a),vv,Iv t] w (TyP w rb M x (QbS fs M0 t a.nd) (.tuple #[])):=by
 obtain⟨R,hR⟩:∃R,TyP w rb M x (QbS fs M0 t a.nd) (.tuple #[])=R:=⟨_,rfl⟩
 rw[hR];have HR:Hi (R=TyP w rb M x (QbS fs M0 t a.nd) (.tuple #[])):=hR.symm;have uA:Below w.heap.size w (w.alloc (.cells (Qaa a) 119)):=zzb.alloc zzl _;have co:=H _ (hpre.up uA);have S0:=Zh (zzw w (.cells (Qaa a) 119));have J1:=Zh (Chg.of_below uA [rb]);have eA:=Jb hpre.flt;obtain⟨xA,xn,xc,T1⟩:=Jg a;obtain⟨r,hr⟩:∃r,ofN fs M0 a.nd=r:=⟨_,rfl⟩
 have vA:=Zh hr;rw[hr]at co;obtain⟨ty,es⟩:=r;dsimp only at co;rw[T1]at co S0 J1 |-;have zA:a.nd.off=a.off:=YC a;have P8:=Zh zA;go_enter func76,ntmps76;go_wp2_with fail;generalize World.alloc w _=w1 at*;have P4:w.heap.size≠rb:=zo
 generalize w.heap.size=cb at*;refine co.mono ?_;rintro e w2 ⟨rfl,i7,E1⟩;have T5:=Zh i7;have L6:=Zh E1;have yA:=E1.heap_some (by simp;exact P4) S0.o;have G5:=Zh yA
 by_cases ht:ty=t
 ·subst ht;have d1:(ty !=ty)=false:=zp
  have HE:Hi (QbS fs M0 ty a.nd=es):=by unfold QbS Hi;rw[vA.o];simp
  go_wp2;go_end0;rw[HR.o,HE.o];exact⟨rfl,T5.o,J1.o.trans L6.o⟩
 ·have d1:(ty !=t)=true:=bne_iff_ne.2 ht;have HE:Hi (QbS fs M0 t a.nd=es++[a.off]):=by unfold QbS Hi;rw[vA.o,P8.o];simp[ht]
  go_upto_region 2 with fail;refine wp_region_held_drew (S:=λ_=>True) zk (trivial) λhH=>?_;have hD:Below w2.heap.size w2 w2.drew:=(Below.refl w2.heap.size w2).drew;have dA:=Zh (Chg.of_below hD [rb]);replace T5:=Zh ((hD.block _ (Jb T5.o)).trans T5.o);replace G5:=Zh ((hD.block _ (Jb G5.o)).trans G5.o);generalize w2.drew=w3 at*;refine ZT (i:=0) (v:=?vT1_0) rfl (Or.inl ⟨by rfl,?yT1_0⟩) ?_
  case yT1_0=>exact ZyQ
  refine ZT (i:=1) (v:=?vT1_1) rfl (Or.inl ⟨by rfl,?yT1_1⟩) ?_
  case yT1_1=>exact ZyQ
  refine ZT (i:=2) (v:=?vT1_2) rfl (Or.inl ⟨by rfl,?yT1_2⟩) ?_
  case yT1_2=>exact ZyQ
  refine ZT (i:=3) (v:=?vT1_3) rfl (Or.inl ⟨by rfl,?yT1_3⟩) ?_
  case yT1_3=>exact ZyQ
  refine ZS 4 rfl λK hK=>?_;have n3:=Ja G5.o 3;simp only[zW]at n3;go_simp;refine zU hK trivial λhH=>?_
  refine ZS 5 rfl λK hK=>?_
  (go_simp;go_at_call 73;refine(Vo _ rb 147 _ M a.off T5.o).mono ?_;intro e w4 h4)
  obtain⟨aA,cA,bA⟩:=h4;subst aA;have XA:=Zh cA;have T6:=Zh bA;refine zU hK trivial λhH=>?_
  refine wpAnyH_done zk ?_ _;go_wp2;go_end0;rw[HR.o,HE.o];exact⟨rfl,by rw[Jt];exact XA.o,(J1.o.trans L6.o).trans (dA.o.trans T6.o)⟩
def VY(fs:List Qau)(M0:List Int)(t:Int)(a:Nd)(l:List Nd):QaU fs M0 t (a::l)=QbS fs M0 t a++QaU fs M0 t l:=by
 rw[QaU];unfold QbS;rw[List.append_assoc]
def JaV(fs:List Qau)(M0:List Int)(t:Int):∀(l:List Nd)(a:Nd),QaU fs M0 t (l++[a])=QaU fs M0 t l++QbS fs M0 t a
 |[],a=>by simp[VY,QaU]
 |x::l,a=>by rw[List.cons_append,VY,VY,JaV fs M0 t l a,List.append_assoc]
def YR(fs:List Qau)(rb:Nat)(M:Value)(k nn:Int)(s:By)(off:Int)(b c:Nat)(l:List An)(M0:List Int)(vv:Value)(x:Option Int)(t:Int)(w:World)(hk:k≠19)(hl:l.length<=1000000000)(hpre:Qan fs rb M w x M0 vv (.mk k nn s off b c l))
  (H:∀y∈l,∀W x',Qan fs rb M W x' M0 vv y->Calls prog 76 #[Pt rb,.agg (Qaa y),vv,Iv t] W (TyP W rb M x' (QbS fs M0 t y.nd) (.tuple #[]))):
  Calls prog 132 #[Pt rb,.agg (Qaa (.mk k nn s off b c l)),vv,Iv t] w (TyP w rb M x (QaU fs M0 t (ndL l)) (.tuple #[])):=by
 obtain⟨R,hR⟩:∃R,TyP w rb M x (QaU fs M0 t (ndL l)) (.tuple #[])=R:=⟨_,rfl⟩
 rw[hR];have HR:Hi (R=TyP w rb M x (QaU fs M0 t (ndL l)) (.tuple #[])):=hR.symm;obtain⟨ad,cc,M3,zA⟩:=Jn b c l
 have vA:Qaa (.mk k nn s off b c l)=#[Iv k,Iv nn,Sv s,Iv off,.slice ad l.length cc]:=by
  show #[_,_,_,_,Qaw b c l]=_
  rw[M3]
 have yA:Below w.heap.size w (w.alloc (.cells (Qaa (.mk k nn s off b c l)) 119)):=zzb.alloc zzl _;have HP:=Zh (hpre.up yA);have J1:=Zh (Chg.of_below yA [rb]);have HH:=Zh H;have HAD:=Zh zA;have HK:=Zh hk;rw[vA]at HP J1 |-;go_enter func132,ntmps132;go_wp2_with fail;generalize World.alloc w _=w1 at*;go_loopg [13] l.length λg v13 wr=>∃i:Nat,g+i=l.length/\v13=Iv i/\Hi (Qan fs rb M wr (QaG x (QaU fs M0 t (ndL (l.take i)))) M0 vv (.mk k nn s off b c l))/\Hi (Chg [rb] w wr)
 case atStart=>exact⟨0,rfl,rfl,Zh (by simpa[ndL,QaU,QaG] using HP.o),J1⟩
 case round=>
 obtain⟨wl,rfl⟩:=zG wr
 obtain⟨i,hg,rfl,hp,hc⟩:=hrel
 by_cases hi:i<l.length
 ·have hil:(i:Int)<(l.length:Int):=zo
  obtain⟨y,hy⟩:∃y,l[i]?=some y:=⟨l[i],List.getElem?_eq_getElem hi⟩
  have hmem:=List.mem_of_getElem? hy;have O1:ad=some ⟨b,0,none⟩:=HAD.o (ne_nil_of_mem hmem);have hat:=hp.o.at';unfold An.At at hat;have hcl:=(JO hat.2 hy).1;rw[Nat.zero_add]at hcl;obtain⟨xA,xn,xc,T1⟩:=Jg y;rw[T1]at hcl;have c0:=hcl 0 _ rfl;have c1:=hcl 1 _ rfl;have c2:=hcl 2 _ rfl;have c3:=hcl 3 _ rfl;have c4:=hcl 4 _ rfl;simp only[add_zero]at c0;have wk:=zI i;have I0:Below wl.heap.size wl (wl.alloc (.cells (Qaa y) 119)):=zzb.alloc zzl _;have cn:=HH.o y hmem _ _ ((hp.o.up I0).kid HK.o y hmem);have R3:=Zh (hp.o.up I0);have L6:=Zh (hc.o.trans (Chg.of_below I0 [rb]));have O5:Hi (ndL (l.take (i+1))=ndL (l.take i)++[y.nd]):=by rw[Hi,List.take_add_one,hy];exact KL _ _
  have HG:=Zh hg;rw[T1]at cn R3 L6;subst O1;go_wp2_with fail;refine cn.mono ?_;rintro e w3 ⟨rfl,uA,A5⟩
  have Q7:Hi (Qan fs rb M w3 (QaG x (QaU fs M0 t (ndL (l.take (i+1))))) M0 vv (.mk k nn s off b c l)):=by
   rw[Hi,O5.o,JaV,Jt];exact R3.o.chg A5 uA
  have A7:=Zh (L6.o.trans A5);go_wp2;go_roundg (l.length-(i+1))
  case measure=>have:=HG.o;omega
  case rel=>exact⟨i+1,by omega,by go_num,Q7,A7⟩
 ·have hil:¬(i:Int)<(l.length:Int):=zo
  obtain rfl:i=l.length:=zo
  have C2:=hp.o;rw[List.take_length]at C2;have R3:=Zh C2;go_wp2;go_end0;rw[HR.o];exact⟨rfl,R3.o.flt,hc.o⟩
def Jhj{W:World}{rb:Nat}{a:Option Addr}{n c:Nat}{l:List Int}(h:QaP W rb (.slice a n c) l):n=l.length:=by
 rcases h with⟨rfl,_,_,e⟩|⟨g,o,cc,e,_⟩
 ·injection e
 ·injection e
structure TcI(fs:List Qau)(rb:Nat)(M:Value)(w W:World)(x:Option Int)(vars:List Int)(vv:Value)(a:An)(fb cb:Nat)(fc ac:Array Value)(pv:Value)(ps:List Int):Prop where
 pre:Qan fs rb M W x vars vv a
 chg:Chg [rb] w W
 fbk:W.heap[fb]?=some (.cells fc 79 (0,0))
 cbk:W.heap[cb]?=some (.cells ac 119 (0,0))
 ints:QaP W rb pv ps
 ne:fb≠rb/\cb≠rb
def TcI.on{fs:List Qau}{rb:Nat}{M:Value}{w W W':World}{x x':Option Int}{M0:List Int}{vv:Value}{a:An}{fb cb:Nat}{fc ac:Array Value}{pv:Value}{ps:List Int}(h:TcI fs rb M w W x M0 vv a fb cb fc ac pv ps)(hc:Chg [rb] W W')(hf:Qbf W' rb 147 x' M):TcI fs rb M w W' x' M0 vv a fb cb fc ac pv ps:=
 ⟨h.pre.chg hc hf,h.chg.trans hc,hc.heap_some (by simp;exact h.ne.1) h.fbk,hc.heap_some (by simp;exact h.ne.2) h.cbk,h.ints.chg hc,h.ne⟩
def TcI.up{fs:List Qau}{rb:Nat}{M:Value}{w W W':World}{x:Option Int}{M0:List Int}{vv:Value}{a:An}{fb cb:Nat}{fc ac:Array Value}{pv:Value}{ps:List Int}(h:TcI fs rb M w W x M0 vv a fb cb fc ac pv ps)(hb:Below W.heap.size W W'):TcI fs rb M w W' x M0 vv a fb cb fc ac pv ps:=h.on (Chg.of_below hb [rb]) ((hb.block _ (Jb h.pre.flt)).trans h.pre.flt)
def Yo(fs:List Qau)(M0:List Int)(b:Bool):∀(l:List Nd)(ps:List Int)(a:Nd),QcP fs M0 b ps (l++[a])=QcP fs M0 b ps l++((ofN fs M0 a).2++if b=true/\(ofN fs M0 a).1≠(ps.drop l.length).headD 0 then [a.off] else [])
 |[],ps,a=>by simp[QcP]
 |x::l,ps,a=>by
  rw[List.cons_append,QcP,Yo fs M0 b l ps.tail a,QcP];simp only[List.append_assoc,List.length_cons,List.drop_tail]
def QkF(fs:List Qau)(M0:List Int)(n:Int)(o:Int)(l:List Nd):List Int:=(if l.length≠(fs.getD n.toNat ⟨[],0⟩).params.length then [o] else [])++QcP fs M0 (l.length==(fs.getD n.toNat ⟨[],0⟩).params.length) (fs.getD n.toNat ⟨[],0⟩).params l
def wx4{P:Prop}(h:P:=by
  try simp only[Act.put,ZA,ZB,ZC]
  refine ZS 7 rfl (λK hK=>?_);have c0:=L5.o 0 _ rfl;have c1:=L5.o 1 _ rfl;have c2:=L5.o 2 _ rfl;have c3:=L5.o 3 _ rfl;have c4:=L5.o 4 _ rfl;have c5:=L5.o 5 _ rfl;have c6:=L5.o 6 _ rfl;simp only[Nat.add_zero]at c0;go_simp;clear c0 c1 c2 c3 c4 c5 c6;refine hK.out _ _ trivial (λhH=>?_);clear hK K
  try simp only[Act.put,ZA,ZB,ZC]
  refine ZS 9 rfl (λK hK=>?_);have hz:=L1.o;have z0:=Ja hz 0;have y0:=Jc hz 0;have z1:=Ja hz 1;have y1:=Jc hz 1;have z2:=Ja hz 2;have y2:=Jc hz 2;have z3:=Ja hz 3;have y3:=Jc hz 3;have z4:=Ja hz 4;have y4:=Jc hz 4;have z5:=Ja hz 5;have y5:=Jc hz 5;have z6:=Ja hz 6;have y6:=Jc hz 6;simp only[ZD,ZE,ZF]at z0 z1 z2 z3 z4 z5 z6;have MD:=Jb hz;clear hz;go_simp;clear MD z0 y0 z1 y1 z2 y2 z3 y3 z4 y4 z5 y5 z6 y6;refine hK.out _ _ trivial (λhH=>?_);clear hK K
  try simp only[Act.put,ZA,ZB,ZC]
  refine wpAnyH_done (by kernel_rfl) ?_ _;go_wp2_with fail;go_meet
  exact⟨_,rfl,⟨AA.o,S1.o.1⟩,T5.o,iD.o,XA.o,WA.o⟩):P:=h
def QnX{P:Prop}(h:P:=by
  try simp only[Act.put,ZA,ZB,ZC]
  refine ZR (rs:=[7,8]) (AllReadyH.cons rfl (λK hK=>?_) (AllReadyH.cons rfl (λK hK=>?_) AllReadyH.nil))
  ·have c0:=L5.o 0 _ rfl;have c1:=L5.o 1 _ rfl;have c2:=L5.o 2 _ rfl;have c3:=L5.o 3 _ rfl;have c4:=L5.o 4 _ rfl;have c5:=L5.o 5 _ rfl;have c6:=L5.o 6 _ rfl;simp only[Nat.add_zero]at c0;go_simp;clear c0 c1 c2 c3 c4 c5 c6;refine hK.out _ _ trivial (λhH=>?_);clear hK K
   try simp only[Act.put,ZA,ZB,ZC]
   refine ZS 8 rfl (λK hK=>?_);go_simp;refine hK.out _ _ trivial (λhH=>?_);have Q3:Below w3.heap.size w3 (w3.alloc (.cells #[.string ⟨#[]⟩,.slice none 0 0,Iv 0,Iv 0,Iv 0,.string ⟨#[]⟩,.slice none 0 0] 79)):=zzb.alloc zzl _;replace HP:=Zh (HP.o.up Q3);replace S0:=Zh (Jf (X:=.cells #[.string ⟨#[]⟩,.slice none 0 0,Iv 0,Iv 0,Iv 0,.string ⟨#[]⟩,.slice none 0 0] 79) S0.o);replace L5:Hi (∀(j:Nat)(u:Value),([.string x0,.slice pa pn pc,Iv sg.result,Iv sk,Iv sn,.string x5,.slice a6 n6 c6]:List Value)[j]?=some u->(w3.alloc (.cells #[.string ⟨#[]⟩,.slice none 0 0,Iv 0,Iv 0,Iv 0,.string ⟨#[]⟩,.slice none 0 0] 79)).cell? ⟨g,go+ix*7+j,none⟩=some u):=λj u hj=>(Q3.cell (World.block_lt_of_cell? _ _ (L5.o j u hj))).trans (L5.o j u hj)
   clear Q3;clear hK K
   try simp only[Act.put,ZA,ZB,ZC]
   refine ZS 9 rfl (λK hK=>?_);have hz:=L1.o;have z0:=Ja hz 0;have y0:=Jc hz 0;have z1:=Ja hz 1;have y1:=Jc hz 1;have z2:=Ja hz 2;have y2:=Jc hz 2;have z3:=Ja hz 3;have y3:=Jc hz 3;have z4:=Ja hz 4;have y4:=Jc hz 4;have z5:=Ja hz 5;have y5:=Jc hz 5;have z6:=Ja hz 6;have y6:=Jc hz 6;simp only[ZD,ZE,ZF]at z0 z1 z2 z3 z4 z5 z6;have MD:=Jb hz;clear hz;go_simp;clear MD z0 y0 z1 y1 z2 y2 z3 y3 z4 y4 z5 y5 z6 y6;refine hK.out _ _ trivial (λhH=>?_);clear hK K
   try simp only[Act.put,ZA,ZB,ZC]
   refine wpAnyH_done (by kernel_rfl) ?_ _;go_wp2_with fail;go_meet;exact⟨_,rfl,⟨AA.o,S1.o.1⟩,T5.o,iD.o,XA.o,WA.o⟩
  ·go_simp;refine hK.out _ _ trivial (λhH=>?_);have Q3:Below w3.heap.size w3 (w3.alloc (.cells #[.string ⟨#[]⟩,.slice none 0 0,Iv 0,Iv 0,Iv 0,.string ⟨#[]⟩,.slice none 0 0] 79)):=zzb.alloc zzl _;replace HP:=Zh (HP.o.up Q3);replace S0:=Zh (Jf (X:=.cells #[.string ⟨#[]⟩,.slice none 0 0,Iv 0,Iv 0,Iv 0,.string ⟨#[]⟩,.slice none 0 0] 79) S0.o);replace L5:Hi (∀(j:Nat)(u:Value),([.string x0,.slice pa pn pc,Iv sg.result,Iv sk,Iv sn,.string x5,.slice a6 n6 c6]:List Value)[j]?=some u->(w3.alloc (.cells #[.string ⟨#[]⟩,.slice none 0 0,Iv 0,Iv 0,Iv 0,.string ⟨#[]⟩,.slice none 0 0] 79)).cell? ⟨g,go+ix*7+j,none⟩=some u):=λj u hj=>(Q3.cell (World.block_lt_of_cell? _ _ (L5.o j u hj))).trans (L5.o j u hj)
   clear Q3;clear hK K
   exact wx4):P:=h
def QnA{P:Prop}(h:P:=by
  obtain rfl:i=l.length:=by omega
  have X8:=ht.o;rw[List.take_length]at X8;have g2:=Ja X8.fbk 2;simp only[ZD,ZE,ZF]at g2;have HT:=Zh X8;clear hi hg ht X8;go_wp2;rw[HR.o,U7.o.1,U7.o.2]
  exact⟨rfl,by rw[Jt];exact HT.o.pre.flt,HT.o.chg⟩):P:=h
def Qlz{P:Prop}(h:P:=by
  go_wp2;go_roundg (l.length-(i+1))
  case measure=>have:=HG.o;omega
  case rel=>exact⟨i+1,by omega,by go_num,by rw[HE.o,Jt];exact E8.o⟩):P:=h
def Jfa(fs:List Qau)(rb:Nat)(M:Value)(nn:Int)(s:By)(off:Int)(b c:Nat)(l:List An)(M0:List Int)(vv:Value)(x:Option Int)(w:World)(hl:l.length<=1000000000)(hpre:Qan fs rb M w x M0 vv (.mk 20 nn s off b c l))(hps:∀s∈fs,s.params.length<=1000000000)
  (H:∀y∈l,∀W x',Qan fs rb M W x' M0 vv y->Calls prog 108 #[Pt rb,.agg (Qaa y),vv] W (TyP W rb M x' (ofN fs M0 y.nd).2 (Iv (ofN fs M0 y.nd).1))):
  Calls prog 133 #[Pt rb,.agg (Qaa (.mk 20 nn s off b c l)),vv] w (TyP w rb M x (QkF fs M0 nn off (ndL l)) (Iv (fs.getD nn.toNat ⟨[],0⟩).result)):=by
 have sA:=hpre.ok;unfold An.nd QeI at sA;obtain⟨i6,kB⟩:=sA.2.1 rfl;obtain⟨ix,rfl⟩:∃ix:Nat,nn=(ix:Int):=⟨nn.toNat,by omega⟩
 have mA:ix<fs.length:=zo
 obtain⟨sg,jA⟩:∃sg,fs[ix]?=some sg:=⟨fs[ix],List.getElem?_eq_getElem mA⟩
 have yB:fs.getD ((ix:Int)).toNat ⟨[],0⟩=sg:=by rw[Int.toNat_natCast,List.getD_eq_getElem?_getD,jA];rfl
 unfold QkF;rw[yB];have tB:=hps sg (List.mem_of_getElem? jA);obtain⟨R,hR⟩:∃R,TyP w rb M x ((if (ndL l).length≠sg.params.length then [off] else [])++QcP fs M0 ((ndL l).length==sg.params.length) sg.params (ndL l)) (Iv sg.result)=R:=⟨_,rfl⟩
 rw[hR];have HR:Hi (R=TyP w rb M x ((if (ndL l).length≠sg.params.length then [off] else [])++QcP fs M0 ((ndL l).length==sg.params.length) sg.params (ndL l)) (Iv sg.result)):=hR.symm;obtain⟨ad,cc,M3,aB⟩:=Jn b c l
 have eB:Qaa (.mk 20 (ix:Int) s off b c l)=#[Iv 20,Iv (ix:Nat),Sv s,Iv off,.slice ad l.length cc]:=by
  show #[_,_,_,_,Qaw b c l]=_
  rw[M3]
 have tA:Below w.heap.size w (w.alloc (.cells (Qaa (.mk 20 (ix:Int) s off b c l)) 119)):=zzb.alloc zzl _;have HP:=Zh (hpre.up tA);have J1:=Zh (Chg.of_below tA [rb]);have S0:=Zh (zzw w (.cells (Qaa (.mk 20 (ix:Int) s off b c l)) 119));have pB:=Jb hpre.flt;have P4:w.heap.size≠rb:=zo
 have HH:=Zh H;have HAD:=Zh aB;have cB:=Zh jA;rw[eB]at HP J1 S0 |-;clear hR hpre tA M3 aB eB H jA yB hps sA i6 kB pB;go_enter func133,ntmps133;go_upto_region 1 with fail;generalize World.alloc w _=w1 at*;generalize w.heap.size=cb at*;obtain⟨ma,mc,hM,bB⟩:=HP.o.sigs;obtain⟨g,go,mB,yC,hrow⟩:=bB (by intro e;rw[e]at mA;exact absurd mA zp);obtain⟨x0,pv,sk,sn,x5,a6,n6,c6,xB,dB⟩:=hrow ix sg cB.o;have iB:(ix:Int)<(fs.length:Int):=zo
 subst mB;have HM:Hi (M=.slice (some ⟨g,go,none⟩) fs.length mc):=hM;have uB:=Zh xB;have L5:=Zh dB;obtain⟨pa,pn,pc,qB⟩:∃pa pn pc,pv=.slice pa pn pc:=by rcases xB with⟨_,_,_,e⟩|⟨_,_,_,e,_⟩<;>exact⟨_,_,_,e⟩
 subst qB;clear hM bB hrow xB dB;go_cut [7] λv7 wx=>∃fb,v7=Pt fb/\Hi (wx.heap[fb]?=some (.cells #[.string x0,.slice pa pn pc,Iv sg.result,Iv sk,Iv sn,.string x5,.slice a6 n6 c6] 79 (0,0))/\fb≠rb)/\Hi (Qan fs rb M wx x M0 vv (.mk 20 (ix:Int) s off b c l))/\Hi (Chg [rb] w wx)/\Hi (wx.heap[cb]?=some (.cells #[Iv 20,Iv (ix:Nat),Sv s,Iv off,.slice ad l.length cc] 119 (0,0)))/\Hi (QaP wx rb (.slice pa pn pc) sg.params)
 case first=>
  clear HH HAD;refine wp_region_held_drew (S:=λ_=>True) zk (trivial) λhH=>?_;have vA:Below w1.heap.size w1 w1.drew:=(Below.refl w1.heap.size w1).drew;replace HP:=Zh (HP.o.up vA);replace J1:=Zh (J1.o.trans (Chg.of_below vA [rb]));replace S0:=Zh ((vA.block _ (Jb S0.o)).trans S0.o);replace L5:Hi (∀(j:Nat)(u:Value),([.string x0,.slice pa pn pc,Iv sg.result,Iv sk,Iv sn,.string x5,.slice a6 n6 c6]:List Value)[j]?=some u->w1.drew.cell? ⟨g,go+ix*7+j,none⟩=some u):=L5.o;have jB:=Zh (Chg.of_below vA [rb]);clear vA;generalize w1.drew=w3 at*;have S1:Hi (w3.heap.size≠rb/\True):=⟨by have:=Jb HP.o.flt;omega,trivial⟩
  have L1:Hi ((w3.alloc (.cells #[Em,Nl,Iv 0,Iv 0,Iv 0,Em,Nl] 79)).heap[w3.heap.size]?=some (.cells #[Em,Nl,Iv 0,Iv 0,Iv 0,Em,Nl] 79)):=zzw _ _;have bA:Below w3.heap.size w3 (w3.alloc (.cells #[.string x0,.slice pa pn pc,Iv sg.result,Iv sk,Iv sn,.string x5,.slice a6 n6 c6] 79)):=zzb.alloc zzl _;have AA:=Zh (zzw w3 (.cells #[.string x0,.slice pa pn pc,Iv sg.result,Iv sk,Iv sn,.string x5,.slice a6 n6 c6] 79));have T5:=Zh (HP.o.up bA);have iD:=Zh (J1.o.trans (Chg.of_below bA [rb]));have XA:=Zh ((bA.block _ (Jb S0.o)).trans S0.o);have WA:=Zh (uB.o.chg (jB.o.trans (Chg.of_below bA [rb])));clear bA;refine ZT (i:=0) (v:=?vT7_0) rfl (Or.inl ⟨by rfl,?yT7_0⟩) ?_
  case yT7_0=>exact ZyQ
  try simp only[zX]
  refine ZT (i:=1) (v:=?vT7_1) rfl (Or.inl ⟨by rfl,?yT7_1⟩) ?_
  case yT7_1=>exact ZyQ
  try simp only[zX]
  refine ZT (i:=2) (v:=?vT7_2) rfl (Or.inl ⟨by rfl,?yT7_2⟩) ?_
  case yT7_2=>exact ZyQ
  try simp only[zX]
  refine ZT (i:=4) (v:=?vT7_4) rfl (Or.inl ⟨by rfl,?yT7_4⟩) ?_
  case yT7_4=>exact ZyQ
  try simp only[zX]
  refine ZR (rs:=[3,5,8]) (AllReadyH.cons rfl (λK hK=>?_) (AllReadyH.cons rfl (λK hK=>?_) (AllReadyH.cons rfl (λK hK=>?_) AllReadyH.nil)))
  ·have r2:=Ja HP.o.flt 2;rw[HM.o]at r2;simp only[zW]at r2;go_simp;clear r2;refine zU hK trivial λhH=>?_;clear hK K
   try simp only[zX]
   refine ZR (rs:=[5,8]) (AllReadyH.cons rfl (λK hK=>?_) (AllReadyH.cons rfl (λK hK=>?_) AllReadyH.nil))
   ·have n1:=Ja S0.o 1;simp only[zW]at n1;go_simp;clear n1;refine zU hK trivial λhH=>?_;clear hK K
    try simp only[zX]
    refine ZT (i:=6) (v:=?vT9_6) rfl (Or.inl ⟨by rfl,?yT9_6⟩) ?_
    case yT9_6=>exact ZyQ
    exact QnX
   ·go_simp;refine zU hK trivial λhH=>?_;have Q3:Below w3.heap.size w3 (w3.alloc (.cells #[Em,Nl,Iv 0,Iv 0,Iv 0,Em,Nl] 79)):=zzb.alloc zzl _;replace HP:=Zh (HP.o.up Q3);replace S0:=Zh (Jf (X:=.cells #[Em,Nl,Iv 0,Iv 0,Iv 0,Em,Nl] 79) S0.o);replace L5:Hi (∀(j:Nat)(u:Value),([.string x0,.slice pa pn pc,Iv sg.result,Iv sk,Iv sn,.string x5,.slice a6 n6 c6]:List Value)[j]?=some u->(w3.alloc (.cells #[Em,Nl,Iv 0,Iv 0,Iv 0,Em,Nl] 79)).cell? ⟨g,go+ix*7+j,none⟩=some u):=λj u hj=>(Q3.cell (World.block_lt_of_cell? _ _ (L5.o j u hj))).trans (L5.o j u hj)
    clear Q3;clear hK K
    try simp only[zX]
    refine ZS 5 rfl λK hK=>?_;have n1:=Ja S0.o 1;simp only[zW]at n1;go_simp;clear n1;refine zU hK trivial λhH=>?_;clear hK K
    try simp only[zX]
    refine ZT (i:=6) (v:=?vT17_6) rfl (Or.inl ⟨by rfl,?yT17_6⟩) ?_
    case yT17_6=>exact ZyQ
    exact wx4
  ·have n1:=Ja S0.o 1;simp only[zW]at n1;go_simp;clear n1;refine zU hK trivial λhH=>?_;clear hK K
   try simp only[zX]
   refine ZR (rs:=[3,8]) (AllReadyH.cons rfl (λK hK=>?_) (AllReadyH.cons rfl (λK hK=>?_) AllReadyH.nil))
   ·have r2:=Ja HP.o.flt 2;rw[HM.o]at r2;simp only[zW]at r2;go_simp;clear r2;refine zU hK trivial λhH=>?_;clear hK K
    try simp only[zX]
    refine ZT (i:=6) (v:=?vT21_6) rfl (Or.inl ⟨by rfl,?yT21_6⟩) ?_
    case yT21_6=>exact ZyQ
    exact QnX
   ·go_simp;refine zU hK trivial λhH=>?_;have Q3:Below w3.heap.size w3 (w3.alloc (.cells #[Em,Nl,Iv 0,Iv 0,Iv 0,Em,Nl] 79)):=zzb.alloc zzl _;replace HP:=Zh (HP.o.up Q3);replace S0:=Zh (Jf (X:=.cells #[Em,Nl,Iv 0,Iv 0,Iv 0,Em,Nl] 79) S0.o);replace L5:Hi (∀(j:Nat)(u:Value),([.string x0,.slice pa pn pc,Iv sg.result,Iv sk,Iv sn,.string x5,.slice a6 n6 c6]:List Value)[j]?=some u->(w3.alloc (.cells #[Em,Nl,Iv 0,Iv 0,Iv 0,Em,Nl] 79)).cell? ⟨g,go+ix*7+j,none⟩=some u):=λj u hj=>(Q3.cell (World.block_lt_of_cell? _ _ (L5.o j u hj))).trans (L5.o j u hj)
    clear Q3;clear hK K
    try simp only[zX]
    refine ZS 3 rfl λK hK=>?_;have r2:=Ja HP.o.flt 2;rw[HM.o]at r2;simp only[zW]at r2;go_simp;clear r2;refine zU hK trivial λhH=>?_;clear hK K
    try simp only[zX]
    refine ZT (i:=6) (v:=?vT29_6) rfl (Or.inl ⟨by rfl,?yT29_6⟩) ?_
    case yT29_6=>exact ZyQ
    exact wx4
  ·go_simp;refine zU hK trivial λhH=>?_;have Q3:Below w3.heap.size w3 (w3.alloc (.cells #[Em,Nl,Iv 0,Iv 0,Iv 0,Em,Nl] 79)):=zzb.alloc zzl _;replace HP:=Zh (HP.o.up Q3);replace S0:=Zh (Jf (X:=.cells #[Em,Nl,Iv 0,Iv 0,Iv 0,Em,Nl] 79) S0.o);replace L5:Hi (∀(j:Nat)(u:Value),([.string x0,.slice pa pn pc,Iv sg.result,Iv sk,Iv sn,.string x5,.slice a6 n6 c6]:List Value)[j]?=some u->(w3.alloc (.cells #[Em,Nl,Iv 0,Iv 0,Iv 0,Em,Nl] 79)).cell? ⟨g,go+ix*7+j,none⟩=some u):=λj u hj=>(Q3.cell (World.block_lt_of_cell? _ _ (L5.o j u hj))).trans (L5.o j u hj)
   clear Q3;clear hK K
   try simp only[zX]
   refine ZR (rs:=[3,5]) (AllReadyH.cons rfl (λK hK=>?_) (AllReadyH.cons rfl (λK hK=>?_) AllReadyH.nil))
   ·have r2:=Ja HP.o.flt 2;rw[HM.o]at r2;simp only[zW]at r2;go_simp;clear r2;refine zU hK trivial λhH=>?_;clear hK K
    try simp only[zX]
    refine ZS 5 rfl λK hK=>?_;have n1:=Ja S0.o 1;simp only[zW]at n1;go_simp;clear n1;refine zU hK trivial λhH=>?_;clear hK K
    try simp only[zX]
    refine ZT (i:=6) (v:=?vT34_6) rfl (Or.inl ⟨by rfl,?yT34_6⟩) ?_
    case yT34_6=>exact ZyQ
    exact wx4
   ·have n1:=Ja S0.o 1;simp only[zW]at n1;go_simp;clear n1;refine zU hK trivial λhH=>?_;clear hK K
    try simp only[zX]
    refine ZS 3 rfl λK hK=>?_;have r2:=Ja HP.o.flt 2;rw[HM.o]at r2;simp only[zW]at r2;go_simp;clear r2;refine zU hK trivial λhH=>?_;clear hK K
    try simp only[zX]
    refine ZT (i:=6) (v:=?vT38_6) rfl (Or.inl ⟨by rfl,?yT38_6⟩) ?_
    case yT38_6=>exact ZyQ
    exact wx4
 case rest=>
 obtain⟨fb,rfl,dA,hp,hc,nA,uA⟩:=hcut;have gB:=Jhj uA.o;have xA:Hi (TcI fs rb M w wc x M0 vv (.mk 20 (ix:Int) s off b c l) fb cb #[.string x0,.slice pa pn pc,Iv sg.result,Iv sk,Iv sn,.string x5,.slice a6 n6 c6] #[Iv 20,Iv (ix:Nat),Sv s,Iv off,.slice ad l.length cc] (.slice pa pn pc) sg.params):=⟨hp.o,hc.o,dA.o.1,nA.o,uA.o,dA.o.2,P4⟩
 have pA:=Zh gB;have hB:=dA.o.2;have n4:=Ja nA.o 4;have g1:=Ja dA.o.1 1;simp only[zW]at n4 g1;have eA:(ndL l).length=l.length:=by rw[J7,List.length_map]
 rw[eA]at HR;clear dA hp hc nA uA gB uB L5 cB HM J1 HP S0 eA
 by_cases ND:l.length=pn
 ·subst ND;have d1:((l.length:Int) !=(l.length:Int))=false:=zp
  have d2:((l.length:Int)==(l.length:Int))=true:=zp
  have U7:Hi ((l.length==sg.params.length)=true/\(if l.length≠sg.params.length then [off] else [])=[]):=by rw[Hi,<-pA.o];simp
  go_upto_region 4 with fail;clear n4 g1;have hA:=Ja xA.o.cbk 4;simp only[zW]at hA;go_wp2_with fail;clear hA;go_loopg [35] l.length λg v35 wr=>∃i:Nat,g+i=l.length/\v35=Iv i/\Hi (TcI fs rb M w wr (QaG (x) (QcP fs M0 true sg.params (ndL (l.take i)))) M0 vv (.mk 20 (ix:Int) s off b c l) fb cb #[.string x0,.slice pa l.length pc,Iv sg.result,Iv sk,Iv sn,.string x5,.slice a6 n6 c6] #[Iv 20,Iv (ix:Nat),Sv s,Iv off,.slice ad l.length cc] (.slice pa l.length pc) sg.params)
  case atStart=>exact⟨0,rfl,rfl,Zh (by simpa[ndL,QcP,QaG] using xA.o)⟩
  case round=>
  clear xA;obtain⟨wl,rfl⟩:=zG wr
  obtain⟨i,hg,rfl,ht⟩:=hrel
  by_cases hi:i<l.length
  ·have hil:(i:Int)<(l.length:Int):=zo
   obtain⟨y,hy⟩:∃y,l[i]?=some y:=⟨l[i],List.getElem?_eq_getElem hi⟩
   have hmem:=List.mem_of_getElem? hy;have O1:ad=some ⟨b,0,none⟩:=HAD.o (ne_nil_of_mem hmem);have hat:=ht.o.pre.at';unfold An.At at hat;have hcl:=(JO hat.2 hy).1;rw[Nat.zero_add]at hcl;obtain⟨yA,yn,yc,T1⟩:=Jg y;rw[T1]at hcl;have c0:=hcl 0 _ rfl;have c1:=hcl 1 _ rfl;have c2:=hcl 2 _ rfl;have c3:=hcl 3 _ rfl;have c4:=hcl 4 _ rfl;simp only[add_zero]at c0;have wk:=zI i;have I0:Below wl.heap.size wl (wl.alloc (.cells (Qaa y) 119)):=zzb.alloc zzl _;have rA:wl.heap.size≠rb:=by have:=Jb ht.o.pre.flt;omega
   have cn:=HH.o y hmem _ _ ((ht.o.pre.up I0).kid zd y hmem);have cA:=Zh (ht.o.up I0);have gA:=Zh (zzw wl (.cells (Qaa y) 119));have O5:Hi (ndL (l.take (i+1))=ndL (l.take i)++[y.nd]/\(ndL (l.take i)).length=i):=⟨by rw[List.take_add_one,hy];exact KL _ _,by rw[J7,List.length_map,List.length_take,Nat.min_eq_left zo]⟩
   have HG:=Zh hg;have P8:=Zh (YC y);rw[T1]at cn cA gA;obtain⟨r,hr⟩:∃r,ofN fs M0 y.nd=r:=⟨_,rfl⟩
   have kA:=Zh hr;rw[hr]at cn;obtain⟨ty,es⟩:=r;dsimp only at cn;subst O1;clear hat hcl T1 I0 ht hy hmem HAD hg hr;go_wp2_with fail;generalize World.alloc wl _=w3 at*;generalize wl.heap.size=kb at*;refine cn.mono ?_;rintro e w4 ⟨rfl,qA,aA⟩;have E8:=Zh (cA.o.on aA qA);have zA:=Zh (aA.heap_some (by simp;exact rA) gA.o);have m4:=Ja E8.o.cbk 4;have g4:=Ja E8.o.fbk 1;simp only[zW]at m4 g4;have iA:i<sg.params.length:=by rw[<-pA.o];omega
   obtain⟨pi,zB⟩:∃pi,sg.params[i]?=some pi:=⟨sg.params[i],List.getElem?_eq_getElem iA⟩
   have vB:(sg.params.drop i).headD 0=pi:=by rw[List.drop_eq_getElem_cons iA];exact(List.getElem?_eq_some_iff.1 zB).2
   obtain⟨g2,o2,rB,xC⟩:∃g2 o2,pa=some ⟨g2,o2,none⟩/\w4.cell? ⟨g2,o2+i,none⟩=some (Iv pi):=by
    rcases E8.o.ints with⟨e,_⟩|⟨g2,o2,c2,e,_,_,_,e5⟩
    ·rw[e]at iA;exact absurd iA zp
    ·injection e with e1;exact⟨g2,o2,e1,e5 i pi zB⟩
   subst rB
   by_cases hty:ty=pi
   ·subst hty;have d3:(ty !=ty)=false:=zp
    have HE:Hi (QcP fs M0 true sg.params (ndL (l.take (i+1)))=QcP fs M0 true sg.params (ndL (l.take i))++es):=by rw[Hi,O5.o.1,Yo,O5.o.2,kA.o,vB];simp
    exact Qlz
   ·have d3:(ty !=pi)=true:=bne_iff_ne.2 hty;have HE:Hi (QcP fs M0 true sg.params (ndL (l.take (i+1)))=QcP fs M0 true sg.params (ndL (l.take i))++(es++[y.off])):=by rw[Hi,O5.o.1,Yo,O5.o.2,kA.o,vB,P8.o];simp[hty]
    go_upto_region 9 with fail;refine wp_region_held_drew (S:=λ_=>True) zk (trivial) λhH=>?_;have hD:Below w4.heap.size w4 w4.drew:=(Below.refl w4.heap.size w4).drew;replace E8:=Zh (E8.o.up hD);replace zA:=Zh ((hD.block _ (Jb zA.o)).trans zA.o);generalize w4.drew=w5 at*;refine ZT (i:=0) (v:=?vT1_0) rfl (Or.inl ⟨by rfl,?yT1_0⟩) ?_
    case yT1_0=>exact ZyQ
    refine ZT (i:=1) (v:=?vT1_1) rfl (Or.inl ⟨by rfl,?yT1_1⟩) ?_
    case yT1_1=>exact ZyQ
    refine ZT (i:=2) (v:=?vT1_2) rfl (Or.inl ⟨by rfl,?yT1_2⟩) ?_
    case yT1_2=>exact ZyQ
    refine ZT (i:=3) (v:=?vT1_3) rfl (Or.inl ⟨by rfl,?yT1_3⟩) ?_
    case yT1_3=>exact ZyQ
    refine ZS 4 rfl λK hK=>?_;have n3:=Ja zA.o 3;simp only[zW]at n3;go_simp;refine zU hK trivial λhH=>?_
    refine ZS 5 rfl λK hK=>?_
    (go_simp;go_at_call 73;refine(Vo _ rb 147 _ M y.off E8.o.pre.flt).mono ?_;intro e w6 h6)
    obtain⟨Y6,V6,j0⟩:=h6;subst Y6;have sB:=Zh (E8.o.on j0 V6);refine zU hK trivial λhH=>?_
    refine wpAnyH_done zk ?_ _;go_wp2;go_roundg (l.length-(i+1))
    case measure=>have:=HG.o;omega
    case rel=>exact⟨i+1,by omega,by go_num,by rw[HE.o,Jt,Jt];exact sB.o⟩
  ·have hil:¬(i:Int)<(l.length:Int):=zo
   exact QnA
 ·have d1:((l.length:Int) !=(pn:Int))=true:=by simp only[bne_iff_ne,ne_eq];omega
  have d2:((l.length:Int)==(pn:Int))=false:=by rw[beq_eq_false_iff_ne];omega
  have U7:Hi ((l.length==sg.params.length)=false/\(if l.length≠sg.params.length then [off] else [])=[off]):=by rw[Hi,<-pA.o];exact⟨by rw[beq_eq_false_iff_ne];exact ND,if_pos ND⟩
  go_upto_region 3 with fail;refine wp_region_held_drew (S:=λ_=>True) zk (trivial) λhH=>?_;have hD:Below wc.heap.size wc wc.drew:=(Below.refl wc.heap.size wc).drew;replace xA:=Zh (xA.o.up hD);generalize wc.drew=w1b at*;refine ZT (i:=0) (v:=?vT4_0) rfl (Or.inl ⟨by rfl,?yT4_0⟩) ?_
  case yT4_0=>exact ZyQ
  refine ZT (i:=1) (v:=?vT4_1) rfl (Or.inl ⟨by rfl,?yT4_1⟩) ?_
  case yT4_1=>exact ZyQ
  refine ZT (i:=2) (v:=?vT4_2) rfl (Or.inl ⟨by rfl,?yT4_2⟩) ?_
  case yT4_2=>exact ZyQ
  refine ZT (i:=3) (v:=?vT4_3) rfl (Or.inl ⟨by rfl,?yT4_3⟩) ?_
  case yT4_3=>exact ZyQ
  refine ZS 4 rfl λK hK=>?_;have n3:=Ja xA.o.cbk 3;simp only[zW]at n3;go_simp;refine zU hK trivial λhH=>?_
  refine ZS 5 rfl λK hK=>?_
  (go_simp;go_at_call 73;refine(Vo _ rb 147 _ M off xA.o.pre.flt).mono ?_;intro e w2 h2)
  obtain⟨nB,i7,E1⟩:=h2;subst nB;replace xA:=Zh (xA.o.on E1 i7);refine zU hK trivial λhH=>?_
  refine wpAnyH_done zk ?_ _;have hA:=Ja xA.o.cbk 4;simp only[zW]at hA;go_wp2_with fail;go_loopg [35] l.length λg v35 wr=>∃i:Nat,g+i=l.length/\v35=Iv i/\Hi (TcI fs rb M w wr (QaG (QaG x [off]) (QcP fs M0 false sg.params (ndL (l.take i)))) M0 vv (.mk 20 (ix:Int) s off b c l) fb cb #[.string x0,.slice pa pn pc,Iv sg.result,Iv sk,Iv sn,.string x5,.slice a6 n6 c6] #[Iv 20,Iv (ix:Nat),Sv s,Iv off,.slice ad l.length cc] (.slice pa pn pc) sg.params)
  case atStart=>exact⟨0,rfl,rfl,Zh (by simpa[ndL,QcP,QaG] using xA.o)⟩
  case round=>
  obtain⟨wl,rfl⟩:=zG wr
  obtain⟨i,hg,rfl,ht⟩:=hrel
  by_cases hi:i<l.length
  ·have hil:(i:Int)<(l.length:Int):=zo
   obtain⟨y,hy⟩:∃y,l[i]?=some y:=⟨l[i],List.getElem?_eq_getElem hi⟩
   have hmem:=List.mem_of_getElem? hy;have O1:ad=some ⟨b,0,none⟩:=HAD.o (ne_nil_of_mem hmem);have hat:=ht.o.pre.at';unfold An.At at hat;have hcl:=(JO hat.2 hy).1;rw[Nat.zero_add]at hcl;obtain⟨yA,yn,yc,T1⟩:=Jg y;rw[T1]at hcl;have c0:=hcl 0 _ rfl;have c1:=hcl 1 _ rfl;have c2:=hcl 2 _ rfl;have c3:=hcl 3 _ rfl;have c4:=hcl 4 _ rfl;simp only[add_zero]at c0;have wk:=zI i;have I0:Below wl.heap.size wl (wl.alloc (.cells (Qaa y) 119)):=zzb.alloc zzl _;have rA:wl.heap.size≠rb:=by have:=Jb ht.o.pre.flt;omega
   have cn:=HH.o y hmem _ _ ((ht.o.pre.up I0).kid zd y hmem);have cA:=Zh (ht.o.up I0);have gA:=Zh (zzw wl (.cells (Qaa y) 119));have O5:Hi (ndL (l.take (i+1))=ndL (l.take i)++[y.nd]/\(ndL (l.take i)).length=i):=⟨by rw[List.take_add_one,hy];exact KL _ _,by rw[J7,List.length_map,List.length_take,Nat.min_eq_left zo]⟩
   have HG:=Zh hg;have P8:=Zh (YC y);rw[T1]at cn cA gA;obtain⟨r,hr⟩:∃r,ofN fs M0 y.nd=r:=⟨_,rfl⟩
   have kA:=Zh hr;rw[hr]at cn;obtain⟨ty,es⟩:=r;dsimp only at cn;subst O1;go_wp2_with fail;generalize World.alloc wl _=w3 at*;generalize wl.heap.size=kb at*;refine cn.mono ?_;rintro e w4 ⟨rfl,qA,aA⟩;have E8:=Zh (cA.o.on aA qA);have zA:=Zh (aA.heap_some (by simp;exact rA) gA.o);have m4:=Ja E8.o.cbk 4;have g4:=Ja E8.o.fbk 1;simp only[zW]at m4 g4;have HE:Hi (QcP fs M0 false sg.params (ndL (l.take (i+1)))=QcP fs M0 false sg.params (ndL (l.take i))++es):=by rw[Hi,O5.o.1,Yo,kA.o];simp
   exact Qlz
  ·have hil:¬(i:Int)<(l.length:Int):=zo
   exact QnA
def Kg(fs:List Qau)(M0:List Int)(k n:Int)(s:By)(o:Int)(l:List Nd):ofN fs M0 (.mk k n s o l) =
  if k=1\/k=5 then (1,[])
  else if k=2 then (M0.getD n.toNat 0,[])
  else if k=3 then ((QaA s).getD 0,[])
  else if k=6\/(8<=k/\k<=12) then (0,QaU fs M0 0 l)
  else if k=13\/k=14 then (1,QaU fs M0 0 l)
  else if k=15 then
   match l with
   |[a,b]=>(1,(ofN fs M0 a).2++(ofN fs M0 b).2++if (ofN fs M0 b).1≠(ofN fs M0 a).1 then [b.off] else [])
   |_=>(1,[])
  else if k=7\/k=16\/k=17 then (1,QaU fs M0 1 l)
  else if k=18 then
   match l with
   |[c,a,b]=>((ofN fs M0 a).1,(ofN fs M0 c).2++(if (ofN fs M0 c).1≠1 then [c.off] else [])++(ofN fs M0 a).2++(ofN fs M0 b).2++if (ofN fs M0 b).1≠(ofN fs M0 a).1 then [b.off] else [])
   |_=>(0,[])
  else if k=19 then
   match l with
   |[a,b]=>((ofN fs (M0++[(ofN fs M0 a).1]) b).1,(ofN fs M0 a).2++(ofN fs (M0++[(ofN fs M0 a).1]) b).2)
   |_=>(0,[])
  else if k=20 then ((fs.getD n.toNat ⟨[],0⟩).result,QkF fs M0 n o l)
  else (0,[]):=by
 conv=>lhs;unfold ofN
 rfl
def QeO(fs:List Qau)(rb:Nat)(M:Value)(n:Nat):Prop:=∀(a:An)(M0:List Int)(vv:Value)(x:Option Int)(w:World),siz a.nd<=n->n+M0.length<=1000000000->Qan fs rb M w x M0 vv a->Calls prog 108 #[Pt rb,.agg (Qaa a),vv] w (TyP w rb M x (ofN fs M0 a.nd).2 (Iv (ofN fs M0 a.nd).1))
def Qmz{P:Prop}(h:P:=by
  go_enter func108,ntmps108;go_wp2;rw[HR.o];obtain⟨rfl,rfl⟩:=D4.o
  exact⟨rfl,R3.o.flt,J1.o⟩):P:=h
def Qon(fs:List Qau)(rb:Nat)(M:Value)(hps:∀s∈fs,s.params.length<=1000000000)(n:Nat)(IH:QeO fs rb M n)(nn:Int)(s:By)(off:Int)(b c:Nat)(l:List An)(M0:List Int)(vv:Value)(x:Option Int)(w:World)(hn:Qaz (ndL l)<=n)(hb:n+1+M0.length<=1000000000)(hpre:Qan fs rb M w x M0 vv (.mk 1 nn s off b c l))  :
  Calls prog 108 #[Pt rb,.agg (Qaa (.mk 1 nn s off b c l)),vv] w (TyP w rb M x (ofN fs M0 (An.mk 1 nn s off b c l).nd).2 (Iv (ofN fs M0 (An.mk 1 nn s off b c l).nd).1)):=by
 obtain⟨r,hr⟩:∃r,ofN fs M0 (An.mk 1 nn s off b c l).nd=r:=⟨_,rfl⟩
 rw[hr];obtain⟨ty,es⟩:=r;dsimp only;obtain⟨R,hR⟩:∃R,TyP w rb M x es (Iv ty)=R:=⟨_,rfl⟩
 rw[hR];have HR:Hi (R=TyP w rb M x es (Iv ty)):=hR.symm;rw[An.nd,Kg]at hr;have uA:l.length<=n:=by have:=Jw l;omega
 obtain⟨ad,cc,M3,zA⟩:=Jn b c l
 have xA:Qaa (.mk 1 nn s off b c l)=#[Iv 1,Iv nn,Sv s,Iv off,.slice ad l.length cc]:=by
  show #[_,_,_,_,Qaw b c l]=_
  rw[M3]
 have yA:Below w.heap.size w (w.alloc (.cells (Qaa (.mk 1 nn s off b c l)) 119)):=zzb.alloc zzl _
 have HP:=Zh (hpre.up yA);have J1:=Zh (Chg.of_below yA [rb]);have S0:=Zh (zzw w (.cells (Qaa (.mk 1 nn s off b c l)) 119));have HN:=Zh hn;rw[xA]at J1 S0 |-;have R3:Hi (Qan fs rb M (w.alloc (.cells #[Iv 1,Iv nn,Sv s,Iv off,.slice ad l.length cc] 119)) x M0 vv (.mk 1 nn s off b c l)):=by rw[<-xA];exact HP.o
 simp at hr;have D4:=Zh hr;exact Qmz
def Qok(fs:List Qau)(rb:Nat)(M:Value)(hps:∀s∈fs,s.params.length<=1000000000)(n:Nat)(IH:QeO fs rb M n)(nn:Int)(s:By)(off:Int)(b c:Nat)(l:List An)(M0:List Int)(vv:Value)(x:Option Int)(w:World)(hn:Qaz (ndL l)<=n)(hb:n+1+M0.length<=1000000000)(hpre:Qan fs rb M w x M0 vv (.mk 5 nn s off b c l))  :
  Calls prog 108 #[Pt rb,.agg (Qaa (.mk 5 nn s off b c l)),vv] w (TyP w rb M x (ofN fs M0 (An.mk 5 nn s off b c l).nd).2 (Iv (ofN fs M0 (An.mk 5 nn s off b c l).nd).1)):=by
 obtain⟨r,hr⟩:∃r,ofN fs M0 (An.mk 5 nn s off b c l).nd=r:=⟨_,rfl⟩
 rw[hr];obtain⟨ty,es⟩:=r;dsimp only;obtain⟨R,hR⟩:∃R,TyP w rb M x es (Iv ty)=R:=⟨_,rfl⟩
 rw[hR];have HR:Hi (R=TyP w rb M x es (Iv ty)):=hR.symm;rw[An.nd,Kg]at hr;have uA:l.length<=n:=by have:=Jw l;omega
 obtain⟨ad,cc,M3,zA⟩:=Jn b c l
 have xA:Qaa (.mk 5 nn s off b c l)=#[Iv 5,Iv nn,Sv s,Iv off,.slice ad l.length cc]:=by
  show #[_,_,_,_,Qaw b c l]=_
  rw[M3]
 have yA:Below w.heap.size w (w.alloc (.cells (Qaa (.mk 5 nn s off b c l)) 119)):=zzb.alloc zzl _
 have HP:=Zh (hpre.up yA);have J1:=Zh (Chg.of_below yA [rb]);have S0:=Zh (zzw w (.cells (Qaa (.mk 5 nn s off b c l)) 119));have HN:=Zh hn;rw[xA]at J1 S0 |-;have R3:Hi (Qan fs rb M (w.alloc (.cells #[Iv 5,Iv nn,Sv s,Iv off,.slice ad l.length cc] 119)) x M0 vv (.mk 5 nn s off b c l)):=by rw[<-xA];exact HP.o
 simp at hr;have D4:=Zh hr;exact Qmz
def Qom(fs:List Qau)(rb:Nat)(M:Value)(hps:∀s∈fs,s.params.length<=1000000000)(n:Nat)(IH:QeO fs rb M n)(nn:Int)(s:By)(off:Int)(b c:Nat)(l:List An)(M0:List Int)(vv:Value)(x:Option Int)(w:World)(hn:Qaz (ndL l)<=n)(hb:n+1+M0.length<=1000000000)(hpre:Qan fs rb M w x M0 vv (.mk 2 nn s off b c l))  :
  Calls prog 108 #[Pt rb,.agg (Qaa (.mk 2 nn s off b c l)),vv] w (TyP w rb M x (ofN fs M0 (An.mk 2 nn s off b c l).nd).2 (Iv (ofN fs M0 (An.mk 2 nn s off b c l).nd).1)):=by
 obtain⟨r,hr⟩:∃r,ofN fs M0 (An.mk 2 nn s off b c l).nd=r:=⟨_,rfl⟩
 rw[hr];obtain⟨ty,es⟩:=r;dsimp only;obtain⟨R,hR⟩:∃R,TyP w rb M x es (Iv ty)=R:=⟨_,rfl⟩
 rw[hR];have HR:Hi (R=TyP w rb M x es (Iv ty)):=hR.symm;rw[An.nd,Kg]at hr;have aA:l.length<=n:=by have:=Jw l;omega
 obtain⟨ad,cc,M3,cA⟩:=Jn b c l
 have yA:Qaa (.mk 2 nn s off b c l)=#[Iv 2,Iv nn,Sv s,Iv off,.slice ad l.length cc]:=by
  show #[_,_,_,_,Qaw b c l]=_
  rw[M3]
 have zA:Below w.heap.size w (w.alloc (.cells (Qaa (.mk 2 nn s off b c l)) 119)):=zzb.alloc zzl _;have eA:=Jb hpre.flt;have P4:w.heap.size≠rb:=zo
 have HP:=Zh (hpre.up zA);have J1:=Zh (Chg.of_below zA [rb]);have S0:=Zh (zzw w (.cells (Qaa (.mk 2 nn s off b c l)) 119));have HAD:=Zh cA;have N5:=Zh yA;have HN:=Zh hn;rw[yA]at J1 S0 |-;have R3:Hi (Qan fs rb M (w.alloc (.cells #[Iv 2,Iv nn,Sv s,Iv off,.slice ad l.length cc] 119)) x M0 vv (.mk 2 nn s off b c l)):=by rw[<-yA];exact HP.o
 have vA:=R3.o.ok;unfold An.nd QeI at vA;obtain⟨h0,h1⟩:=vA.1 rfl;obtain⟨ix,rfl⟩:∃ix:Nat,nn=(ix:Int):=⟨nn.toNat,by omega⟩
 have xA:ix<M0.length:=zo
 have dA:(ix:Int)<(M0.length:Int):=zo
 simp at hr;have D4:=Zh hr;obtain⟨u,hu⟩:∃u,M0[ix]?=some u:=⟨M0[ix],List.getElem?_eq_getElem xA⟩
 have HU:=Zh hu
 obtain⟨g,o,bA,uA⟩:∃g o,(∃vc,vv=.slice (some ⟨g,o,none⟩) M0.length vc)/\(w.alloc (.cells #[Iv 2,Iv (ix:Nat),Sv s,Iv off,.slice ad l.length cc] 119)).cell? ⟨g,o+ix,none⟩=some (Iv u):=by
  rcases R3.o.ints with⟨e,_⟩|⟨g,o,vc,e,_,_,_,e5⟩
  ·rw[e]at xA;exact absurd xA zp
  ·exact⟨g,o,⟨vc,e⟩,e5 ix u hu⟩
 obtain⟨vc,rfl⟩:=bA;go_enter func108,ntmps108;go_wp2;rw[HR.o];obtain⟨h1,rfl⟩:=D4.o;rw[HU.o]at h1;simp at h1;subst h1;exact⟨rfl,R3.o.flt,J1.o⟩
def Qol(fs:List Qau)(rb:Nat)(M:Value)(hps:∀s∈fs,s.params.length<=1000000000)(n:Nat)(IH:QeO fs rb M n)(nn:Int)(s:By)(off:Int)(b c:Nat)(l:List An)(M0:List Int)(vv:Value)(x:Option Int)(w:World)(hn:Qaz (ndL l)<=n)(hb:n+1+M0.length<=1000000000)(hpre:Qan fs rb M w x M0 vv (.mk 3 nn s off b c l))  :
  Calls prog 108 #[Pt rb,.agg (Qaa (.mk 3 nn s off b c l)),vv] w (TyP w rb M x (ofN fs M0 (An.mk 3 nn s off b c l).nd).2 (Iv (ofN fs M0 (An.mk 3 nn s off b c l).nd).1)):=by
 obtain⟨r,hr⟩:∃r,ofN fs M0 (An.mk 3 nn s off b c l).nd=r:=⟨_,rfl⟩
 rw[hr];obtain⟨ty,es⟩:=r;dsimp only;obtain⟨R,hR⟩:∃R,TyP w rb M x es (Iv ty)=R:=⟨_,rfl⟩
 rw[hR];have HR:Hi (R=TyP w rb M x es (Iv ty)):=hR.symm;rw[An.nd,Kg]at hr;have uA:l.length<=n:=by have:=Jw l;omega
 obtain⟨ad,cc,M3,zA⟩:=Jn b c l
 have xA:Qaa (.mk 3 nn s off b c l)=#[Iv 3,Iv nn,Sv s,Iv off,.slice ad l.length cc]:=by
  show #[_,_,_,_,Qaw b c l]=_
  rw[M3]
 have yA:Below w.heap.size w (w.alloc (.cells (Qaa (.mk 3 nn s off b c l)) 119)):=zzb.alloc zzl _;have vA:=Jb hpre.flt;have P4:w.heap.size≠rb:=zo
 have HP:=Zh (hpre.up yA);have J1:=Zh (Chg.of_below yA [rb]);have S0:=Zh (zzw w (.cells (Qaa (.mk 3 nn s off b c l)) 119));have HAD:=Zh zA;have N5:=Zh xA;have HN:=Zh hn;rw[xA]at J1 S0 |-;have R3:Hi (Qan fs rb M (w.alloc (.cells #[Iv 3,Iv nn,Sv s,Iv off,.slice ad l.length cc] 119)) x M0 vv (.mk 3 nn s off b c l)):=by rw[<-xA];exact HP.o
 simp at hr;have D4:=Zh hr;go_enter func108,ntmps108;go_wp2_with fail;refine(Ye s _).mono ?_;rintro e w2 ⟨rfl,rfl⟩;go_wp2;rw[HR.o];obtain⟨rfl,rfl⟩:=D4.o;exact⟨rfl,R3.o.flt,J1.o⟩
def QhS{P:Prop}(h:P:=by
  rw[N5.o]at ca;clear hr IH;go_enter func108,ntmps108;go_wp2_with fail;refine ca.mono ?_;rintro e w2 ⟨rfl,i7,E1⟩;have T5:=Zh i7;have L6:=Zh E1;clear ca i7 E1;go_wp2;rw[HR.o];obtain⟨rfl,rfl⟩:=D4.o
  exact⟨rfl,T5.o,J1.o.trans L6.o⟩):P:=h
def Qoj(fs:List Qau)(rb:Nat)(M:Value)(hps:∀s∈fs,s.params.length<=1000000000)(n:Nat)(IH:QeO fs rb M n)(nn:Int)(s:By)(off:Int)(b c:Nat)(l:List An)(M0:List Int)(vv:Value)(x:Option Int)(w:World)(hn:Qaz (ndL l)<=n)(hb:n+1+M0.length<=1000000000)(hpre:Qan fs rb M w x M0 vv (.mk 6 nn s off b c l))  :
  Calls prog 108 #[Pt rb,.agg (Qaa (.mk 6 nn s off b c l)),vv] w (TyP w rb M x (ofN fs M0 (An.mk 6 nn s off b c l).nd).2 (Iv (ofN fs M0 (An.mk 6 nn s off b c l).nd).1)):=by
 obtain⟨r,hr⟩:∃r,ofN fs M0 (An.mk 6 nn s off b c l).nd=r:=⟨_,rfl⟩
 rw[hr];obtain⟨ty,es⟩:=r;dsimp only;obtain⟨R,hR⟩:∃R,TyP w rb M x es (Iv ty)=R:=⟨_,rfl⟩
 rw[hR];have HR:Hi (R=TyP w rb M x es (Iv ty)):=hR.symm;rw[An.nd,Kg]at hr;have uA:l.length<=n:=by have:=Jw l;omega
 obtain⟨ad,cc,M3,zA⟩:=Jn b c l
 have xA:Qaa (.mk 6 nn s off b c l)=#[Iv 6,Iv nn,Sv s,Iv off,.slice ad l.length cc]:=by
  show #[_,_,_,_,Qaw b c l]=_
  rw[M3]
 have yA:Below w.heap.size w (w.alloc (.cells (Qaa (.mk 6 nn s off b c l)) 119)):=zzb.alloc zzl _
 have HP:=Zh (hpre.up yA);have J1:=Zh (Chg.of_below yA [rb]);have S0:=Zh (zzw w (.cells (Qaa (.mk 6 nn s off b c l)) 119));have HAD:=Zh zA;have N5:=Zh xA;have HN:=Zh hn;rw[xA]at J1 S0 |-;have R3:Hi (Qan fs rb M (w.alloc (.cells #[Iv 6,Iv nn,Sv s,Iv off,.slice ad l.length cc] 119)) x M0 vv (.mk 6 nn s off b c l)):=by rw[<-xA];exact HP.o
 simp at hr;have D4:=Zh hr;have ca:=YR fs rb M 6 nn s off b c l M0 vv x 0 _ zd zo R3.o λy hy W x' hp=>JD fs rb M y M0 vv x' 0 W hp λW2 C2=>IH y M0 vv x' W2 (le_trans (JH hy) HN.o) zo C2;exact QhS
def Qoh(fs:List Qau)(rb:Nat)(M:Value)(hps:∀s∈fs,s.params.length<=1000000000)(n:Nat)(IH:QeO fs rb M n)(nn:Int)(s:By)(off:Int)(b c:Nat)(l:List An)(M0:List Int)(vv:Value)(x:Option Int)(w:World)(hn:Qaz (ndL l)<=n)(hb:n+1+M0.length<=1000000000)(hpre:Qan fs rb M w x M0 vv (.mk 8 nn s off b c l))  :
  Calls prog 108 #[Pt rb,.agg (Qaa (.mk 8 nn s off b c l)),vv] w (TyP w rb M x (ofN fs M0 (An.mk 8 nn s off b c l).nd).2 (Iv (ofN fs M0 (An.mk 8 nn s off b c l).nd).1)):=by
 obtain⟨r,hr⟩:∃r,ofN fs M0 (An.mk 8 nn s off b c l).nd=r:=⟨_,rfl⟩
 rw[hr];obtain⟨ty,es⟩:=r;dsimp only;obtain⟨R,hR⟩:∃R,TyP w rb M x es (Iv ty)=R:=⟨_,rfl⟩
 rw[hR];have HR:Hi (R=TyP w rb M x es (Iv ty)):=hR.symm;rw[An.nd,Kg]at hr;have uA:l.length<=n:=by have:=Jw l;omega
 obtain⟨ad,cc,M3,zA⟩:=Jn b c l
 have xA:Qaa (.mk 8 nn s off b c l)=#[Iv 8,Iv nn,Sv s,Iv off,.slice ad l.length cc]:=by
  show #[_,_,_,_,Qaw b c l]=_
  rw[M3]
 have yA:Below w.heap.size w (w.alloc (.cells (Qaa (.mk 8 nn s off b c l)) 119)):=zzb.alloc zzl _
 have HP:=Zh (hpre.up yA);have J1:=Zh (Chg.of_below yA [rb]);have S0:=Zh (zzw w (.cells (Qaa (.mk 8 nn s off b c l)) 119));have HAD:=Zh zA;have N5:=Zh xA;have HN:=Zh hn;rw[xA]at J1 S0 |-;have R3:Hi (Qan fs rb M (w.alloc (.cells #[Iv 8,Iv nn,Sv s,Iv off,.slice ad l.length cc] 119)) x M0 vv (.mk 8 nn s off b c l)):=by rw[<-xA];exact HP.o
 simp at hr;have D4:=Zh hr;have ca:=YR fs rb M 8 nn s off b c l M0 vv x 0 _ zd zo R3.o λy hy W x' hp=>JD fs rb M y M0 vv x' 0 W hp λW2 C2=>IH y M0 vv x' W2 (le_trans (JH hy) HN.o) zo C2;exact QhS
def Qog(fs:List Qau)(rb:Nat)(M:Value)(hps:∀s∈fs,s.params.length<=1000000000)(n:Nat)(IH:QeO fs rb M n)(nn:Int)(s:By)(off:Int)(b c:Nat)(l:List An)(M0:List Int)(vv:Value)(x:Option Int)(w:World)(hn:Qaz (ndL l)<=n)(hb:n+1+M0.length<=1000000000)(hpre:Qan fs rb M w x M0 vv (.mk 9 nn s off b c l))  :
  Calls prog 108 #[Pt rb,.agg (Qaa (.mk 9 nn s off b c l)),vv] w (TyP w rb M x (ofN fs M0 (An.mk 9 nn s off b c l).nd).2 (Iv (ofN fs M0 (An.mk 9 nn s off b c l).nd).1)):=by
 obtain⟨r,hr⟩:∃r,ofN fs M0 (An.mk 9 nn s off b c l).nd=r:=⟨_,rfl⟩
 rw[hr];obtain⟨ty,es⟩:=r;dsimp only;obtain⟨R,hR⟩:∃R,TyP w rb M x es (Iv ty)=R:=⟨_,rfl⟩
 rw[hR];have HR:Hi (R=TyP w rb M x es (Iv ty)):=hR.symm;rw[An.nd,Kg]at hr;have uA:l.length<=n:=by have:=Jw l;omega
 obtain⟨ad,cc,M3,zA⟩:=Jn b c l
 have xA:Qaa (.mk 9 nn s off b c l)=#[Iv 9,Iv nn,Sv s,Iv off,.slice ad l.length cc]:=by
  show #[_,_,_,_,Qaw b c l]=_
  rw[M3]
 have yA:Below w.heap.size w (w.alloc (.cells (Qaa (.mk 9 nn s off b c l)) 119)):=zzb.alloc zzl _
 have HP:=Zh (hpre.up yA);have J1:=Zh (Chg.of_below yA [rb]);have S0:=Zh (zzw w (.cells (Qaa (.mk 9 nn s off b c l)) 119));have HAD:=Zh zA;have N5:=Zh xA;have HN:=Zh hn;rw[xA]at J1 S0 |-;have R3:Hi (Qan fs rb M (w.alloc (.cells #[Iv 9,Iv nn,Sv s,Iv off,.slice ad l.length cc] 119)) x M0 vv (.mk 9 nn s off b c l)):=by rw[<-xA];exact HP.o
 simp at hr;have D4:=Zh hr;have ca:=YR fs rb M 9 nn s off b c l M0 vv x 0 _ zd zo R3.o λy hy W x' hp=>JD fs rb M y M0 vv x' 0 W hp λW2 C2=>IH y M0 vv x' W2 (le_trans (JH hy) HN.o) zo C2;exact QhS
def Jkw(fs:List Qau)(rb:Nat)(M:Value)(hps:∀s∈fs,s.params.length<=1000000000)(n:Nat)(IH:QeO fs rb M n)(nn:Int)(s:By)(off:Int)(b c:Nat)(l:List An)(M0:List Int)(vv:Value)(x:Option Int)(w:World)(hn:Qaz (ndL l)<=n)(hb:n+1+M0.length<=1000000000)(hpre:Qan fs rb M w x M0 vv (.mk 10 nn s off b c l))  :
  Calls prog 108 #[Pt rb,.agg (Qaa (.mk 10 nn s off b c l)),vv] w (TyP w rb M x (ofN fs M0 (An.mk 10 nn s off b c l).nd).2 (Iv (ofN fs M0 (An.mk 10 nn s off b c l).nd).1)):=by
 obtain⟨r,hr⟩:∃r,ofN fs M0 (An.mk 10 nn s off b c l).nd=r:=⟨_,rfl⟩
 rw[hr];obtain⟨ty,es⟩:=r;dsimp only;obtain⟨R,hR⟩:∃R,TyP w rb M x es (Iv ty)=R:=⟨_,rfl⟩
 rw[hR];have HR:Hi (R=TyP w rb M x es (Iv ty)):=hR.symm;rw[An.nd,Kg]at hr;have uA:l.length<=n:=by have:=Jw l;omega
 obtain⟨ad,cc,M3,zA⟩:=Jn b c l
 have xA:Qaa (.mk 10 nn s off b c l)=#[Iv 10,Iv nn,Sv s,Iv off,.slice ad l.length cc]:=by
  show #[_,_,_,_,Qaw b c l]=_
  rw[M3]
 have yA:Below w.heap.size w (w.alloc (.cells (Qaa (.mk 10 nn s off b c l)) 119)):=zzb.alloc zzl _
 have HP:=Zh (hpre.up yA);have J1:=Zh (Chg.of_below yA [rb]);have S0:=Zh (zzw w (.cells (Qaa (.mk 10 nn s off b c l)) 119));have HAD:=Zh zA;have N5:=Zh xA;have HN:=Zh hn;rw[xA]at J1 S0 |-;have R3:Hi (Qan fs rb M (w.alloc (.cells #[Iv 10,Iv nn,Sv s,Iv off,.slice ad l.length cc] 119)) x M0 vv (.mk 10 nn s off b c l)):=by rw[<-xA];exact HP.o
 simp at hr;have D4:=Zh hr;have ca:=YR fs rb M 10 nn s off b c l M0 vv x 0 _ zd zo R3.o λy hy W x' hp=>JD fs rb M y M0 vv x' 0 W hp λW2 C2=>IH y M0 vv x' W2 (le_trans (JH hy) HN.o) zo C2;exact QhS
def Jkx(fs:List Qau)(rb:Nat)(M:Value)(hps:∀s∈fs,s.params.length<=1000000000)(n:Nat)(IH:QeO fs rb M n)(nn:Int)(s:By)(off:Int)(b c:Nat)(l:List An)(M0:List Int)(vv:Value)(x:Option Int)(w:World)(hn:Qaz (ndL l)<=n)(hb:n+1+M0.length<=1000000000)(hpre:Qan fs rb M w x M0 vv (.mk 11 nn s off b c l))  :
  Calls prog 108 #[Pt rb,.agg (Qaa (.mk 11 nn s off b c l)),vv] w (TyP w rb M x (ofN fs M0 (An.mk 11 nn s off b c l).nd).2 (Iv (ofN fs M0 (An.mk 11 nn s off b c l).nd).1)):=by
 obtain⟨r,hr⟩:∃r,ofN fs M0 (An.mk 11 nn s off b c l).nd=r:=⟨_,rfl⟩
 rw[hr];obtain⟨ty,es⟩:=r;dsimp only;obtain⟨R,hR⟩:∃R,TyP w rb M x es (Iv ty)=R:=⟨_,rfl⟩
 rw[hR];have HR:Hi (R=TyP w rb M x es (Iv ty)):=hR.symm;rw[An.nd,Kg]at hr;have uA:l.length<=n:=by have:=Jw l;omega
 obtain⟨ad,cc,M3,zA⟩:=Jn b c l
 have xA:Qaa (.mk 11 nn s off b c l)=#[Iv 11,Iv nn,Sv s,Iv off,.slice ad l.length cc]:=by
  show #[_,_,_,_,Qaw b c l]=_
  rw[M3]
 have yA:Below w.heap.size w (w.alloc (.cells (Qaa (.mk 11 nn s off b c l)) 119)):=zzb.alloc zzl _
 have HP:=Zh (hpre.up yA);have J1:=Zh (Chg.of_below yA [rb]);have S0:=Zh (zzw w (.cells (Qaa (.mk 11 nn s off b c l)) 119));have HAD:=Zh zA;have N5:=Zh xA;have HN:=Zh hn;rw[xA]at J1 S0 |-;have R3:Hi (Qan fs rb M (w.alloc (.cells #[Iv 11,Iv nn,Sv s,Iv off,.slice ad l.length cc] 119)) x M0 vv (.mk 11 nn s off b c l)):=by rw[<-xA];exact HP.o
 simp at hr;have D4:=Zh hr;have ca:=YR fs rb M 11 nn s off b c l M0 vv x 0 _ zd zo R3.o λy hy W x' hp=>JD fs rb M y M0 vv x' 0 W hp λW2 C2=>IH y M0 vv x' W2 (le_trans (JH hy) HN.o) zo C2;exact QhS
def Jky(fs:List Qau)(rb:Nat)(M:Value)(hps:∀s∈fs,s.params.length<=1000000000)(n:Nat)(IH:QeO fs rb M n)(nn:Int)(s:By)(off:Int)(b c:Nat)(l:List An)(M0:List Int)(vv:Value)(x:Option Int)(w:World)(hn:Qaz (ndL l)<=n)(hb:n+1+M0.length<=1000000000)(hpre:Qan fs rb M w x M0 vv (.mk 12 nn s off b c l))  :
  Calls prog 108 #[Pt rb,.agg (Qaa (.mk 12 nn s off b c l)),vv] w (TyP w rb M x (ofN fs M0 (An.mk 12 nn s off b c l).nd).2 (Iv (ofN fs M0 (An.mk 12 nn s off b c l).nd).1)):=by
 obtain⟨r,hr⟩:∃r,ofN fs M0 (An.mk 12 nn s off b c l).nd=r:=⟨_,rfl⟩
 rw[hr];obtain⟨ty,es⟩:=r;dsimp only;obtain⟨R,hR⟩:∃R,TyP w rb M x es (Iv ty)=R:=⟨_,rfl⟩
 rw[hR];have HR:Hi (R=TyP w rb M x es (Iv ty)):=hR.symm;rw[An.nd,Kg]at hr;have uA:l.length<=n:=by have:=Jw l;omega
 obtain⟨ad,cc,M3,zA⟩:=Jn b c l
 have xA:Qaa (.mk 12 nn s off b c l)=#[Iv 12,Iv nn,Sv s,Iv off,.slice ad l.length cc]:=by
  show #[_,_,_,_,Qaw b c l]=_
  rw[M3]
 have yA:Below w.heap.size w (w.alloc (.cells (Qaa (.mk 12 nn s off b c l)) 119)):=zzb.alloc zzl _
 have HP:=Zh (hpre.up yA);have J1:=Zh (Chg.of_below yA [rb]);have S0:=Zh (zzw w (.cells (Qaa (.mk 12 nn s off b c l)) 119));have HAD:=Zh zA;have N5:=Zh xA;have HN:=Zh hn;rw[xA]at J1 S0 |-;have R3:Hi (Qan fs rb M (w.alloc (.cells #[Iv 12,Iv nn,Sv s,Iv off,.slice ad l.length cc] 119)) x M0 vv (.mk 12 nn s off b c l)):=by rw[<-xA];exact HP.o
 simp at hr;have D4:=Zh hr;have ca:=YR fs rb M 12 nn s off b c l M0 vv x 0 _ zd zo R3.o λy hy W x' hp=>JD fs rb M y M0 vv x' 0 W hp λW2 C2=>IH y M0 vv x' W2 (le_trans (JH hy) HN.o) zo C2;exact QhS
def Jkz(fs:List Qau)(rb:Nat)(M:Value)(hps:∀s∈fs,s.params.length<=1000000000)(n:Nat)(IH:QeO fs rb M n)(nn:Int)(s:By)(off:Int)(b c:Nat)(l:List An)(M0:List Int)(vv:Value)(x:Option Int)(w:World)(hn:Qaz (ndL l)<=n)(hb:n+1+M0.length<=1000000000)(hpre:Qan fs rb M w x M0 vv (.mk 13 nn s off b c l))  :
  Calls prog 108 #[Pt rb,.agg (Qaa (.mk 13 nn s off b c l)),vv] w (TyP w rb M x (ofN fs M0 (An.mk 13 nn s off b c l).nd).2 (Iv (ofN fs M0 (An.mk 13 nn s off b c l).nd).1)):=by
 obtain⟨r,hr⟩:∃r,ofN fs M0 (An.mk 13 nn s off b c l).nd=r:=⟨_,rfl⟩
 rw[hr];obtain⟨ty,es⟩:=r;dsimp only;obtain⟨R,hR⟩:∃R,TyP w rb M x es (Iv ty)=R:=⟨_,rfl⟩
 rw[hR];have HR:Hi (R=TyP w rb M x es (Iv ty)):=hR.symm;rw[An.nd,Kg]at hr;have uA:l.length<=n:=by have:=Jw l;omega
 obtain⟨ad,cc,M3,zA⟩:=Jn b c l
 have xA:Qaa (.mk 13 nn s off b c l)=#[Iv 13,Iv nn,Sv s,Iv off,.slice ad l.length cc]:=by
  show #[_,_,_,_,Qaw b c l]=_
  rw[M3]
 have yA:Below w.heap.size w (w.alloc (.cells (Qaa (.mk 13 nn s off b c l)) 119)):=zzb.alloc zzl _
 have HP:=Zh (hpre.up yA);have J1:=Zh (Chg.of_below yA [rb]);have S0:=Zh (zzw w (.cells (Qaa (.mk 13 nn s off b c l)) 119));have HAD:=Zh zA;have N5:=Zh xA;have HN:=Zh hn;rw[xA]at J1 S0 |-;have R3:Hi (Qan fs rb M (w.alloc (.cells #[Iv 13,Iv nn,Sv s,Iv off,.slice ad l.length cc] 119)) x M0 vv (.mk 13 nn s off b c l)):=by rw[<-xA];exact HP.o
 simp at hr;have D4:=Zh hr;have ca:=YR fs rb M 13 nn s off b c l M0 vv x 0 _ zd zo R3.o λy hy W x' hp=>JD fs rb M y M0 vv x' 0 W hp λW2 C2=>IH y M0 vv x' W2 (le_trans (JH hy) HN.o) zo C2;exact QhS
def JkA(fs:List Qau)(rb:Nat)(M:Value)(hps:∀s∈fs,s.params.length<=1000000000)(n:Nat)(IH:QeO fs rb M n)(nn:Int)(s:By)(off:Int)(b c:Nat)(l:List An)(M0:List Int)(vv:Value)(x:Option Int)(w:World)(hn:Qaz (ndL l)<=n)(hb:n+1+M0.length<=1000000000)(hpre:Qan fs rb M w x M0 vv (.mk 14 nn s off b c l))  :
  Calls prog 108 #[Pt rb,.agg (Qaa (.mk 14 nn s off b c l)),vv] w (TyP w rb M x (ofN fs M0 (An.mk 14 nn s off b c l).nd).2 (Iv (ofN fs M0 (An.mk 14 nn s off b c l).nd).1)):=by
 obtain⟨r,hr⟩:∃r,ofN fs M0 (An.mk 14 nn s off b c l).nd=r:=⟨_,rfl⟩
 rw[hr];obtain⟨ty,es⟩:=r;dsimp only;obtain⟨R,hR⟩:∃R,TyP w rb M x es (Iv ty)=R:=⟨_,rfl⟩
 rw[hR];have HR:Hi (R=TyP w rb M x es (Iv ty)):=hR.symm;rw[An.nd,Kg]at hr;have uA:l.length<=n:=by have:=Jw l;omega
 obtain⟨ad,cc,M3,zA⟩:=Jn b c l
 have xA:Qaa (.mk 14 nn s off b c l)=#[Iv 14,Iv nn,Sv s,Iv off,.slice ad l.length cc]:=by
  show #[_,_,_,_,Qaw b c l]=_
  rw[M3]
 have yA:Below w.heap.size w (w.alloc (.cells (Qaa (.mk 14 nn s off b c l)) 119)):=zzb.alloc zzl _
 have HP:=Zh (hpre.up yA);have J1:=Zh (Chg.of_below yA [rb]);have S0:=Zh (zzw w (.cells (Qaa (.mk 14 nn s off b c l)) 119));have HAD:=Zh zA;have N5:=Zh xA;have HN:=Zh hn;rw[xA]at J1 S0 |-;have R3:Hi (Qan fs rb M (w.alloc (.cells #[Iv 14,Iv nn,Sv s,Iv off,.slice ad l.length cc] 119)) x M0 vv (.mk 14 nn s off b c l)):=by rw[<-xA];exact HP.o
 simp at hr;have D4:=Zh hr;have ca:=YR fs rb M 14 nn s off b c l M0 vv x 0 _ zd zo R3.o λy hy W x' hp=>JD fs rb M y M0 vv x' 0 W hp λW2 C2=>IH y M0 vv x' W2 (le_trans (JH hy) HN.o) zo C2;exact QhS
def Qoi(fs:List Qau)(rb:Nat)(M:Value)(hps:∀s∈fs,s.params.length<=1000000000)(n:Nat)(IH:QeO fs rb M n)(nn:Int)(s:By)(off:Int)(b c:Nat)(l:List An)(M0:List Int)(vv:Value)(x:Option Int)(w:World)(hn:Qaz (ndL l)<=n)(hb:n+1+M0.length<=1000000000)(hpre:Qan fs rb M w x M0 vv (.mk 7 nn s off b c l))  :
  Calls prog 108 #[Pt rb,.agg (Qaa (.mk 7 nn s off b c l)),vv] w (TyP w rb M x (ofN fs M0 (An.mk 7 nn s off b c l).nd).2 (Iv (ofN fs M0 (An.mk 7 nn s off b c l).nd).1)):=by
 obtain⟨r,hr⟩:∃r,ofN fs M0 (An.mk 7 nn s off b c l).nd=r:=⟨_,rfl⟩
 rw[hr];obtain⟨ty,es⟩:=r;dsimp only;obtain⟨R,hR⟩:∃R,TyP w rb M x es (Iv ty)=R:=⟨_,rfl⟩
 rw[hR];have HR:Hi (R=TyP w rb M x es (Iv ty)):=hR.symm;rw[An.nd,Kg]at hr;have uA:l.length<=n:=by have:=Jw l;omega
 obtain⟨ad,cc,M3,zA⟩:=Jn b c l
 have xA:Qaa (.mk 7 nn s off b c l)=#[Iv 7,Iv nn,Sv s,Iv off,.slice ad l.length cc]:=by
  show #[_,_,_,_,Qaw b c l]=_
  rw[M3]
 have yA:Below w.heap.size w (w.alloc (.cells (Qaa (.mk 7 nn s off b c l)) 119)):=zzb.alloc zzl _
 have HP:=Zh (hpre.up yA);have J1:=Zh (Chg.of_below yA [rb]);have S0:=Zh (zzw w (.cells (Qaa (.mk 7 nn s off b c l)) 119));have HAD:=Zh zA;have N5:=Zh xA;have HN:=Zh hn;rw[xA]at J1 S0 |-;have R3:Hi (Qan fs rb M (w.alloc (.cells #[Iv 7,Iv nn,Sv s,Iv off,.slice ad l.length cc] 119)) x M0 vv (.mk 7 nn s off b c l)):=by rw[<-xA];exact HP.o
 simp at hr;have D4:=Zh hr;have ca:=YR fs rb M 7 nn s off b c l M0 vv x 1 _ zd zo R3.o λy hy W x' hp=>JD fs rb M y M0 vv x' 1 W hp λW2 C2=>IH y M0 vv x' W2 (le_trans (JH hy) HN.o) zo C2;exact QhS
def JkB(fs:List Qau)(rb:Nat)(M:Value)(hps:∀s∈fs,s.params.length<=1000000000)(n:Nat)(IH:QeO fs rb M n)(nn:Int)(s:By)(off:Int)(b c:Nat)(l:List An)(M0:List Int)(vv:Value)(x:Option Int)(w:World)(hn:Qaz (ndL l)<=n)(hb:n+1+M0.length<=1000000000)(hpre:Qan fs rb M w x M0 vv (.mk 16 nn s off b c l))  :
  Calls prog 108 #[Pt rb,.agg (Qaa (.mk 16 nn s off b c l)),vv] w (TyP w rb M x (ofN fs M0 (An.mk 16 nn s off b c l).nd).2 (Iv (ofN fs M0 (An.mk 16 nn s off b c l).nd).1)):=by
 obtain⟨r,hr⟩:∃r,ofN fs M0 (An.mk 16 nn s off b c l).nd=r:=⟨_,rfl⟩
 rw[hr];obtain⟨ty,es⟩:=r;dsimp only;obtain⟨R,hR⟩:∃R,TyP w rb M x es (Iv ty)=R:=⟨_,rfl⟩
 rw[hR];have HR:Hi (R=TyP w rb M x es (Iv ty)):=hR.symm;rw[An.nd,Kg]at hr;have uA:l.length<=n:=by have:=Jw l;omega
 obtain⟨ad,cc,M3,zA⟩:=Jn b c l
 have xA:Qaa (.mk 16 nn s off b c l)=#[Iv 16,Iv nn,Sv s,Iv off,.slice ad l.length cc]:=by
  show #[_,_,_,_,Qaw b c l]=_
  rw[M3]
 have yA:Below w.heap.size w (w.alloc (.cells (Qaa (.mk 16 nn s off b c l)) 119)):=zzb.alloc zzl _
 have HP:=Zh (hpre.up yA);have J1:=Zh (Chg.of_below yA [rb]);have S0:=Zh (zzw w (.cells (Qaa (.mk 16 nn s off b c l)) 119));have HAD:=Zh zA;have N5:=Zh xA;have HN:=Zh hn;rw[xA]at J1 S0 |-;have R3:Hi (Qan fs rb M (w.alloc (.cells #[Iv 16,Iv nn,Sv s,Iv off,.slice ad l.length cc] 119)) x M0 vv (.mk 16 nn s off b c l)):=by rw[<-xA];exact HP.o
 simp at hr;have D4:=Zh hr;have ca:=YR fs rb M 16 nn s off b c l M0 vv x 1 _ zd zo R3.o λy hy W x' hp=>JD fs rb M y M0 vv x' 1 W hp λW2 C2=>IH y M0 vv x' W2 (le_trans (JH hy) HN.o) zo C2;exact QhS
def JkC(fs:List Qau)(rb:Nat)(M:Value)(hps:∀s∈fs,s.params.length<=1000000000)(n:Nat)(IH:QeO fs rb M n)(nn:Int)(s:By)(off:Int)(b c:Nat)(l:List An)(M0:List Int)(vv:Value)(x:Option Int)(w:World)(hn:Qaz (ndL l)<=n)(hb:n+1+M0.length<=1000000000)(hpre:Qan fs rb M w x M0 vv (.mk 17 nn s off b c l))  :
  Calls prog 108 #[Pt rb,.agg (Qaa (.mk 17 nn s off b c l)),vv] w (TyP w rb M x (ofN fs M0 (An.mk 17 nn s off b c l).nd).2 (Iv (ofN fs M0 (An.mk 17 nn s off b c l).nd).1)):=by
 obtain⟨r,hr⟩:∃r,ofN fs M0 (An.mk 17 nn s off b c l).nd=r:=⟨_,rfl⟩
 rw[hr];obtain⟨ty,es⟩:=r;dsimp only;obtain⟨R,hR⟩:∃R,TyP w rb M x es (Iv ty)=R:=⟨_,rfl⟩
 rw[hR];have HR:Hi (R=TyP w rb M x es (Iv ty)):=hR.symm;rw[An.nd,Kg]at hr;have uA:l.length<=n:=by have:=Jw l;omega
 obtain⟨ad,cc,M3,zA⟩:=Jn b c l
 have xA:Qaa (.mk 17 nn s off b c l)=#[Iv 17,Iv nn,Sv s,Iv off,.slice ad l.length cc]:=by
  show #[_,_,_,_,Qaw b c l]=_
  rw[M3]
 have yA:Below w.heap.size w (w.alloc (.cells (Qaa (.mk 17 nn s off b c l)) 119)):=zzb.alloc zzl _
 have HP:=Zh (hpre.up yA);have J1:=Zh (Chg.of_below yA [rb]);have S0:=Zh (zzw w (.cells (Qaa (.mk 17 nn s off b c l)) 119));have HAD:=Zh zA;have N5:=Zh xA;have HN:=Zh hn;rw[xA]at J1 S0 |-;have R3:Hi (Qan fs rb M (w.alloc (.cells #[Iv 17,Iv nn,Sv s,Iv off,.slice ad l.length cc] 119)) x M0 vv (.mk 17 nn s off b c l)):=by rw[<-xA];exact HP.o
 simp at hr;have D4:=Zh hr;have ca:=YR fs rb M 17 nn s off b c l M0 vv x 1 _ zd zo R3.o λy hy W x' hp=>JD fs rb M y M0 vv x' 1 W hp λW2 C2=>IH y M0 vv x' W2 (le_trans (JH hy) HN.o) zo C2;exact QhS
def JkD(fs:List Qau)(rb:Nat)(M:Value)(hps:∀s∈fs,s.params.length<=1000000000)(n:Nat)(IH:QeO fs rb M n)(nn:Int)(s:By)(off:Int)(b c:Nat)(l:List An)(M0:List Int)(vv:Value)(x:Option Int)(w:World)(hn:Qaz (ndL l)<=n)(hb:n+1+M0.length<=1000000000)(hpre:Qan fs rb M w x M0 vv (.mk 20 nn s off b c l))  :
  Calls prog 108 #[Pt rb,.agg (Qaa (.mk 20 nn s off b c l)),vv] w (TyP w rb M x (ofN fs M0 (An.mk 20 nn s off b c l).nd).2 (Iv (ofN fs M0 (An.mk 20 nn s off b c l).nd).1)):=by
 obtain⟨r,hr⟩:∃r,ofN fs M0 (An.mk 20 nn s off b c l).nd=r:=⟨_,rfl⟩
 rw[hr];obtain⟨ty,es⟩:=r;dsimp only;obtain⟨R,hR⟩:∃R,TyP w rb M x es (Iv ty)=R:=⟨_,rfl⟩
 rw[hR];have HR:Hi (R=TyP w rb M x es (Iv ty)):=hR.symm;rw[An.nd,Kg]at hr;have uA:l.length<=n:=by have:=Jw l;omega
 obtain⟨ad,cc,M3,zA⟩:=Jn b c l
 have xA:Qaa (.mk 20 nn s off b c l)=#[Iv 20,Iv nn,Sv s,Iv off,.slice ad l.length cc]:=by
  show #[_,_,_,_,Qaw b c l]=_
  rw[M3]
 have yA:Below w.heap.size w (w.alloc (.cells (Qaa (.mk 20 nn s off b c l)) 119)):=zzb.alloc zzl _;have vA:=Jb hpre.flt;have P4:w.heap.size≠rb:=zo
 have HP:=Zh (hpre.up yA);have J1:=Zh (Chg.of_below yA [rb]);have S0:=Zh (zzw w (.cells (Qaa (.mk 20 nn s off b c l)) 119));have HAD:=Zh zA;have N5:=Zh xA;have HN:=Zh hn;rw[xA]at J1 S0 |-;have R3:Hi (Qan fs rb M (w.alloc (.cells #[Iv 20,Iv nn,Sv s,Iv off,.slice ad l.length cc] 119)) x M0 vv (.mk 20 nn s off b c l)):=by rw[<-xA];exact HP.o
 simp at hr;have D4:=Zh hr;have ca:=Jfa fs rb M nn s off b c l M0 vv x _ zo R3.o hps λy hy W x' C2=>IH y M0 vv x' W (le_trans (JH hy) HN.o) zo C2;rw[N5.o]at ca;go_enter func108,ntmps108;go_wp2_with fail;refine ca.mono ?_;rintro e w2 ⟨rfl,i7,E1⟩;have T5:=Zh i7;have L6:=Zh E1;go_wp2;rw[HR.o];obtain⟨h1,rfl⟩:=D4.o;refine⟨?_,T5.o,J1.o.trans L6.o⟩;rw[<-h1];simp
def JiO(fs:List Qau)(rb:Nat)(M:Value)(hps:∀s∈fs,s.params.length<=1000000000)(n:Nat)(IH:QeO fs rb M n)(k nn:Int)(s:By)(off:Int)(b c:Nat)(l:List An)(M0:List Int)(vv:Value)(x:Option Int)(w:World)(hn:Qaz (ndL l)<=n)(hb:n+1+M0.length<=1000000000)(hpre:Qan fs rb M w x M0 vv (.mk k nn s off b c l))(hk:k≠1/\k≠5/\k≠2/\k≠3/\k≠6/\k≠8/\k≠9/\k≠10/\k≠11/\k≠12/\k≠13/\k≠14/\k≠15/\k≠7/\k≠16/\k≠17/\k≠18/\k≠19/\k≠20):
  Calls prog 108 #[Pt rb,.agg (Qaa (.mk k nn s off b c l)),vv] w (TyP w rb M x (ofN fs M0 (An.mk k nn s off b c l).nd).2 (Iv (ofN fs M0 (An.mk k nn s off b c l).nd).1)):=by
 obtain⟨r,hr⟩:∃r,ofN fs M0 (An.mk k nn s off b c l).nd=r:=⟨_,rfl⟩
 rw[hr];obtain⟨ty,es⟩:=r;dsimp only;obtain⟨R,hR⟩:∃R,TyP w rb M x es (Iv ty)=R:=⟨_,rfl⟩
 rw[hR];have HR:Hi (R=TyP w rb M x es (Iv ty)):=hR.symm;rw[An.nd,Kg]at hr;have zA:l.length<=n:=by have:=Jw l;omega
 obtain⟨ad,cc,M3,uA⟩:=Jn b c l
 have xA:Qaa (.mk k nn s off b c l)=#[Iv k,Iv nn,Sv s,Iv off,.slice ad l.length cc]:=by
  show #[_,_,_,_,Qaw b c l]=_
  rw[M3]
 have yA:Below w.heap.size w (w.alloc (.cells (Qaa (.mk k nn s off b c l)) 119)):=zzb.alloc zzl _
 have HP:=Zh (hpre.up yA);have J1:=Zh (Chg.of_below yA [rb]);have S0:=Zh (zzw w (.cells (Qaa (.mk k nn s off b c l)) 119));rw[xA]at J1 S0 |-;have R3:Hi (Qan fs rb M (w.alloc (.cells #[Iv k,Iv nn,Sv s,Iv off,.slice ad l.length cc] 119)) x M0 vv (.mk k nn s off b c l)):=by rw[<-xA];exact HP.o
 rw[if_neg zo,if_neg zo,if_neg zo,if_neg zo,if_neg zo,if_neg zo,if_neg zo,if_neg zo,if_neg zo,if_neg zo]at hr;simp at hr;have D4:=Zh hr;exact Qmz
def wx2{P:Prop}(h:P:=by
  have c0:=hcl 0 _ rfl;have c1:=hcl 1 _ rfl;have c2:=hcl 2 _ rfl;have c3:=hcl 3 _ rfl;have c4:=hcl 4 _ rfl;simp only[Nat.zero_add,Nat.zero_mul,Nat.one_mul,Nat.reduceMul,Nat.reduceAdd,Nat.add_zero]at c0 c1 c2 c3 c4;go_simp;clear hat hcl c0 c1 c2 c3 c4;refine hK.out _ _ trivial (λhH=>?_);clear hK K
  try simp only[Act.put,ZA,ZB,ZC]
  refine ZS 12 rfl (λK hK=>?_);have cn:=IH y M0 vv _ _ l9.o (by omega) (E2.o.kid (by decide) y (by simp));rw[P6.o]at cn
  (go_simp;go_at_call 108;refine cn.mono ?_;intro e w5 h5)
  obtain⟨MB,m9,L4⟩:=h5;subst MB;replace E2:=Zh (E2.o.chg L4 m9);replace N3:=Zh (L4.heap_some (by simp;exact P4) N3.o);replace J1:=Zh (J1.o.trans L4);clear m9 L4 cn;refine hK.out _ _ trivial (λhH=>?_);clear hK K
  try simp only[Act.put,ZA,ZB,ZC]
  refine ZS 13 rfl (λK hK=>?_);have cn:=JD fs rb M z M0 vv _ (ofN fs M0 y.nd).1 _ (E2.o.kid (by decide) z (by simp)) (λW2 C2=>IH z M0 vv _ W2 S8.o (by omega) C2);rw[E3.o]at cn
  (go_simp;go_at_call 76;refine cn.mono ?_;intro e w6 h6)
  obtain⟨Y6,V6,j0⟩:=h6;subst Y6;have H6:=Zh V6;replace J1:=Zh (J1.o.trans j0);clear V6 j0 cn;refine hK.out _ _ trivial (λhH=>?_);clear hK K
  try simp only[Act.put,ZA,ZB,ZC]
  refine wpAnyH_done (by kernel_rfl) ?_ _;go_wp2;rw[HR.o,D4.o.1,D4.o.2]
  exact⟨rfl,by rw[Jt];exact H6.o,J1.o⟩):P:=h
def wx9{P:Prop}(h:P:=by
  try simp only[Act.put,ZA,ZB,ZC]
  refine ZR (rs:=[4,12]) (AllReadyH.cons rfl (λK hK=>?_) (AllReadyH.cons rfl (λK hK=>?_) AllReadyH.nil))
  ·have hat:=E2.o.at';unfold An.At at hat;have hcl:=(JO (i:=1) hat.2 rfl).1;rw[E3.o]at hcl;exact wx2
  ·have cn:=IH y M0 vv _ _ l9.o (by omega) (E2.o.kid (by decide) y (by simp));rw[P6.o]at cn
   (go_simp;go_at_call 108;refine cn.mono ?_;intro e w5 h5)
   obtain⟨MB,m9,L4⟩:=h5;subst MB;replace E2:=Zh (E2.o.chg L4 m9);replace N3:=Zh (L4.heap_some (by simp;exact P4) N3.o);replace J1:=Zh (J1.o.trans L4);clear m9 L4 cn;refine hK.out _ _ trivial (λhH=>?_);clear hK K
   try simp only[Act.put,ZA,ZB,ZC]
   refine ZS 4 rfl (λK hK=>?_);have hat:=E2.o.at';unfold An.At at hat;have hcl:=(JO (i:=1) hat.2 rfl).1;rw[E3.o]at hcl;have c0:=hcl 0 _ rfl;have c1:=hcl 1 _ rfl;have c2:=hcl 2 _ rfl;have c3:=hcl 3 _ rfl;have c4:=hcl 4 _ rfl;simp only[Nat.zero_add,Nat.zero_mul,Nat.one_mul,Nat.reduceMul,Nat.reduceAdd,Nat.add_zero]at c0 c1 c2 c3 c4;go_simp;clear hat hcl c0 c1 c2 c3 c4;refine hK.out _ _ trivial (λhH=>?_);clear hK K
   try simp only[Act.put,ZA,ZB,ZC]
   refine ZS 13 rfl (λK hK=>?_);have cn:=JD fs rb M z M0 vv _ (ofN fs M0 y.nd).1 _ (E2.o.kid (by decide) z (by simp)) (λW2 C2=>IH z M0 vv _ W2 S8.o (by omega) C2);rw[E3.o]at cn
   (go_simp;go_at_call 76;refine cn.mono ?_;intro e w6 h6)
   obtain⟨Y6,V6,j0⟩:=h6;subst Y6;have H6:=Zh V6;replace J1:=Zh (J1.o.trans j0);clear V6 j0 cn;refine hK.out _ _ trivial (λhH=>?_);clear hK K
   try simp only[Act.put,ZA,ZB,ZC]
   refine wpAnyH_done (by kernel_rfl) ?_ _;go_wp2;rw[HR.o,D4.o.1,D4.o.2]
   exact⟨rfl,by rw[Jt];exact H6.o,J1.o⟩):P:=h
def Qni{P:Prop}(h:P:=by
  try simp only[Act.put,ZA,ZB,ZC]
  refine ZS 10 rfl (λK hK=>?_);have hat:=E2.o.at';unfold An.At at hat;have hcl:=(JO (i:=0) hat.2 rfl).1;rw[P6.o]at hcl
  exact wx2):P:=h
def QnT{P:Prop}(h:P:=by
  try simp only[Act.put,ZA,ZB,ZC]
  refine ZR (rs:=[4,10]) (AllReadyH.cons rfl (λK hK=>?_) (AllReadyH.cons rfl (λK hK=>?_) AllReadyH.nil))
  ·have hat:=E2.o.at';unfold An.At at hat;have hcl:=(JO (i:=1) hat.2 rfl).1;rw[E3.o]at hcl;have c0:=hcl 0 _ rfl;have c1:=hcl 1 _ rfl;have c2:=hcl 2 _ rfl;have c3:=hcl 3 _ rfl;have c4:=hcl 4 _ rfl;simp only[Nat.zero_add,Nat.zero_mul,Nat.one_mul,Nat.reduceMul,Nat.reduceAdd,Nat.add_zero]at c0 c1 c2 c3 c4;go_simp;clear hat hcl c0 c1 c2 c3 c4;refine hK.out _ _ trivial (λhH=>?_);clear hK K;exact Qni
  ·have hat:=E2.o.at';unfold An.At at hat;have hcl:=(JO (i:=0) hat.2 rfl).1;rw[P6.o]at hcl;have c0:=hcl 0 _ rfl;have c1:=hcl 1 _ rfl;have c2:=hcl 2 _ rfl;have c3:=hcl 3 _ rfl;have c4:=hcl 4 _ rfl;simp only[Nat.zero_add,Nat.zero_mul,Nat.one_mul,Nat.reduceMul,Nat.reduceAdd,Nat.add_zero]at c0 c1 c2 c3 c4;go_simp;clear hat hcl c0 c1 c2 c3 c4;refine hK.out _ _ trivial (λhH=>?_);clear hK K
   exact wx9):P:=h
def QjN{P:Prop}(h:P:=by
  try simp only[Act.put,ZA,ZB,ZC]
  refine wpAnyH_done (by kernel_rfl) ?_ _;go_wp2;rw[HR.o,D4.o.1,D4.o.2]
  exact⟨rfl,by rw[Jt];exact H6.o,J1.o⟩):P:=h
def JkE(fs:List Qau)(rb:Nat)(M:Value)(hps:∀s∈fs,s.params.length<=1000000000)(n:Nat)(IH:QeO fs rb M n)(nn:Int)(s:By)(off:Int)(b c:Nat)(l:List An)(M0:List Int)(vv:Value)(x:Option Int)(w:World)(hn:Qaz (ndL l)<=n)(hb:n+1+M0.length<=1000000000)(hpre:Qan fs rb M w x M0 vv (.mk 15 nn s off b c l))  :
  Calls prog 108 #[Pt rb,.agg (Qaa (.mk 15 nn s off b c l)),vv] w (TyP w rb M x (ofN fs M0 (An.mk 15 nn s off b c l).nd).2 (Iv (ofN fs M0 (An.mk 15 nn s off b c l).nd).1)):=by
 obtain⟨r,hr⟩:∃r,ofN fs M0 (An.mk 15 nn s off b c l).nd=r:=⟨_,rfl⟩
 rw[hr];obtain⟨ty,es⟩:=r;dsimp only;obtain⟨R,hR⟩:∃R,TyP w rb M x es (Iv ty)=R:=⟨_,rfl⟩
 rw[hR];have HR:Hi (R=TyP w rb M x es (Iv ty)):=hR.symm;rw[An.nd,Kg]at hr;have eA:l.length<=n:=by have:=Jw l;omega
 obtain⟨ad,cc,M3,cA⟩:=Jn b c l
 have vA:Qaa (.mk 15 nn s off b c l)=#[Iv 15,Iv nn,Sv s,Iv off,.slice ad l.length cc]:=by
  show #[_,_,_,_,Qaw b c l]=_
  rw[M3]
 have aA:Below w.heap.size w (w.alloc (.cells (Qaa (.mk 15 nn s off b c l)) 119)):=zzb.alloc zzl _;have gA:=Jb hpre.flt;have P4:w.heap.size≠rb:=zo
 have HP:=Zh (hpre.up aA);have J1:=Zh (Chg.of_below aA [rb]);have S0:=Zh (zzw w (.cells (Qaa (.mk 15 nn s off b c l)) 119));have HAD:=Zh cA;have N5:=Zh vA;have HN:=Zh hn;rw[vA]at J1 S0 |-;have R3:Hi (Qan fs rb M (w.alloc (.cells #[Iv 15,Iv nn,Sv s,Iv off,.slice ad l.length cc] 119)) x M0 vv (.mk 15 nn s off b c l)):=by rw[<-vA];exact HP.o
 clear hR aA M3 cA vA gA HP hpre hn
 obtain⟨y,z,dA⟩:∃y z,l=[y,z]:=by
  have hwf:=R3.o.wf;unfold An.nd WfN at hwf;have h2:=hwf.2.1 rfl;rw[J7,List.length_map]at h2
  match l,h2 with
  |[y,z],_=>exact⟨y,z,rfl⟩
 subst dA;have O1:ad=some ⟨b,0,none⟩:=HAD.o zp;subst O1;obtain⟨yA,yn,yc,uA⟩:=Jg y;have P6:=Zh uA;clear uA;have l9:Hi (siz y.nd<=n):=le_trans (JH (by simp:y∈[y,z])) HN.o;obtain⟨zA,zn,zc,xA⟩:=Jg z;have E3:=Zh xA;have S8:Hi (siz z.nd<=n):=le_trans (JH (by simp:z∈[y,z])) HN.o
 have bA:ty=1/\es=(ofN fs M0 y.nd).2++QbS fs M0 (ofN fs M0 y.nd).1 z.nd:=by
  simp[ndL]at hr;obtain⟨h1,h2⟩:=hr;refine⟨h1.symm,?_⟩;rw[<-h2];simp[QbS]
 have D4:=Zh bA;have E2:=R3;have N3:=S0;go_enter func108,ntmps108;go_upto_region 22 with fail;generalize World.alloc w _=w1 at*;generalize w.heap.size=cb at*;refine wp_region_held_drew (S:=λ_=>True) zk (trivial) λhH=>?_;have hD:Below w1.heap.size w1 w1.drew:=(Below.refl w1.heap.size w1).drew;replace E2:=Zh (E2.o.up hD);replace N3:=Zh ((hD.block _ (Jb N3.o)).trans N3.o);replace J1:=Zh (J1.o.trans (Chg.of_below hD [rb]));generalize w1.drew=w3 at*;refine ZT (i:=0) (v:=?vT1_0) rfl (Or.inl ⟨by rfl,?yT1_0⟩) ?_
 case yT1_0=>exact ZyQ
 try simp only[zX]
 refine ZT (i:=1) (v:=?vT1_1) rfl (Or.inl ⟨by rfl,?yT1_1⟩) ?_
 case yT1_1=>exact ZyQ
 refine ZT (i:=5) (v:=?vT1_5) rfl (Or.inl ⟨by rfl,?yT1_5⟩) ?_
 case yT1_5=>exact ZyQ
 refine ZT (i:=6) (v:=?vT1_6) rfl (Or.inl ⟨by rfl,?yT1_6⟩) ?_
 case yT1_6=>exact ZyQ
 refine ZT (i:=7) (v:=?vT1_7) rfl (Or.inl ⟨by rfl,?yT1_7⟩) ?_
 case yT1_7=>exact ZyQ
 refine ZT (i:=11) (v:=?vT1_11) rfl (Or.inl ⟨by rfl,?yT1_11⟩) ?_
 case yT1_11=>exact ZyQ
 refine ZR (rs:=[2,8]) (AllReadyH.cons rfl (λK hK=>?_) (AllReadyH.cons rfl (λK hK=>?_) AllReadyH.nil))
 ·have m4:=Ja N3.o 4;simp only[zW]at m4;go_simp;refine zU hK trivial λhH=>?_
  refine ZT (i:=3) (v:=?vT2_3) rfl (Or.inl ⟨by rfl,?yT2_3⟩) ?_
  case yT2_3=>exact ZyQ
  refine ZR (rs:=[4,8]) (AllReadyH.cons rfl (λK hK=>?_) (AllReadyH.cons rfl (λK hK=>?_) AllReadyH.nil))
  ·have hat:=E2.o.at';unfold An.At at hat;have hcl:=(JO (i:=1) hat.2 rfl).1;rw[E3.o]at hcl;have c0:=hcl 0 _ rfl;have c1:=hcl 1 _ rfl;have c2:=hcl 2 _ rfl;have c3:=hcl 3 _ rfl;have c4:=hcl 4 _ rfl;simp only[zero_add,zero_mul,one_mul,Nat.reduceMul,Nat.reduceAdd,add_zero]at c0 c1 c2 c3 c4;go_simp;refine zU hK trivial λhH=>?_
   refine ZS 8 rfl λK hK=>?_;have m4:=Ja N3.o 4;simp only[zW]at m4;go_simp;refine zU hK trivial λhH=>?_
   refine ZT (i:=9) (v:=?vT4_9) rfl (Or.inl ⟨by rfl,?yT4_9⟩) ?_
   case yT4_9=>exact ZyQ
   exact Qni
  ·have m4:=Ja N3.o 4;simp only[zW]at m4;go_simp;refine zU hK trivial λhH=>?_
   refine ZT (i:=9) (v:=?vT8_9) rfl (Or.inl ⟨by rfl,?yT8_9⟩) ?_
   case yT8_9=>exact ZyQ
   exact QnT
 ·have m4:=Ja N3.o 4;simp only[zW]at m4;go_simp;refine zU hK trivial λhH=>?_
  refine ZT (i:=9) (v:=?vT20_9) rfl (Or.inl ⟨by rfl,?yT20_9⟩) ?_
  case yT20_9=>exact ZyQ
  refine ZR (rs:=[2,10]) (AllReadyH.cons rfl (λK hK=>?_) (AllReadyH.cons rfl (λK hK=>?_) AllReadyH.nil))
  ·have m4:=Ja N3.o 4;simp only[zW]at m4;go_simp;refine zU hK trivial λhH=>?_
   refine ZT (i:=3) (v:=?vT21_3) rfl (Or.inl ⟨by rfl,?yT21_3⟩) ?_
   case yT21_3=>exact ZyQ
   exact QnT
  ·have hat:=E2.o.at';unfold An.At at hat;have hcl:=(JO (i:=0) hat.2 rfl).1;rw[P6.o]at hcl;have c0:=hcl 0 _ rfl;have c1:=hcl 1 _ rfl;have c2:=hcl 2 _ rfl;have c3:=hcl 3 _ rfl;have c4:=hcl 4 _ rfl;simp only[zero_add,zero_mul,one_mul,Nat.reduceMul,Nat.reduceAdd,add_zero]at c0 c1 c2 c3 c4;go_simp;refine zU hK trivial λhH=>?_
   refine ZR (rs:=[2,12]) (AllReadyH.cons rfl (λK hK=>?_) (AllReadyH.cons rfl (λK hK=>?_) AllReadyH.nil))
   ·have m4:=Ja N3.o 4;simp only[zW]at m4;go_simp;refine zU hK trivial λhH=>?_
    refine ZT (i:=3) (v:=?vT34_3) rfl (Or.inl ⟨by rfl,?yT34_3⟩) ?_
    case yT34_3=>exact ZyQ
    exact wx9
   ·have cn:=IH y M0 vv _ _ l9.o zo (E2.o.kid zd y zp);rw[P6.o]at cn
    (go_simp;go_at_call 108;refine cn.mono ?_;intro e w5 h5)
    obtain⟨MB,m9,L4⟩:=h5;subst MB;replace E2:=Zh (E2.o.chg L4 m9);replace N3:=Zh (L4.heap_some (by simp;exact P4) N3.o);replace J1:=Zh (J1.o.trans L4);refine zU hK trivial λhH=>?_
    refine ZS 2 rfl λK hK=>?_;have m4:=Ja N3.o 4;simp only[zW]at m4;go_simp;refine zU hK trivial λhH=>?_
    refine ZT (i:=3) (v:=?vT42_3) rfl (Or.inl ⟨by rfl,?yT42_3⟩) ?_
    case yT42_3=>exact ZyQ
    refine ZS 4 rfl λK hK=>?_;have hat:=E2.o.at';unfold An.At at hat;have hcl:=(JO (i:=1) hat.2 rfl).1;rw[E3.o]at hcl;have c0:=hcl 0 _ rfl;have c1:=hcl 1 _ rfl;have c2:=hcl 2 _ rfl;have c3:=hcl 3 _ rfl;have c4:=hcl 4 _ rfl;simp only[zero_add,zero_mul,one_mul,Nat.reduceMul,Nat.reduceAdd,add_zero]at c0 c1 c2 c3 c4;go_simp;refine zU hK trivial λhH=>?_
    refine ZS 13 rfl λK hK=>?_;have cn:=JD fs rb M z M0 vv _ (ofN fs M0 y.nd).1 _ (E2.o.kid zd z zp) λW2 C2=>IH z M0 vv _ W2 S8.o zo C2;rw[E3.o]at cn
    (go_simp;go_at_call 76;refine cn.mono ?_;intro e w6 h6)
    obtain⟨Y6,V6,j0⟩:=h6;subst Y6;have H6:=Zh V6;replace J1:=Zh (J1.o.trans j0);refine zU hK trivial λhH=>?_;exact QjN
def JkF(fs:List Qau)(rb:Nat)(M:Value)(hps:∀s∈fs,s.params.length<=1000000000)(n:Nat)(IH:QeO fs rb M n)(nn:Int)(s:By)(off:Int)(b c:Nat)(l:List An)(M0:List Int)(vv:Value)(x:Option Int)(w:World)(hn:Qaz (ndL l)<=n)(hb:n+1+M0.length<=1000000000)(hpre:Qan fs rb M w x M0 vv (.mk 18 nn s off b c l))  :
  Calls prog 108 #[Pt rb,.agg (Qaa (.mk 18 nn s off b c l)),vv] w (TyP w rb M x (ofN fs M0 (An.mk 18 nn s off b c l).nd).2 (Iv (ofN fs M0 (An.mk 18 nn s off b c l).nd).1)):=by
 obtain⟨r,hr⟩:∃r,ofN fs M0 (An.mk 18 nn s off b c l).nd=r:=⟨_,rfl⟩
 rw[hr];obtain⟨ty,es⟩:=r;dsimp only;obtain⟨R,hR⟩:∃R,TyP w rb M x es (Iv ty)=R:=⟨_,rfl⟩
 rw[hR];have HR:Hi (R=TyP w rb M x es (Iv ty)):=hR.symm;rw[An.nd,Kg]at hr;have jA:l.length<=n:=by have:=Jw l;omega
 obtain⟨ad,cc,M3,eA⟩:=Jn b c l
 have vA:Qaa (.mk 18 nn s off b c l)=#[Iv 18,Iv nn,Sv s,Iv off,.slice ad l.length cc]:=by
  show #[_,_,_,_,Qaw b c l]=_
  rw[M3]
 have dA:Below w.heap.size w (w.alloc (.cells (Qaa (.mk 18 nn s off b c l)) 119)):=zzb.alloc zzl _;have pA:=Jb hpre.flt;have P4:w.heap.size≠rb:=zo
 have HP:=Zh (hpre.up dA);have J1:=Zh (Chg.of_below dA [rb]);have S0:=Zh (zzw w (.cells (Qaa (.mk 18 nn s off b c l)) 119));have HAD:=Zh eA;have N5:=Zh vA;have HN:=Zh hn;rw[vA]at J1 S0 |-;have R3:Hi (Qan fs rb M (w.alloc (.cells #[Iv 18,Iv nn,Sv s,Iv off,.slice ad l.length cc] 119)) x M0 vv (.mk 18 nn s off b c l)):=by rw[<-vA];exact HP.o
 clear hR dA M3 eA vA pA HP hpre hn
 obtain⟨u,y,z,iA⟩:∃u y z,l=[u,y,z]:=by
  have hwf:=R3.o.wf;unfold An.nd WfN at hwf;have h2:=hwf.2.2.1 rfl;rw[J7,List.length_map]at h2
  match l,h2 with
  |[u,y,z],_=>exact⟨u,y,z,rfl⟩
 subst iA;have O1:ad=some ⟨b,0,none⟩:=HAD.o zp;subst O1;obtain⟨uA,un,uc,cA⟩:=Jg u;have xA:=Zh cA;have gA:Hi (siz u.nd<=n):=le_trans (JH (by simp:u∈[u,y,z])) HN.o;obtain⟨yA,yn,yc,bA⟩:=Jg y;have P6:=Zh bA;have l9:Hi (siz y.nd<=n):=le_trans (JH (by simp:y∈[u,y,z])) HN.o;obtain⟨zA,zn,zc,aA⟩:=Jg z;have E3:=Zh aA;have S8:Hi (siz z.nd<=n):=le_trans (JH (by simp:z∈[u,y,z])) HN.o
 have hA:ty=(ofN fs M0 y.nd).1/\es=QbS fs M0 1 u.nd++((ofN fs M0 y.nd).2++QbS fs M0 (ofN fs M0 y.nd).1 z.nd):=by
  simp[ndL]at hr;obtain⟨h1,h2⟩:=hr;refine⟨h1.symm,?_⟩;rw[<-h2];simp[QbS]
 have D4:=Zh hA;have E2:=R3;have N3:=S0;go_enter func108,ntmps108;go_upto_region 30 with fail;generalize World.alloc w _=w1 at*;generalize w.heap.size=cb at*;have cu:=JD fs rb M u M0 vv _ 1 _ (E2.o.kid zd u zp) λW2 C2=>IH u M0 vv _ W2 gA.o zo C2;rw[xA.o]at cu;have hat:=E2.o.at';unfold An.At at hat;have hcl:=(JO (i:=0) hat.2 rfl).1;rw[xA.o]at hcl;have c0:=hcl 0 _ rfl;have c1:=hcl 1 _ rfl;have c2:=hcl 2 _ rfl;have c3:=hcl 3 _ rfl;have c4:=hcl 4 _ rfl;simp only[zero_add,zero_mul,one_mul,Nat.reduceMul,Nat.reduceAdd,add_zero]at c0 c1 c2 c3 c4;have m4:=Ja N3.o 4;simp only[zW]at m4;go_wp2_with fail;refine cu.mono ?_;rintro e w2 ⟨rfl,i7,E1⟩;replace E2:=Zh (E2.o.chg E1 i7);replace N3:=Zh (E1.heap_some (by simp;exact P4) N3.o);replace J1:=Zh (J1.o.trans E1);have cy:=IH y M0 vv _ _ l9.o zo (E2.o.kid zd y zp);rw[P6.o]at cy;have hat:=E2.o.at';unfold An.At at hat;have hcl:=(JO (i:=1) hat.2 rfl).1;rw[P6.o]at hcl;have c0:=hcl 0 _ rfl;have c1:=hcl 1 _ rfl;have c2:=hcl 2 _ rfl;have c3:=hcl 3 _ rfl;have c4:=hcl 4 _ rfl;simp only[zero_add,zero_mul,one_mul,Nat.reduceMul,Nat.reduceAdd,add_zero]at c0 c1 c2 c3 c4;have m4:=Ja N3.o 4;simp only[zW]at m4;go_wp2_with fail;refine cy.mono ?_;rintro e w3 ⟨rfl,kA,A5⟩;replace E2:=Zh (E2.o.chg A5 kA);replace N3:=Zh (A5.heap_some (by simp;exact P4) N3.o);replace J1:=Zh (J1.o.trans A5);have cz:=JD fs rb M z M0 vv _ (ofN fs M0 y.nd).1 _ (E2.o.kid zd z zp) λW2 C2=>IH z M0 vv _ W2 S8.o zo C2;rw[E3.o]at cz;have hat:=E2.o.at';unfold An.At at hat;have hcl:=(JO (i:=2) hat.2 rfl).1;rw[E3.o]at hcl;have c0:=hcl 0 _ rfl;have c1:=hcl 1 _ rfl;have c2:=hcl 2 _ rfl;have c3:=hcl 3 _ rfl;have c4:=hcl 4 _ rfl;simp only[zero_add,zero_mul,one_mul,Nat.reduceMul,Nat.reduceAdd,add_zero]at c0 c1 c2 c3 c4;have m4:=Ja N3.o 4;simp only[zW]at m4;go_wp2_with fail;refine cz.mono ?_;rintro e w4 ⟨rfl,mA,nA⟩;have XA:=Zh mA;replace J1:=Zh (J1.o.trans nA);go_wp2;rw[HR.o,D4.o.1,D4.o.2];exact⟨rfl,by rw[Jt,Jt];exact XA.o,J1.o⟩
def YS(g o n vc:Nat)(h:n<=vc)(W:World):(Instr.slice 55 (.slice (some ⟨g,o,none⟩) n vc) none (some (Iv n)) (some (Iv n))).run prog W=.ok (.slice (some ⟨g,o,none⟩) n n) W:=by
 rw[run_slice_hm W 55 (some ⟨g,o,none⟩) n vc (show prog.underlying 55=some (.slice (prog.elem 55)) by kernel_rfl) .i64 .i64 n n zo zo zo];rw[show (sizeOf (prog.elem 55)).run prog W=.ok 1 W by kernel_rfl];simp[Result.andThen,sliced,Addr.add]
def YT(ad:Option Addr)(vc:Nat)(W:World):∃ad2,∀W:World,(Instr.slice 55 (.slice ad 0 vc) none (some (Iv 0)) (some (Iv 0))).run prog W=.ok (.slice ad2 0 0) W:=by
 refine⟨ad,λW=>?_⟩;rw[run_slice_hm W 55 ad 0 vc (show prog.underlying 55=some (.slice (prog.elem 55)) by kernel_rfl) .i64 .i64 0 0 zo zo zo];rw[show (sizeOf (prog.elem 55)).run prog W=.ok 1 W by kernel_rfl]
 cases ad<;>simp[Result.andThen,sliced,Addr.add]
def QgT:(prog.info? 3).map (λi=>(i.zero,i.size,i.bytes))=some (some (Iv 0),1,8):=zk
def QnG{P:Prop}(h:P:=by
  simp only[ho,resolve,invoke,builtin,Sem.run_bind,Sem.run_pure,Result.andThen_ok,List.map_toArray,List.map_cons,List.map_nil,hs,hx,hr];refine h _ _ (M5 _ _ (grownCap_ge w 1 0 3) λi n hs=>?_) (G7 _);have:i=0:=by have:=(List.getElem?_eq_some_iff.1 hs).1;simp at this;exact this
  subst this;have hs':nm=n:=by simpa using hs
  subst hs';rw[Array.getElem?_append_left (by simp)]
  rfl):P:=h
def JL{ops:Array Oper}{o:Oper}{ac:Act}{K:Act->World->Prop}{Q:Exit->Act->World->Prop}{E:Prop}(w:World)(hgd:o.guard=none)(s x:Operand)
  (ho:o.op=.call {callee:=.builtin .append,args:=#[s,x],argTypes:=#[55,55]}) (M0:List Int) (sv:Value) (wC:(M0=[]/\∃ad,sv=.slice ad 0 0)\/∃g o,sv=.slice (some ⟨g,o,none⟩) M0.length M0.length/\∀i n,M0[i]?=some n->w.cell? ⟨g,o+i,none⟩=some (Iv n)) (hs:ac.eval s=sv)
  (rr:Nat) (nm:Int) (hx:ac.eval x=.slice (some ⟨rr,0,none⟩) 1 1) (hrow:w.heap[rr]?=some (.cells #[Iv nm] 3 (0,0)))
  (hlen:M0.length<=1000000000) (rb:Nat) (C9:rb<w.heap.size)
  (h:∀w' cc,QaP w' rb (.slice (some ⟨w.heap.size,0,none⟩) (M0.length+1) cc) (M0++[nm])->Below w.heap.size w w'->K (ac.put o.dst (.slice (some ⟨w.heap.size,0,none⟩) (M0.length+1) cc)) w'):
  if Region.wanted o (yielded ops ac.tmps)=true then Oper.wp prog o ac w K Q else E:=by
 have hw:Region.wanted o (yielded ops ac.tmps)=true:=by simp[Region.wanted,hgd]
 rw[if_pos hw];obtain⟨i0,hi,uA,yA,zA⟩:=info_parts QgT
 have xA:∀j u,[Value.int .i64 nm][j]?=some u->w.cell? ((⟨rr,0,none⟩:Addr).add j)=some u:=λj u hj=>by
  rw[show (⟨rr,0,none⟩:Addr).add j=⟨rr,j,none⟩ by unfold Addr.add;split<;>simp_all];exact Ks hrow hj
 have M5:∀(cs:Array Value)(cc:Nat),M0.length+1<=cc->(∀(i:Nat)(n:Int),(M0++[nm])[i]?=some n->cs[i]?=some (Value.int .i64 n))->QaP (w.drew.alloc (.cells cs 3)) rb (.slice (some ⟨w.heap.size,0,none⟩) (M0.length+1) cc) (M0++[nm]):=by
  intro cs cc h1 h2;refine .inr ⟨w.heap.size,0,cc,by rw[List.length_append];rfl,by rw[List.length_append];exact h1,by omega,by simp,λi n hs=>?_⟩;rw[zero_add];exact(Ja (zzw w.drew (.cells cs 3)) i).trans (h2 i n hs)
 have G7:∀cs:Array Value,Below w.heap.size w (w.drew.alloc (.cells cs 3)):=λcs=>((Below.refl w.heap.size w).drew).alloc zzl _
 unfold Oper.wp execOp
 rcases wC with⟨hv,ad,rfl⟩|⟨g,o',rfl,hc⟩
 ·subst hv
  cases ad with
  |some ad=>
   have hr:=run_append_grow (P:=prog) w 55 o.type 3 i0 _ underlying55 hi uA ad 0 0 [] (by rw[yA];rfl) (λj u hj=>by simp at hj) ⟨rr,0,none⟩ 1 1 [Iv nm] (by rw[yA];rfl) xA zo zo (growslice_fits zo (by rw[zA];omega));exact QnG
  |none=>
  have hr:=run_append_nil (P:=prog) w 55 o.type 3 i0 _ underlying55 hi uA ⟨rr,0,none⟩ 1 1 [Iv nm] (by rw[yA];rfl) xA zd zd (by rw[zA];decide);exact QnG
 ·have hr:=run_append_grow (P:=prog) w 55 o.type 3 i0 _ underlying55 hi uA ⟨g,o',none⟩ M0.length M0.length (M0.map λn=>Iv n) (by rw[yA];simp) (λj u hj=>by
   rw[show (⟨g,o',none⟩:Addr).add j=⟨g,o'+j,none⟩ by unfold Addr.add;split<;>simp_all];rw[List.getElem?_map]at hj;obtain⟨n,h1,rfl⟩:=Option.map_eq_some_iff.1 hj
   exact hc j n h1) ⟨rr,0,none⟩ 1 1 [Iv nm] (by rw[yA];rfl) xA zo zo (growslice_fits zo (by rw[zA];omega))
  simp only[ho,resolve,invoke,builtin,Sem.run_bind,Sem.run_pure,Result.andThen_ok,List.map_toArray,List.map_cons,List.map_nil,hs,hx,hr];refine h _ _ (M5 _ _ (grownCap_ge w (M0.length+1) M0.length 3) λi n hs=>?_) (G7 _);have hlt:=(List.getElem?_eq_some_iff.1 hs).1;rw[Array.getElem?_append_left (by simp at hlt |-;omega)];have e:(M0.map λn=>Value.int .i64 n).toArray++[Value.int .i64 nm].toArray=((M0++[nm]).map λn=>Value.int .i64 n).toArray:=zp
  rw[e,List.getElem?_toArray,List.getElem?_map,hs];rfl
def Qan.let1{fs:List Qau}{rb:Nat}{M:Value}{W:World}{x:Option Int}{M0:List Int}{vv:Value}{nn:Int}{s:By}{off:Int}{b c:Nat}{y z:An}(h:Qan fs rb M W x M0 vv (.mk 19 nn s off b c [y,z])):Qan fs rb M W x M0 vv y/\∀vars' vv',vars'.length=M0.length+1->QaP W rb vv' vars'->Qan fs rb M W x vars' vv' z:=by
 have hat:=h.at';unfold An.At at hat;have yA:=h.rf;rw[Kt,if_neg zp]at yA;have zA:=h.ok;unfold An.nd QeI at zA;have xA:=zA.2.2;simp only[ndL,beq_self_eq_true]at xA;have hwf:=h.wf;unfold An.nd WfN at hwf;have uA:=hwf.2.2.2.2
 exact⟨⟨(JO (i:=0) hat.2 rfl).2,λhm=>yA (List.mem_cons_of_mem _ (Jz zp _ hm)),h.flt,h.sigs,h.ints,xA.1,Z9 uA _ (by simp[ndL])⟩,
  λvars' vv' hl hi=>⟨(JO (i:=1) hat.2 rfl).2,λhm=>yA (List.mem_cons_of_mem _ (Jz zp _ hm)),h.flt,h.sigs,hi,by rw[hl];exact xA.2,Z9 uA _ (by simp[ndL])⟩⟩
def JkG(fs:List Qau)(rb:Nat)(M:Value)(hps:∀s∈fs,s.params.length<=1000000000)(n:Nat)(IH:QeO fs rb M n)(nn:Int)(s:By)(off:Int)(b c:Nat)(l:List An)(M0:List Int)(vv:Value)(x:Option Int)(w:World)(hn:Qaz (ndL l)<=n)(hb:n+1+M0.length<=1000000000)(hpre:Qan fs rb M w x M0 vv (.mk 19 nn s off b c l))  :
  Calls prog 108 #[Pt rb,.agg (Qaa (.mk 19 nn s off b c l)),vv] w (TyP w rb M x (ofN fs M0 (An.mk 19 nn s off b c l).nd).2 (Iv (ofN fs M0 (An.mk 19 nn s off b c l).nd).1)):=by
 obtain⟨r,hr⟩:∃r,ofN fs M0 (An.mk 19 nn s off b c l).nd=r:=⟨_,rfl⟩
 rw[hr];obtain⟨ty,es⟩:=r;dsimp only;obtain⟨R,hR⟩:∃R,TyP w rb M x es (Iv ty)=R:=⟨_,rfl⟩
 rw[hR];have HR:Hi (R=TyP w rb M x es (Iv ty)):=hR.symm;rw[An.nd,Kg]at hr;have nA:l.length<=n:=by have:=Jw l;omega
 obtain⟨ad,cc,M3,iA⟩:=Jn b c l
 have cA:Qaa (.mk 19 nn s off b c l)=#[Iv 19,Iv nn,Sv s,Iv off,.slice ad l.length cc]:=by
  show #[_,_,_,_,Qaw b c l]=_
  rw[M3]
 have dA:Below w.heap.size w (w.alloc (.cells (Qaa (.mk 19 nn s off b c l)) 119)):=zzb.alloc zzl _;have rA:=Jb hpre.flt;have P4:w.heap.size≠rb:=zo
 have HP:=Zh (hpre.up dA);have J1:=Zh (Chg.of_below dA [rb]);have S0:=Zh (zzw w (.cells (Qaa (.mk 19 nn s off b c l)) 119));have HAD:=Zh iA;have N5:=Zh cA;have HN:=Zh hn;rw[cA]at J1 S0 |-;have R3:Hi (Qan fs rb M (w.alloc (.cells #[Iv 19,Iv nn,Sv s,Iv off,.slice ad l.length cc] 119)) x M0 vv (.mk 19 nn s off b c l)):=by rw[<-cA];exact HP.o
 clear hR dA M3 iA cA rA HP hpre hn
 obtain⟨y,z,mA⟩:∃y z,l=[y,z]:=by
  have hwf:=R3.o.wf;unfold An.nd WfN at hwf;have h2:=hwf.1 rfl;rw[J7,List.length_map]at h2
  match l,h2 with
  |[y,z],_=>exact⟨y,z,rfl⟩
 subst mA;have O1:ad=some ⟨b,0,none⟩:=HAD.o zp;subst O1;obtain⟨yA,yn,yc,bA⟩:=Jg y;have P6:=Zh bA;clear bA;have l9:Hi (siz y.nd<=n):=Nat.le_trans (JH (by simp:y∈[y,z])) HN.o;obtain⟨zA,zn,zc,aA⟩:=Jg z;have E3:=Zh aA;clear aA;have S8:Hi (siz z.nd<=n):=Nat.le_trans (JH (by simp:z∈[y,z])) HN.o;obtain⟨ry,hA⟩:∃ry,ofN fs M0 y.nd=ry:=⟨_,rfl⟩
 obtain⟨ty1,kA⟩:=ry
 have eA:ty=(ofN fs (M0++[ty1]) z.nd).1/\es=kA++(ofN fs (M0++[ty1]) z.nd).2:=by
  simp[ndL,hA]at hr;exact⟨hr.1.symm,hr.2.symm⟩
 have D4:=Zh eA;have E2:=R3;have N3:=S0;clear hr eA R3 S0 HAD N5 HN;go_enter func108,ntmps108;go_upto_region 35 with fail;generalize World.alloc w _=w1 at*;generalize w.heap.size=cb at*;have cy:=IH y M0 vv _ _ l9.o zo E2.o.let1.1;rw[P6.o,hA]at cy;dsimp only at cy;have hat:=E2.o.at';unfold An.At at hat;have hcl:=(JO (i:=0) hat.2 rfl).1;rw[P6.o]at hcl;have c0:=hcl 0 _ rfl;have c1:=hcl 1 _ rfl;have c2:=hcl 2 _ rfl;have c3:=hcl 3 _ rfl;have c4:=hcl 4 _ rfl;simp only[zero_add,zero_mul,one_mul,Nat.reduceMul,Nat.reduceAdd,add_zero]at c0 c1 c2 c3 c4;have m4:=Ja N3.o 4;simp only[zW]at m4;go_wp2_with fail;clear hat hcl c0 c1 c2 c3 c4;refine cy.mono ?_;rintro e w2 ⟨rfl,i7,E1⟩;replace E2:=Zh (E2.o.chg E1 i7);replace N3:=Zh (E1.heap_some (by simp;exact P4) N3.o);replace J1:=Zh (J1.o.trans E1);go_upto_region 36 with fail
 obtain⟨sv,xB,gA⟩:∃sv,(∀W:World,(Instr.slice 55 vv none (some (Iv M0.length)) (some (Iv M0.length))).run prog W=.ok sv W)/\((M0=[]/\∃ad,sv=.slice ad 0 0)\/∃g o,sv=.slice (some ⟨g,o,none⟩) M0.length M0.length/\∀W',Below w2.drew.heap.size w2.drew W'->∀i n,M0[i]?=some n->W'.cell? ⟨g,o+i,none⟩=some (Iv n)):=by
  rcases E2.o.ints with⟨e1,ad,vc,e2⟩|⟨g,o,vc,e,h2,_,_,h5⟩
  ·subst e1 e2;obtain⟨jA,hz⟩:=YT ad vc w2;exact⟨_,hz,.inl ⟨rfl,jA,rfl⟩⟩
  ·subst e;exact⟨_,YS g o M0.length vc h2,.inr ⟨g,o,rfl,λW' hb i n hi=>(hb.cell (World.block_lt_of_cell? _ _ (h5 i n hi))).trans (h5 i n hi)⟩⟩
 have pA:∃a m c',vv=.slice a m c'/\m=M0.length:=by
  rcases E2.o.ints with⟨e1,ad,vc,e2⟩|⟨g,o,vc,e,_⟩
  ·exact⟨_,_,_,e2,by rw[e1];rfl⟩
  ·exact⟨_,_,_,e,rfl⟩
 obtain⟨va,vn,tA,rfl,qA⟩:=pA;subst qA;have C7:=Zh gA;have sA:∃a m c',sv=.slice a m c':=by rcases gA with⟨_,_,rfl⟩|⟨_,_,rfl,_⟩<;>exact⟨_,_,_,rfl⟩
 obtain⟨sa,sm,sc,rfl⟩:=sA;have hvl:M0.length<=1000000000:=zo
 refine wp_region_held_drew (S:=λ_=>True) zk (trivial) λhH=>?_;have hD:Below w2.heap.size w2 w2.drew:=(Below.refl w2.heap.size w2).drew;replace E2:=Zh (E2.o.up hD);replace N3:=Zh ((hD.block _ (Jb N3.o)).trans N3.o);replace J1:=Zh (J1.o.trans (Chg.of_below hD [rb]));generalize w2.drew=w3 at*;refine ZT (i:=0) (v:=?vT45_0) rfl (Or.inl ⟨by rfl,?yT45_0⟩) ?_
 case yT45_0=>exact ZyQ
 refine ZT (i:=1) (v:=?vT45_1) rfl (Or.inl ⟨by rfl,?yT45_1⟩) ?_
 case yT45_1=>exact ZyQ
 refine ZT (i:=5) (v:=?vT45_5) rfl (Or.inl ⟨by rfl,?yT45_5⟩) ?_
 case yT45_5=>exact ZyQ
 refine ZT (i:=6) (v:=?vT45_6) rfl (Or.inl ⟨by rfl,?yT45_6⟩) ?_
 case yT45_6=>exact ZyQ
 refine ZT (i:=7) (v:=?vT45_7) rfl (Or.inl ⟨by rfl,?yT45_7⟩) ?_
 case yT45_7=>exact ZyQ
 refine ZT (i:=8) (v:=?vT45_8) rfl (Or.inl ⟨by rfl,?yT45_8⟩) ?_
 case yT45_8=>exact ZyQ
 refine ZT (i:=9) (v:=?vT45_9) rfl (Or.inl ⟨by rfl,?yT45_9⟩) ?_
 case yT45_9=>exact ZyQ
 refine ZT (i:=10) (v:=?vT45_10) rfl (Or.inl ⟨by rfl,?yT45_10⟩) ?_
 case yT45_10=>exact ZyQ
 refine ZT (i:=11) (v:=?vT45_11) rfl (Or.inl ⟨by rfl,?yT45_11⟩) ?_
 case yT45_11=>exact ZyQ
 refine ZR (rs:=[2,12]) (AllReadyH.cons rfl (λK hK=>?_) (AllReadyH.cons rfl (λK hK=>?_) AllReadyH.nil))
 ·have m4:=Ja N3.o 4;simp only[zW]at m4;go_simp;refine zU hK trivial λhH=>?_
  refine ZT (i:=3) (v:=?vT46_3) rfl (Or.inl ⟨by rfl,?yT46_3⟩) ?_
  case yT46_3=>exact ZyQ
  refine ZR (rs:=[4,12]) (AllReadyH.cons rfl (λK hK=>?_) (AllReadyH.cons rfl (λK hK=>?_) AllReadyH.nil))
  ·have hat:=E2.o.at';unfold An.At at hat;have hcl:=(JO (i:=1) hat.2 rfl).1;rw[E3.o]at hcl;have c0:=hcl 0 _ rfl;have c1:=hcl 1 _ rfl;have c2:=hcl 2 _ rfl;have c3:=hcl 3 _ rfl;have c4:=hcl 4 _ rfl;simp only[zero_add,zero_mul,one_mul,Nat.reduceMul,Nat.reduceAdd,add_zero]at c0 c1 c2 c3 c4;go_simp;refine zU hK trivial λhH=>?_
   refine ZS 12 rfl λK hK=>?_;go_simp;refine zU hK trivial λhH=>?_;have L2:Below w3.heap.size w3 (w3.alloc (.cells #[Iv ty1] 3)):=zzb.alloc zzl _;replace E2:=Zh (E2.o.up L2);replace N3:=Zh ((L2.block _ (Jb N3.o)).trans N3.o);replace J1:=Zh (J1.o.trans (Chg.of_below L2 [rb]));have P3:=Zh (zzw w3 (.cells #[Iv ty1] 3));have vA:=Zh L2
   refine ZS 13 rfl λK hK=>?_;have xA:(M0=[]/\∃ad,(Value.slice sa sm sc)=.slice ad 0 0)\/∃g o,(Value.slice sa sm sc)=.slice (some ⟨g,o,none⟩) M0.length M0.length/\∀i n,M0[i]?=some n->(w3.alloc (.cells #[Iv ty1] 3)).cell? ⟨g,o+i,none⟩=some (Value.int .i64 n):=C7.o.imp id λ⟨g,o,h1,h2⟩=>⟨g,o,h1,h2 _ vA.o⟩
   (refine JL (w3.alloc (.cells #[Iv ty1] 3)) zr (.tmp 118) (.tmp 120) zr M0 _ xA zr w3.heap.size ty1 zr P3.o hvl rb (Jb E2.o.flt) ?_;intro w5 cc5 F8 C3)
   replace E2:=Zh (E2.o.up C3);replace N3:=Zh ((C3.block _ (Jb N3.o)).trans N3.o);replace J1:=Zh (J1.o.trans (Chg.of_below C3 [rb]));have uA:=Zh F8;generalize (w3.alloc (.cells #[Iv ty1] 3)).heap.size=g5 at*;refine zU hK trivial λhH=>?_
   refine ZS 14 rfl λK hK=>?_;have M6:(M0++[ty1]).length=M0.length+1:=zp
   have cn:=IH z (M0++[ty1]) (.slice (some ⟨g5,0,none⟩) (M0.length+1) cc5) _ _ S8.o (by rw[M6];omega) (E2.o.let1.2 _ _ M6 uA.o);rw[E3.o]at cn
   (go_simp;go_at_call 108;refine cn.mono ?_;intro e w6 h6)
   obtain⟨Y6,V6,j0⟩:=h6;subst Y6;have H6:=Zh V6;replace J1:=Zh (J1.o.trans j0);refine zU hK trivial λhH=>?_
   refine ZT (i:=15) (v:=?vT50_15) rfl (Or.inl ⟨by rfl,?yT50_15⟩) ?_
   case yT50_15=>exact ZyQ
   exact QjN
  ·go_simp;refine zU hK trivial λhH=>?_;have L2:Below w3.heap.size w3 (w3.alloc (.cells #[Iv ty1] 3)):=zzb.alloc zzl _;replace E2:=Zh (E2.o.up L2);replace N3:=Zh ((L2.block _ (Jb N3.o)).trans N3.o);replace J1:=Zh (J1.o.trans (Chg.of_below L2 [rb]));have P3:=Zh (zzw w3 (.cells #[Iv ty1] 3));have vA:=Zh L2
   refine ZR (rs:=[4,13]) (AllReadyH.cons rfl (λK hK=>?_) (AllReadyH.cons rfl (λK hK=>?_) AllReadyH.nil))
   ·have hat:=E2.o.at';unfold An.At at hat;have hcl:=(JO (i:=1) hat.2 rfl).1;rw[E3.o]at hcl;have c0:=hcl 0 _ rfl;have c1:=hcl 1 _ rfl;have c2:=hcl 2 _ rfl;have c3:=hcl 3 _ rfl;have c4:=hcl 4 _ rfl;simp only[zero_add,zero_mul,one_mul,Nat.reduceMul,Nat.reduceAdd,add_zero]at c0 c1 c2 c3 c4;go_simp;refine zU hK trivial λhH=>?_
    refine ZS 13 rfl λK hK=>?_;have xA:(M0=[]/\∃ad,(Value.slice sa sm sc)=.slice ad 0 0)\/∃g o,(Value.slice sa sm sc)=.slice (some ⟨g,o,none⟩) M0.length M0.length/\∀i n,M0[i]?=some n->(w3.alloc (.cells #[Iv ty1] 3)).cell? ⟨g,o+i,none⟩=some (Value.int .i64 n):=C7.o.imp id λ⟨g,o,h1,h2⟩=>⟨g,o,h1,h2 _ vA.o⟩
    (refine JL (w3.alloc (.cells #[Iv ty1] 3)) zr (.tmp 118) (.tmp 120) zr M0 _ xA zr w3.heap.size ty1 zr P3.o hvl rb (Jb E2.o.flt) ?_;intro w5 cc5 F8 C3)
    replace E2:=Zh (E2.o.up C3);replace N3:=Zh ((C3.block _ (Jb N3.o)).trans N3.o);replace J1:=Zh (J1.o.trans (Chg.of_below C3 [rb]));have uA:=Zh F8;generalize (w3.alloc (.cells #[Iv ty1] 3)).heap.size=g5 at*;refine zU hK trivial λhH=>?_
    refine ZS 14 rfl λK hK=>?_;have M6:(M0++[ty1]).length=M0.length+1:=zp
    have cn:=IH z (M0++[ty1]) (.slice (some ⟨g5,0,none⟩) (M0.length+1) cc5) _ _ S8.o (by rw[M6];omega) (E2.o.let1.2 _ _ M6 uA.o);rw[E3.o]at cn
    (go_simp;go_at_call 108;refine cn.mono ?_;intro e w6 h6)
    obtain⟨Y6,V6,j0⟩:=h6;subst Y6;have H6:=Zh V6;replace J1:=Zh (J1.o.trans j0);refine zU hK trivial λhH=>?_
    refine ZT (i:=15) (v:=?vT54_15) rfl (Or.inl ⟨by rfl,?yT54_15⟩) ?_
    case yT54_15=>exact ZyQ
    exact QjN
   ·have xA:(M0=[]/\∃ad,(Value.slice sa sm sc)=.slice ad 0 0)\/∃g o,(Value.slice sa sm sc)=.slice (some ⟨g,o,none⟩) M0.length M0.length/\∀i n,M0[i]?=some n->(w3.alloc (.cells #[Iv ty1] 3)).cell? ⟨g,o+i,none⟩=some (Value.int .i64 n):=C7.o.imp id λ⟨g,o,h1,h2⟩=>⟨g,o,h1,h2 _ vA.o⟩
    (refine JL (w3.alloc (.cells #[Iv ty1] 3)) zr (.tmp 118) (.tmp 120) zr M0 _ xA zr w3.heap.size ty1 zr P3.o hvl rb (Jb E2.o.flt) ?_;intro w5 cc5 F8 C3)
    replace E2:=Zh (E2.o.up C3);replace N3:=Zh ((C3.block _ (Jb N3.o)).trans N3.o);replace J1:=Zh (J1.o.trans (Chg.of_below C3 [rb]));have uA:=Zh F8;generalize (w3.alloc (.cells #[Iv ty1] 3)).heap.size=g5 at*;refine zU hK trivial λhH=>?_
    refine ZS 4 rfl λK hK=>?_;have hat:=E2.o.at';unfold An.At at hat;have hcl:=(JO (i:=1) hat.2 rfl).1;rw[E3.o]at hcl;have c0:=hcl 0 _ rfl;have c1:=hcl 1 _ rfl;have c2:=hcl 2 _ rfl;have c3:=hcl 3 _ rfl;have c4:=hcl 4 _ rfl;simp only[zero_add,zero_mul,one_mul,Nat.reduceMul,Nat.reduceAdd,add_zero]at c0 c1 c2 c3 c4;go_simp;refine zU hK trivial λhH=>?_
    refine ZS 14 rfl λK hK=>?_;have M6:(M0++[ty1]).length=M0.length+1:=zp
    have cn:=IH z (M0++[ty1]) (.slice (some ⟨g5,0,none⟩) (M0.length+1) cc5) _ _ S8.o (by rw[M6];omega) (E2.o.let1.2 _ _ M6 uA.o);rw[E3.o]at cn
    (go_simp;go_at_call 108;refine cn.mono ?_;intro e w6 h6)
    obtain⟨Y6,V6,j0⟩:=h6;subst Y6;have H6:=Zh V6;replace J1:=Zh (J1.o.trans j0);refine zU hK trivial λhH=>?_
    refine ZT (i:=15) (v:=?vT57_15) rfl (Or.inl ⟨by rfl,?yT57_15⟩) ?_
    case yT57_15=>exact ZyQ
    exact QjN
 ·go_simp;refine zU hK trivial λhH=>?_;have L2:Below w3.heap.size w3 (w3.alloc (.cells #[Iv ty1] 3)):=zzb.alloc zzl _;replace E2:=Zh (E2.o.up L2);replace N3:=Zh ((L2.block _ (Jb N3.o)).trans N3.o);replace J1:=Zh (J1.o.trans (Chg.of_below L2 [rb]));have P3:=Zh (zzw w3 (.cells #[Iv ty1] 3));have vA:=Zh L2
  refine ZR (rs:=[2,13]) (AllReadyH.cons rfl (λK hK=>?_) (AllReadyH.cons rfl (λK hK=>?_) AllReadyH.nil))
  ·have m4:=Ja N3.o 4;simp only[zW]at m4;go_simp;refine zU hK trivial λhH=>?_
   refine ZT (i:=3) (v:=?vT59_3) rfl (Or.inl ⟨by rfl,?yT59_3⟩) ?_
   case yT59_3=>exact ZyQ
   refine ZR (rs:=[4,13]) (AllReadyH.cons rfl (λK hK=>?_) (AllReadyH.cons rfl (λK hK=>?_) AllReadyH.nil))
   ·have hat:=E2.o.at';unfold An.At at hat;have hcl:=(JO (i:=1) hat.2 rfl).1;rw[E3.o]at hcl;have c0:=hcl 0 _ rfl;have c1:=hcl 1 _ rfl;have c2:=hcl 2 _ rfl;have c3:=hcl 3 _ rfl;have c4:=hcl 4 _ rfl;simp only[zero_add,zero_mul,one_mul,Nat.reduceMul,Nat.reduceAdd,add_zero]at c0 c1 c2 c3 c4;go_simp;refine zU hK trivial λhH=>?_
    refine ZS 13 rfl λK hK=>?_;have xA:(M0=[]/\∃ad,(Value.slice sa sm sc)=.slice ad 0 0)\/∃g o,(Value.slice sa sm sc)=.slice (some ⟨g,o,none⟩) M0.length M0.length/\∀i n,M0[i]?=some n->(w3.alloc (.cells #[Iv ty1] 3)).cell? ⟨g,o+i,none⟩=some (Value.int .i64 n):=C7.o.imp id λ⟨g,o,h1,h2⟩=>⟨g,o,h1,h2 _ vA.o⟩
    (refine JL (w3.alloc (.cells #[Iv ty1] 3)) zr (.tmp 118) (.tmp 120) zr M0 _ xA zr w3.heap.size ty1 zr P3.o hvl rb (Jb E2.o.flt) ?_;intro w5 cc5 F8 C3)
    replace E2:=Zh (E2.o.up C3);replace N3:=Zh ((C3.block _ (Jb N3.o)).trans N3.o);replace J1:=Zh (J1.o.trans (Chg.of_below C3 [rb]));have uA:=Zh F8;generalize (w3.alloc (.cells #[Iv ty1] 3)).heap.size=g5 at*;refine zU hK trivial λhH=>?_
    refine ZS 14 rfl λK hK=>?_;have M6:(M0++[ty1]).length=M0.length+1:=zp
    have cn:=IH z (M0++[ty1]) (.slice (some ⟨g5,0,none⟩) (M0.length+1) cc5) _ _ S8.o (by rw[M6];omega) (E2.o.let1.2 _ _ M6 uA.o);rw[E3.o]at cn
    (go_simp;go_at_call 108;refine cn.mono ?_;intro e w6 h6)
    obtain⟨Y6,V6,j0⟩:=h6;subst Y6;have H6:=Zh V6;replace J1:=Zh (J1.o.trans j0);refine zU hK trivial λhH=>?_
    refine ZT (i:=15) (v:=?vT62_15) rfl (Or.inl ⟨by rfl,?yT62_15⟩) ?_
    case yT62_15=>exact ZyQ
    exact QjN
   ·have xA:(M0=[]/\∃ad,(Value.slice sa sm sc)=.slice ad 0 0)\/∃g o,(Value.slice sa sm sc)=.slice (some ⟨g,o,none⟩) M0.length M0.length/\∀i n,M0[i]?=some n->(w3.alloc (.cells #[Iv ty1] 3)).cell? ⟨g,o+i,none⟩=some (Value.int .i64 n):=C7.o.imp id λ⟨g,o,h1,h2⟩=>⟨g,o,h1,h2 _ vA.o⟩
    (refine JL (w3.alloc (.cells #[Iv ty1] 3)) zr (.tmp 118) (.tmp 120) zr M0 _ xA zr w3.heap.size ty1 zr P3.o hvl rb (Jb E2.o.flt) ?_;intro w5 cc5 F8 C3)
    replace E2:=Zh (E2.o.up C3);replace N3:=Zh ((C3.block _ (Jb N3.o)).trans N3.o);replace J1:=Zh (J1.o.trans (Chg.of_below C3 [rb]));have uA:=Zh F8;generalize (w3.alloc (.cells #[Iv ty1] 3)).heap.size=g5 at*;refine zU hK trivial λhH=>?_
    refine ZS 4 rfl λK hK=>?_;have hat:=E2.o.at';unfold An.At at hat;have hcl:=(JO (i:=1) hat.2 rfl).1;rw[E3.o]at hcl;have c0:=hcl 0 _ rfl;have c1:=hcl 1 _ rfl;have c2:=hcl 2 _ rfl;have c3:=hcl 3 _ rfl;have c4:=hcl 4 _ rfl;simp only[zero_add,zero_mul,one_mul,Nat.reduceMul,Nat.reduceAdd,add_zero]at c0 c1 c2 c3 c4;go_simp;refine zU hK trivial λhH=>?_
    refine ZS 14 rfl λK hK=>?_;have M6:(M0++[ty1]).length=M0.length+1:=zp
    have cn:=IH z (M0++[ty1]) (.slice (some ⟨g5,0,none⟩) (M0.length+1) cc5) _ _ S8.o (by rw[M6];omega) (E2.o.let1.2 _ _ M6 uA.o);rw[E3.o]at cn
    (go_simp;go_at_call 108;refine cn.mono ?_;intro e w6 h6)
    obtain⟨Y6,V6,j0⟩:=h6;subst Y6;have H6:=Zh V6;replace J1:=Zh (J1.o.trans j0);refine zU hK trivial λhH=>?_
    refine ZT (i:=15) (v:=?vT65_15) rfl (Or.inl ⟨by rfl,?yT65_15⟩) ?_
    case yT65_15=>exact ZyQ
    exact QjN
  ·have xA:(M0=[]/\∃ad,(Value.slice sa sm sc)=.slice ad 0 0)\/∃g o,(Value.slice sa sm sc)=.slice (some ⟨g,o,none⟩) M0.length M0.length/\∀i n,M0[i]?=some n->(w3.alloc (.cells #[Iv ty1] 3)).cell? ⟨g,o+i,none⟩=some (Value.int .i64 n):=C7.o.imp id λ⟨g,o,h1,h2⟩=>⟨g,o,h1,h2 _ vA.o⟩
   (refine JL (w3.alloc (.cells #[Iv ty1] 3)) zr (.tmp 118) (.tmp 120) zr M0 _ xA zr w3.heap.size ty1 zr P3.o hvl rb (Jb E2.o.flt) ?_;intro w5 cc5 F8 C3)
   replace E2:=Zh (E2.o.up C3);replace N3:=Zh ((C3.block _ (Jb N3.o)).trans N3.o);replace J1:=Zh (J1.o.trans (Chg.of_below C3 [rb]));have uA:=Zh F8;generalize (w3.alloc (.cells #[Iv ty1] 3)).heap.size=g5 at*;refine zU hK trivial λhH=>?_
   refine ZS 2 rfl λK hK=>?_;have m4:=Ja N3.o 4;simp only[zW]at m4;go_simp;refine zU hK trivial λhH=>?_
   refine ZT (i:=3) (v:=?vT67_3) rfl (Or.inl ⟨by rfl,?yT67_3⟩) ?_
   case yT67_3=>exact ZyQ
   refine ZS 4 rfl λK hK=>?_;have hat:=E2.o.at';unfold An.At at hat;have hcl:=(JO (i:=1) hat.2 rfl).1;rw[E3.o]at hcl;have c0:=hcl 0 _ rfl;have c1:=hcl 1 _ rfl;have c2:=hcl 2 _ rfl;have c3:=hcl 3 _ rfl;have c4:=hcl 4 _ rfl;simp only[zero_add,zero_mul,one_mul,Nat.reduceMul,Nat.reduceAdd,add_zero]at c0 c1 c2 c3 c4;go_simp;refine zU hK trivial λhH=>?_
   refine ZS 14 rfl λK hK=>?_;have M6:(M0++[ty1]).length=M0.length+1:=zp
   have cn:=IH z (M0++[ty1]) (.slice (some ⟨g5,0,none⟩) (M0.length+1) cc5) _ _ S8.o (by rw[M6];omega) (E2.o.let1.2 _ _ M6 uA.o);rw[E3.o]at cn
   (go_simp;go_at_call 108;refine cn.mono ?_;intro e w6 h6)
   obtain⟨Y6,V6,j0⟩:=h6;subst Y6;have H6:=Zh V6;replace J1:=Zh (J1.o.trans j0);refine zU hK trivial λhH=>?_
   refine ZT (i:=15) (v:=?vT69_15) rfl (Or.inl ⟨by rfl,?yT69_15⟩) ?_
   case yT69_15=>exact ZyQ
   exact QjN
def JaW(fs:List Qau)(rb:Nat)(M:Value)(hps:∀s∈fs,s.params.length<=1000000000):∀n,QeO fs rb M n
 |0=>λa M0 vv x w hn=>by
  have:=KN a.nd;omega
 |n+1=>λa M0 vv x w hn hb hpre=>by
  have IH:=JaW fs rb M hps n;obtain⟨k,nn,s,off,b,c,l⟩:=a;rw[YK]at hn;have xA:Qaz (ndL l)<=n:=zo
  by_cases h1:k=1
  ·subst h1;exact Qon fs rb M hps n IH nn s off b c l M0 vv x w xA hb hpre
  by_cases h5:k=5
  ·subst h5;exact Qok fs rb M hps n IH nn s off b c l M0 vv x w xA hb hpre
  by_cases h2:k=2
  ·subst h2;exact Qom fs rb M hps n IH nn s off b c l M0 vv x w xA hb hpre
  by_cases h3:k=3
  ·subst h3;exact Qol fs rb M hps n IH nn s off b c l M0 vv x w xA hb hpre
  by_cases h6:k=6
  ·subst h6;exact Qoj fs rb M hps n IH nn s off b c l M0 vv x w xA hb hpre
  by_cases h8:k=8
  ·subst h8;exact Qoh fs rb M hps n IH nn s off b c l M0 vv x w xA hb hpre
  by_cases h9:k=9
  ·subst h9;exact Qog fs rb M hps n IH nn s off b c l M0 vv x w xA hb hpre
  by_cases V3:k=10
  ·subst V3;exact Jkw fs rb M hps n IH nn s off b c l M0 vv x w xA hb hpre
  by_cases h11:k=11
  ·subst h11;exact Jkx fs rb M hps n IH nn s off b c l M0 vv x w xA hb hpre
  by_cases h12:k=12
  ·subst h12;exact Jky fs rb M hps n IH nn s off b c l M0 vv x w xA hb hpre
  by_cases O6:k=13
  ·subst O6;exact Jkz fs rb M hps n IH nn s off b c l M0 vv x w xA hb hpre
  by_cases H7:k=14
  ·subst H7;exact JkA fs rb M hps n IH nn s off b c l M0 vv x w xA hb hpre
  by_cases Q6:k=15
  ·subst Q6;exact JkE fs rb M hps n IH nn s off b c l M0 vv x w xA hb hpre
  by_cases h7:k=7
  ·subst h7;exact Qoi fs rb M hps n IH nn s off b c l M0 vv x w xA hb hpre
  by_cases N8:k=16
  ·subst N8;exact JkB fs rb M hps n IH nn s off b c l M0 vv x w xA hb hpre
  by_cases A8:k=17
  ·subst A8;exact JkC fs rb M hps n IH nn s off b c l M0 vv x w xA hb hpre
  by_cases F5:k=18
  ·subst F5;exact JkF fs rb M hps n IH nn s off b c l M0 vv x w xA hb hpre
  by_cases N2:k=19
  ·subst N2;exact JkG fs rb M hps n IH nn s off b c l M0 vv x w xA hb hpre
  by_cases O2:k=20
  ·subst O2;exact JkD fs rb M hps n IH nn s off b c l M0 vv x w xA hb hpre
  exact JiO fs rb M hps n IH k nn s off b c l M0 vv x w xA hb hpre ⟨h1,h5,h2,h3,h6,h8,h9,V3,h11,h12,O6,H7,Q6,h7,N8,A8,F5,N2,O2⟩
end Go.Proofs.YtncanmdgdflnpaaGreatDoor


