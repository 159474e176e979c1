import Derived.Test.YtfafpklefknomaaGreatDoorR15
open Nat(add_zero le_refl)
namespace Go.Proofs.YtfafpklefknomaaGreatDoor
open Go.ChangeShapes Go.WideShapes Go.ChangeAt Go.RowKit Go.Lib
open _root_.Go.Proofs.Tryz
set_option linter.all false
set_option maxRecDepth 100000
set_option maxHeartbeats 32000000
def Qbo(W:World)(rb:Nat)(v:Value)(l:List Int):Prop:=
 (l=[]/\∃ad cc,v=.slice ad 0 cc)\/∃g o cc,v=.slice (some ⟨g,o,none⟩) l.length cc/\l.length<=cc/\g≠rb/\g<W.heap.size/\∀i n,l[i]?=some n->W.cell? ⟨g,o+i,none⟩=some (Iv n)
def Qbo.chg{W W':World}{rb:Nat}{v:Value}{l:List Int}(h:Qbo W rb v l)(hc:Chg [rb] W W'):Qbo W' rb v l:=by
 refine h.imp id ?_;rintro⟨g,o,cc,h1,h2,h3,h4,h5⟩;exact⟨g,o,cc,h1,h2,h3,Nat.lt_of_lt_of_le h4 hc.size,λi n hi=>hc.cell_some (p:=⟨g,o+i,none⟩) (by simpa using h3) (h5 i n hi)⟩
def Qdh(W:World)(rb:Nat)(M:Value)(fs:List QaN):Prop:=
 ∃ad cc,M=.slice ad fs.length cc/\(fs≠[]->∃g o,ad=some ⟨g,o,none⟩/\g≠rb/\∀i s,fs[i]?=some s->∃x0 pv k n x5 a6 n6 c6,Qbo W rb pv s.params/\
  ∀j u,([.string x0,pv,Iv s.result,Iv k,Iv n,.string x5,.slice a6 n6 c6]:List Value)[j]?=some u->W.cell? ⟨g,o+i*7+j,none⟩=some u)
def Qdh.chg{W W':World}{rb:Nat}{M:Value}{fs:List QaN}(h:Qdh W rb M fs)(hc:Chg [rb] W W'):Qdh W' rb M fs:=by
 obtain⟨ad,cc,h1,h2⟩:=h;refine⟨ad,cc,h1,λhne=>?_⟩;obtain⟨g,o,h3,h4,h5⟩:=h2 hne;refine⟨g,o,h3,h4,λi s hs=>?_⟩;obtain⟨x0,pv,k,n,x5,a6,n6,c6,h6,h7⟩:=h5 i s hs;exact⟨x0,pv,k,n,x5,a6,n6,c6,h6.chg hc,λj u hu=>hc.cell_some (p:=⟨g,o+i*7+j,none⟩) (by simpa using h4) (h7 j u hu)⟩
mutual
def QdK(nf:Nat):Nat->Nd->Prop
 |nv,.mk k n s o l=>(k=2->0<=n/\n<nv)/\(k=20->0<=n/\n<nf)/\(match k==19,l with|true,[a,b]=>QdK nf nv a/\QdK nf (nv+1) b|_,l=>QdJ nf nv l)
def QdJ(nf:Nat):Nat->List Nd->Prop
 |_,[]=>True
 |nv,a::l=>QdK nf nv a/\QdJ nf nv l
end
def Jhr{nf nv:Nat}{l:List Nd}(h:QdJ nf nv l):∀a∈l,QdK nf nv a:=by
 induction l with
 |nil=>intro a ha;cases ha
 |cons x r ih=>
  unfold QdJ at h;exact Qgt
structure Qas(fs:List QaN)(rb:Nat)(M:Value)(W:World)(x:Option Int)(vars:List Int)(vv:Value)(a:An):Prop where
 at':a.At W
 rf:rb∉foot a
 flt:QaW W rb 123 x M
 sigs:Qdh W rb M fs
 ints:Qbo W rb vv vars
 ok:QdK fs.length vars.length a.nd
 wf:WfN a.nd
def Qas.chg{fs:List QaN}{rb:Nat}{M:Value}{W W':World}{x x':Option Int}{vars:List Int}{vv:Value}{a:An}(h:Qas fs rb M W x vars vv a)(hc:Chg [rb] W W')(hf:QaW W' rb 123 x' M):Qas fs rb M W' x' vars vv a:=
 ⟨JK a h.at' λb hb=>hc.block b (Jcs a h.at' b hb) (by simp;intro e;subst e;exact h.rf hb),h.rf,hf,h.sigs.chg hc,h.ints.chg hc,h.ok,h.wf⟩
def Qas.up{fs:List QaN}{rb:Nat}{M:Value}{W W':World}{x:Option Int}{vars:List Int}{vv:Value}{a:An}(h:Qas fs rb M W x vars vv a)(hb:Below W.heap.size W W'):Qas fs rb M W' x vars vv a:=
 h.chg (Chg.of_below hb [rb]) ((hb.block _ (Jb h.flt)).trans h.flt)
def Qas.kid{fs:List QaN}{rb:Nat}{M:Value}{W:World}{x:Option Int}{vars:List Int}{vv:Value}{k n:Int}{s:By}{off:Int}{b c:Nat}{l:List An}(h:Qas fs rb M W x vars vv (.mk k n s off b c l))(hk:k≠19):∀y∈l,Qas fs rb M W x vars vv y:=by
 intro y hy;obtain⟨i,hi⟩:=List.getElem?_of_mem hy;have hat:=h.at';unfold An.At at hat;have zA:=h.rf;rw[KQ,if_neg (List.ne_nil_of_mem hy)]at zA;have yA:=h.ok;unfold An.nd QdK at yA;have xA:=yA.2.2;rw[zM hk]at xA;have hwf:=h.wf;unfold An.nd WfN at hwf;have hmem:y.nd∈ndL l:=by rw[Kk];exact List.mem_map.2 ⟨y,hy,rfl⟩
 exact⟨(JW hat.2 hi).2,λhm=>zA (List.mem_cons_of_mem _ (JC hy _ hm)),h.flt,h.sigs,h.ints,Jhr xA _ hmem,Jbx hwf.2.2.2.2 _ hmem⟩
def TyP(w:World)(rb:Nat)(M:Value)(x:Option Int)(errs:List Int)(v:Value)(e:Ending)(w':World):Prop:=e=.returned v/\QaW w' rb 123 (QaG x errs) M/\Chg [rb] w w'
def QbF(fs:List QaN)(vars:List Int)(t:Int)(a:Nd):List Int:=(ofN fs vars a).2++if (ofN fs vars a).1≠t then [a.off] else []
def JH(fs:List QaN)(rb:Nat)(M:Value)(a:An)(vars:List Int)(vv:Value)(x:Option Int)(t:Int)(w:World)(hpre:Qas fs rb M w x vars vv a)
  (H:∀W,Qas fs rb M W x vars vv a->Calls prog 114 #[Pt rb,.agg (Qaa a),vv] W (TyP W rb M x (ofN fs vars a.nd).2 (Iv (ofN fs vars a.nd).1))) :
  Calls prog 57 #[Pt rb,.agg (Qaa a),vv,Iv t] w (TyP w rb M x (QbF fs vars t a.nd) (.tuple #[])):=by
 obtain⟨R,hR⟩:∃R,TyP w rb M x (QbF fs vars t a.nd) (.tuple #[])=R:=⟨_,rfl⟩
 rw[hR];have HR:Hi (R=TyP w rb M x (QbF fs vars t a.nd) (.tuple #[])):=hR.symm;have uA:Below w.heap.size w (w.alloc (.cells (Qaa a) 127)):=zO.alloc (Nat.le_refl _) _;have co:=H _ (hpre.up uA);have HCP:=Zh (zQ w (.cells (Qaa a) 127));have HBA:=Zh (Chg.of_below uA [rb]);have eA:=Jb hpre.flt;obtain⟨xA,xn,xc,hcf⟩:=Jg a;obtain⟨r,hr⟩:∃r,ofN fs vars a.nd=r:=⟨_,rfl⟩
 have bA:=Zh hr;rw[hr]at co;obtain⟨ty,es⟩:=r;dsimp only at co;rw[hcf]at co HCP HBA |-;have zA:a.nd.off=a.off:=ZK a;have HOF:=Zh zA;clear hR hpre H uA hcf hr zA;go_enter func57,ntmps57;go_wp2_with fail;generalize World.alloc w _=w1 at *;have hcb:w.heap.size≠rb:=zo;generalize w.heap.size=cb at *;refine co.mono ?_;rintro e w2 ⟨rfl,hf2,hc2⟩;have HF2:=Zh hf2;have HC2:=Zh hc2;have yA:=hc2.heap_some (by simp;exact hcb) HCP.o;have HCP2:=Zh yA;clear co hf2 hc2 yA HCP
 by_cases ht:ty=t
 ·subst ht;have d1:(ty !=ty)=false:=zq;have HE:Hi (QbF fs vars ty a.nd=es):=by unfold QbF Hi;rw[bA.o];simp
  go_wp2;go_end0;rw[HR.o,HE.o];exact⟨rfl,HF2.o,HBA.o.trans HC2.o⟩
 ·have d1:(ty !=t)=true:=bne_iff_ne.2 ht;have HE:Hi (QbF fs vars t a.nd=es++[a.off]):=by unfold QbF Hi;rw[bA.o,HOF.o];simp[ht]
  clear ht;go_upto_region 2 with fail;refine wp_region_held_drew (S:=λ_=>True) zk (trivial) λhH=>?_;have hD:Below w2.heap.size w2 w2.drew:=(Below.refl w2.heap.size w2).drew;have dA:=Zh (Chg.of_below hD [rb]);replace HF2:=Zh ((hD.block _ (Jb HF2.o)).trans HF2.o);replace HCP2:=Zh ((hD.block _ (Jb HCP2.o)).trans HCP2.o);clear hD;generalize w2.drew=w3 at *;refine zK 0 ?_
  try simp only[zX]
  refine zK 1 ?_;try simp only[zX]
  refine zK 2 ?_;try simp only[zX]
  refine zK 3 ?_;try simp only[zX]
  refine ZS 4 rfl λK hK=>?_;have n3:=Ja HCP2.o 3;simp only[zW]at n3;go_simp;clear n3;refine zU hK trivial λhH=>?_;clear hK K
  try simp only[zX]
  refine ZS 5 rfl λK hK=>?_
  (go_simp;go_at_call 96;refine(V7 _ rb 123 _ M a.off HF2.o).mono ?_;intro e w4 h4)
  obtain⟨cA,aA,vA⟩:=h4;subst cA;have HF4:=Zh aA;have HC4:=Zh vA;clear aA vA;refine zU hK trivial λhH=>?_;clear hK K
  try simp only[zX]
  refine wpAnyH_done zk ?_ _;go_wp2;go_end0;rw[HR.o,HE.o];exact⟨rfl,by rw[Jw];exact HF4.o,(HBA.o.trans HC2.o).trans (dA.o.trans HC4.o)⟩
def YS(fs:List QaN)(vars:List Int)(t:Int)(a:Nd)(l:List Nd):Qbp fs vars t (a::l)=QbF fs vars t a++Qbp fs vars t l:=by
 rw[Qbp];unfold QbF;rw[List.append_assoc]
def JcB(fs:List QaN)(vars:List Int)(t:Int):∀(l:List Nd) (a:Nd),Qbp fs vars t (l++[a])=Qbp fs vars t l++QbF fs vars t a
 |[],a=>by simp[YS,Qbp]
 |x::l,a=>by rw[List.cons_append,YS,YS,JcB fs vars t l a,List.append_assoc]
def Z2(fs:List QaN)(rb:Nat)(M:Value)(k nn:Int)(s:By)(off:Int)(b c:Nat)(l:List An)(vars:List Int)(vv:Value)(x:Option Int)(t:Int)(w:World)(hk:k≠19)(hl:l.length<=1000000000)(hpre:Qas fs rb M w x vars vv (.mk k nn s off b c l))
  (H:∀y∈l,∀W x',Qas fs rb M W x' vars vv y->Calls prog 57 #[Pt rb,.agg (Qaa y),vv,Iv t] W (TyP W rb M x' (QbF fs vars t y.nd) (.tuple #[]))) :
  Calls prog 145 #[Pt rb,.agg (Qaa (.mk k nn s off b c l)),vv,Iv t] w (TyP w rb M x (Qbp fs vars t (ndL l)) (.tuple #[])):=by
 obtain⟨R,hR⟩:∃R,TyP w rb M x (Qbp fs vars t (ndL l)) (.tuple #[])=R:=⟨_,rfl⟩
 rw[hR];have HR:Hi (R=TyP w rb M x (Qbp fs vars t (ndL l)) (.tuple #[])):=hR.symm;obtain⟨ad,cc,hkv,zA⟩:=Jp b c l
 have vA:Qaa (.mk k nn s off b c l)=#[Iv k,Iv nn,Sv s,Iv off,.slice ad l.length cc]:=by
  show #[_,_,_,_,Qaz b c l]=_
  rw[hkv]
 have yA:Below w.heap.size w (w.alloc (.cells (Qaa (.mk k nn s off b c l)) 127)):=zO.alloc (Nat.le_refl _) _;have HP:=Zh (hpre.up yA);have HBA:=Zh (Chg.of_below yA [rb]);have HH:=Zh H;have HAD:=Zh zA;have HK:=Zh hk;rw[vA]at HP HBA |-;clear hR hpre yA hkv zA vA H hk;go_enter func145,ntmps145;go_wp2_with fail;generalize World.alloc w _=w1 at *;go_loopg [13] l.length λg v13 wr=>∃i:Nat,g+i=l.length/\v13=Iv i/\Hi (Qas fs rb M wr (QaG x (Qbp fs vars t (ndL (l.take i)))) vars vv (.mk k nn s off b c l))/\Hi (Chg [rb] w wr)
 case atStart=>exact⟨0,rfl,rfl,Zh (by simpa[ndL,Qbp,QaG] using HP.o),HBA⟩
 case round=>
 clear HP HBA;obtain⟨wl,rfl⟩:=zJ wr;obtain⟨i,hg,rfl,hp,hc⟩:=hrel
 by_cases hi:i<l.length
 ·have hil:(i:Int)<(l.length:Int):=zo;obtain⟨y,hy⟩:∃y,l[i]?=some y:=⟨l[i],List.getElem?_eq_getElem hi⟩
  have hmem:=List.mem_of_getElem? hy;have had':ad=some ⟨b,0,none⟩:=HAD.o (List.ne_nil_of_mem hmem);have hat:=hp.o.at';unfold An.At at hat;have hcl:=(JW hat.2 hy).1;rw[Nat.zero_add]at hcl;obtain⟨xA,xn,xc,hcf⟩:=Jg y;rw[hcf]at hcl;have c0:=hcl 0 _ rfl;have c1:=hcl 1 _ rfl;have c2:=hcl 2 _ rfl;have c3:=hcl 3 _ rfl;have c4:=hcl 4 _ rfl;simp only[Nat.add_zero]at c0;have wk:=zI i;have hb2:Below wl.heap.size wl (wl.alloc (.cells (Qaa y) 127)):=zO.alloc (Nat.le_refl _) _;have cn:=HH.o y hmem _ _ ((hp.o.up hb2).kid HK.o y hmem);have HP2:=Zh (hp.o.up hb2);have HC2:=Zh (hc.o.trans (Chg.of_below hb2 [rb]));have HTS:Hi (ndL (l.take (i+1))=ndL (l.take i)++[y.nd]):=by rw[Hi,List.take_add_one,hy];exact Vf _ _
  have HG:=Zh hg;rw[hcf]at cn HP2 HC2;subst had';clear hat hcl hcf hb2 hp hc hy hmem HAD hg;go_wp2_with fail;refine cn.mono ?_;rintro e w3 ⟨rfl,uA,hc3⟩
  have HP3:Hi (Qas fs rb M w3 (QaG x (Qbp fs vars t (ndL (l.take (i+1))))) vars vv (.mk k nn s off b c l)):=by
   rw[Hi,HTS.o,JcB,Jw];exact HP2.o.chg hc3 uA
  have HC3:=Zh (HC2.o.trans hc3);clear cn uA hc3 HP2 HC2 c0 c1 c2 c3 c4;go_wp2;go_roundg (l.length-(i+1))
  case measure=>have:=HG.o;omega
  case rel=>exact⟨i+1,by omega,by go_num,HP3,HC3⟩
 ·have hil:¬(i:Int)<(l.length:Int):=zo;obtain rfl:i=l.length:=zo;have hp2:=hp.o;rw[List.take_length]at hp2;have HP2:=Zh hp2;clear hi hg hp hp2;go_wp2;go_end0;rw[HR.o];exact⟨rfl,HP2.o.flt,hc.o⟩
theorem zy{P:Prop}(h:P:=by exact ⟨by rw[List.take_add_one,hy];exact Vf _ _,by rw[Kk,List.length_map,List.length_take,Nat.min_eq_left zo]⟩):P:=h
def JjV{W:World}{rb:Nat}{a:Option Addr}{n c:Nat}{l:List Int}(h:Qbo W rb (.slice a n c) l):n=l.length:=by
 rcases h with⟨rfl,_,_,e⟩|⟨g,o,cc,e,_⟩
 ·injection e
 ·injection e
structure TcI(fs:List QaN)(rb:Nat)(M:Value)(w W:World)(x:Option Int)(vars:List Int)(vv:Value)(a:An)(fb cb:Nat)(fc ac:Array Value)(pv:Value)(ps:List Int):Prop where
 pre:Qas fs rb M W x vars vv a
 chg:Chg [rb] w W
 fbk:W.heap[fb]?=some (.cells fc 41 (0,0))
 cbk:W.heap[cb]?=some (.cells ac 127 (0,0))
 ints:Qbo W rb pv ps
 ne:fb≠rb/\cb≠rb
def TcI.on{fs:List QaN}{rb:Nat}{M:Value}{w W W':World}{x x':Option Int}{vars:List Int}{vv:Value}{a:An}{fb cb:Nat}{fc ac:Array Value}{pv:Value}{ps:List Int}(h:TcI fs rb M w W x vars vv a fb cb fc ac pv ps)(hc:Chg [rb] W W')(hf:QaW W' rb 123 x' M):TcI fs rb M w W' x' vars vv a fb cb fc ac pv ps:=
 ⟨h.pre.chg hc hf,h.chg.trans hc,hc.heap_some (by simp;exact h.ne.1) h.fbk,hc.heap_some (by simp;exact h.ne.2) h.cbk,h.ints.chg hc,h.ne⟩
def TcI.up{fs:List QaN}{rb:Nat}{M:Value}{w W W':World}{x:Option Int}{vars:List Int}{vv:Value}{a:An}{fb cb:Nat}{fc ac:Array Value}{pv:Value}{ps:List Int}(h:TcI fs rb M w W x vars vv a fb cb fc ac pv ps)(hb:Below W.heap.size W W'):TcI fs rb M w W' x vars vv a fb cb fc ac pv ps:=h.on (Chg.of_below hb [rb]) ((hb.block _ (Jb h.pre.flt)).trans h.pre.flt)
def Zs(fs:List QaN)(vars:List Int)(b:Bool):∀(l:List Nd) (ps:List Int) (a:Nd),QcX fs vars b ps (l++[a])=QcX fs vars b ps l++((ofN fs vars a).2++if b=true/\(ofN fs vars a).1≠(ps.drop l.length).headD 0 then [a.off] else [])
 |[],ps,a=>by simp[QcX]
 |x::l,ps,a=>by
  rw[List.cons_append,QcX,Zs fs vars b l ps.tail a,QcX];simp only[List.append_assoc,List.length_cons,List.drop_tail]
def QgI(fs:List QaN)(vars:List Int)(n:Int)(o:Int)(l:List Nd):List Int:=(if l.length≠(fs.getD n.toNat ⟨[],0⟩).params.length then [o] else [])++QcX fs vars (l.length==(fs.getD n.toNat ⟨[],0⟩).params.length) (fs.getD n.toNat ⟨[],0⟩).params l
theorem ux4{P:Prop}(h:P:=by
  try simp only[Act.put,ZA,ZB,ZC]
  refine ZS 7 rfl (λK hK=>?_);have c0:=HCE.o 0 _ rfl;have c1:=HCE.o 1 _ rfl;have c2:=HCE.o 2 _ rfl;have c3:=HCE.o 3 _ rfl;have c4:=HCE.o 4 _ rfl;have c5:=HCE.o 5 _ rfl;have c6:=HCE.o 6 _ rfl;simp only[Nat.add_zero]at c0;go_simp;clear c0 c1 c2 c3 c4 c5 c6;refine hK.out _ _ trivial (λhH=>?_);clear hK K
  try simp only[Act.put,ZA,ZB,ZC]
  refine ZS 9 rfl (λK hK=>?_);have hz:=HFB.o;have z0:=Ja hz 0;have y0:=Jc hz 0;have z1:=Ja hz 1;have y1:=Jc hz 1;have z2:=Ja hz 2;have y2:=Jc hz 2;have z3:=Ja hz 3;have y3:=Jc hz 3;have z4:=Ja hz 4;have y4:=Jc hz 4;have z5:=Ja hz 5;have y5:=Jc hz 5;have z6:=Ja hz 6;have y6:=Jc hz 6;simp only[ZD,ZE,ZF]at z0 z1 z2 z3 z4 z5 z6;have hlz:=Jb hz;clear hz;go_simp;clear hlz z0 y0 z1 y1 z2 y2 z3 y3 z4 y4 z5 y5 z6 y6;refine hK.out _ _ trivial (λhH=>?_);clear hK K
  try simp only[Act.put,ZA,ZB,ZC]
  refine wpAnyH_done (by kernel_rfl) ?_ _;go_wp2_with fail;go_meet
  exact⟨_,rfl,⟨HF1.o,HNE.o.1⟩,HF2.o,HF3.o,HF4.o,HF5.o⟩):P:=h
theorem Qkn{P:Prop}(h:P:=by
  try simp only[Act.put,ZA,ZB,ZC]
  refine ZR (rs:=[7,8]) (AllReadyH.cons rfl (λK hK=>?_) (AllReadyH.cons rfl (λK hK=>?_) AllReadyH.nil))
  ·have c0:=HCE.o 0 _ rfl;have c1:=HCE.o 1 _ rfl;have c2:=HCE.o 2 _ rfl;have c3:=HCE.o 3 _ rfl;have c4:=HCE.o 4 _ rfl;have c5:=HCE.o 5 _ rfl;have c6:=HCE.o 6 _ rfl;simp only[Nat.add_zero]at c0;go_simp;clear c0 c1 c2 c3 c4 c5 c6;refine hK.out _ _ trivial (λhH=>?_);clear hK K
   try simp only[Act.put,ZA,ZB,ZC]
   refine ZS 8 rfl (λK hK=>?_);go_simp;refine hK.out _ _ trivial (λhH=>?_);have hb8:Below w3.heap.size w3 (w3.alloc (.cells #[.string ⟨#[]⟩,.slice none 0 0,Iv 0,Iv 0,Iv 0,.string ⟨#[]⟩,.slice none 0 0] 41)):=zO.alloc (Nat.le_refl _) _;replace HP:=Zh (HP.o.up hb8);replace HCP:=Zh (Jf (X:=.cells #[.string ⟨#[]⟩,.slice none 0 0,Iv 0,Iv 0,Iv 0,.string ⟨#[]⟩,.slice none 0 0] 41) HCP.o);replace HCE:Hi (∀(j:Nat) (u:Value),([.string x0,.slice pa pn pc,Iv sg.result,Iv sk,Iv sn,.string x5,.slice a6 n6 c6]:List Value)[j]?=some u->(w3.alloc (.cells #[.string ⟨#[]⟩,.slice none 0 0,Iv 0,Iv 0,Iv 0,.string ⟨#[]⟩,.slice none 0 0] 41)).cell? ⟨g,go+ix*7+j,none⟩=some u):=λj u hj=>(hb8.cell (World.block_lt_of_cell? _ _ (HCE.o j u hj))).trans (HCE.o j u hj)
   clear hb8;clear hK K
   try simp only[Act.put,ZA,ZB,ZC]
   refine ZS 9 rfl (λK hK=>?_);have hz:=HFB.o;have z0:=Ja hz 0;have y0:=Jc hz 0;have z1:=Ja hz 1;have y1:=Jc hz 1;have z2:=Ja hz 2;have y2:=Jc hz 2;have z3:=Ja hz 3;have y3:=Jc hz 3;have z4:=Ja hz 4;have y4:=Jc hz 4;have z5:=Ja hz 5;have y5:=Jc hz 5;have z6:=Ja hz 6;have y6:=Jc hz 6;simp only[ZD,ZE,ZF]at z0 z1 z2 z3 z4 z5 z6;have hlz:=Jb hz;clear hz;go_simp;clear hlz z0 y0 z1 y1 z2 y2 z3 y3 z4 y4 z5 y5 z6 y6;refine hK.out _ _ trivial (λhH=>?_);clear hK K
   try simp only[Act.put,ZA,ZB,ZC]
   refine wpAnyH_done (by kernel_rfl) ?_ _;go_wp2_with fail;go_meet;exact⟨_,rfl,⟨HF1.o,HNE.o.1⟩,HF2.o,HF3.o,HF4.o,HF5.o⟩
  ·go_simp;refine hK.out _ _ trivial (λhH=>?_);have hb8:Below w3.heap.size w3 (w3.alloc (.cells #[.string ⟨#[]⟩,.slice none 0 0,Iv 0,Iv 0,Iv 0,.string ⟨#[]⟩,.slice none 0 0] 41)):=zO.alloc (Nat.le_refl _) _;replace HP:=Zh (HP.o.up hb8);replace HCP:=Zh (Jf (X:=.cells #[.string ⟨#[]⟩,.slice none 0 0,Iv 0,Iv 0,Iv 0,.string ⟨#[]⟩,.slice none 0 0] 41) HCP.o);replace HCE:Hi (∀(j:Nat) (u:Value),([.string x0,.slice pa pn pc,Iv sg.result,Iv sk,Iv sn,.string x5,.slice a6 n6 c6]:List Value)[j]?=some u->(w3.alloc (.cells #[.string ⟨#[]⟩,.slice none 0 0,Iv 0,Iv 0,Iv 0,.string ⟨#[]⟩,.slice none 0 0] 41)).cell? ⟨g,go+ix*7+j,none⟩=some u):=λj u hj=>(hb8.cell (World.block_lt_of_cell? _ _ (HCE.o j u hj))).trans (HCE.o j u hj)
   clear hb8;clear hK K
   exact ux4):P:=h
theorem QjD{P:Prop}(h:P:=by
  obtain rfl:i=l.length:=by omega
  have ht2:=ht.o;rw[List.take_length]at ht2;have g2:=Ja ht2.fbk 2;simp only[ZD,ZE,ZF]at g2;have HT:=Zh ht2;clear hi hg ht ht2;go_wp2;rw[HR.o,HBB.o.1,HBB.o.2]
  exact⟨rfl,by rw[Jw];exact HT.o.pre.flt,HT.o.chg⟩):P:=h
theorem QhG{P:Prop}(h:P:=by
  go_wp2;go_roundg (l.length-(i+1))
  case measure=>have:=HG.o;omega
  case rel=>exact⟨i+1,by omega,by go_num,by rw[HE.o,Jw];exact HT4.o⟩):P:=h
def Jhs(fs:List QaN)(rb:Nat)(M:Value)(nn:Int)(s:By)(off:Int)(b c:Nat)(l:List An)(vars:List Int)(vv:Value)(x:Option Int)(w:World)(hl:l.length<=1000000000)(hpre:Qas fs rb M w x vars vv (.mk 20 nn s off b c l))(hps:∀s∈fs,s.params.length<=1000000000)
  (H:∀y∈l,∀W x',Qas fs rb M W x' vars vv y->Calls prog 114 #[Pt rb,.agg (Qaa y),vv] W (TyP W rb M x' (ofN fs vars y.nd).2 (Iv (ofN fs vars y.nd).1))) :
  Calls prog 146 #[Pt rb,.agg (Qaa (.mk 20 nn s off b c l)),vv] w (TyP w rb M x (QgI fs vars nn off (ndL l)) (Iv (fs.getD nn.toNat ⟨[],0⟩).result)):=by
 have sA:=hpre.ok;unfold An.nd QdK at sA;obtain⟨hn0,iB⟩:=sA.2.1 rfl;obtain⟨ix,rfl⟩:∃ix:Nat,nn=(ix:Int):=⟨nn.toNat,by omega⟩
 have nA:ix<fs.length:=zo;obtain⟨sg,kA⟩:∃sg,fs[ix]?=some sg:=⟨fs[ix],List.getElem?_eq_getElem nA⟩
 have yB:fs.getD ((ix:Int)).toNat ⟨[],0⟩=sg:=by rw[Int.toNat_natCast,List.getD_eq_getElem?_getD,kA];rfl
 unfold QgI;rw[yB];have rB:=hps sg (List.mem_of_getElem? kA);obtain⟨R,hR⟩:∃R,TyP w rb M x ((if (ndL l).length≠sg.params.length then [off] else [])++QcX fs vars ((ndL l).length==sg.params.length) sg.params (ndL l)) (Iv sg.result)=R:=⟨_,rfl⟩
 rw[hR];have HR:Hi (R=TyP w rb M x ((if (ndL l).length≠sg.params.length then [off] else [])++QcX fs vars ((ndL l).length==sg.params.length) sg.params (ndL l)) (Iv sg.result)):=hR.symm;obtain⟨ad,cc,hkv,uB⟩:=Jp b c l
 have cB:Qaa (.mk 20 (ix:Int) s off b c l)=#[Iv 20,Iv (ix:Nat),Sv s,Iv off,.slice ad l.length cc]:=by
  show #[_,_,_,_,Qaz b c l]=_
  rw[hkv]
 have tA:Below w.heap.size w (w.alloc (.cells (Qaa (.mk 20 (ix:Int) s off b c l)) 127)):=zO.alloc zP _;have HP:=Zh (hpre.up tA);have HBA:=Zh (Chg.of_below tA [rb]);have HCP:=Zh (zQ w (.cells (Qaa (.mk 20 (ix:Int) s off b c l)) 127));have mB:=Jb hpre.flt;have hcb:w.heap.size≠rb:=zo;have HH:=Zh H;have HAD:=Zh uB;have aB:=Zh kA;rw[cB]at HP HBA HCP |-;clear hR hpre tA hkv uB cB H kA yB hps sA hn0 iB mB;go_enter func146,ntmps146;go_upto_region 1 with fail;generalize World.alloc w _=w1 at *;generalize w.heap.size=cb at *;obtain⟨ma,mc,hM,vB⟩:=HP.o.sigs;obtain⟨g,go,jB,sB,hrow⟩:=vB (by intro e;rw[e]at nA;exact absurd nA zq);obtain⟨x0,pv,sk,sn,x5,a6,n6,c6,xB,bB⟩:=hrow ix sg aB.o;have hB:(ix:Int)<(fs.length:Int):=zo;subst jB;have HM:Hi (M=.slice (some ⟨g,go,none⟩) fs.length mc):=hM;have zB:=Zh xB;have HCE:=Zh bB;obtain⟨pa,pn,pc,nB⟩:∃pa pn pc,pv=.slice pa pn pc:=by rcases xB with⟨_,_,_,e⟩|⟨_,_,_,e,_⟩<;>exact⟨_,_,_,e⟩
 subst nB;clear hM vB hrow xB bB;go_cut [7] λv7 wx=>∃fb,v7=Pt fb/\Hi (wx.heap[fb]?=some (.cells #[.string x0,.slice pa pn pc,Iv sg.result,Iv sk,Iv sn,.string x5,.slice a6 n6 c6] 41 (0,0))/\fb≠rb)/\Hi (Qas fs rb M wx x vars vv (.mk 20 (ix:Int) s off b c l))/\Hi (Chg [rb] w wx)/\Hi (wx.heap[cb]?=some (.cells #[Iv 20,Iv (ix:Nat),Sv s,Iv off,.slice ad l.length cc] 127 (0,0)))/\Hi (Qbo wx rb (.slice pa pn pc) sg.params)
 case first=>
  clear HH HAD;refine wp_region_held_drew (S:=λ_=>True) zk (trivial) λhH=>?_;have cA:Below w1.heap.size w1 w1.drew:=(Below.refl w1.heap.size w1).drew;replace HP:=Zh (HP.o.up cA);replace HBA:=Zh (HBA.o.trans (Chg.of_below cA [rb]));replace HCP:=Zh ((cA.block _ (Jb HCP.o)).trans HCP.o);replace HCE:Hi (∀(j:Nat) (u:Value),([.string x0,.slice pa pn pc,Iv sg.result,Iv sk,Iv sn,.string x5,.slice a6 n6 c6]:List Value)[j]?=some u->w1.drew.cell? ⟨g,go+ix*7+j,none⟩=some u):=HCE.o;have HD3:=Zh (Chg.of_below cA [rb]);clear cA;generalize w1.drew=w3 at *;have HNE:Hi (w3.heap.size≠rb/\True):=⟨by have:=Jb HP.o.flt;omega,trivial⟩
  have HFB:Hi ((w3.alloc (.cells #[Em,Nl,Iv 0,Iv 0,Iv 0,Em,Nl] 41)).heap[w3.heap.size]?=some (.cells #[Em,Nl,Iv 0,Iv 0,Iv 0,Em,Nl] 41)):=zQ _ _;have dA:Below w3.heap.size w3 (w3.alloc (.cells #[.string x0,.slice pa pn pc,Iv sg.result,Iv sk,Iv sn,.string x5,.slice a6 n6 c6] 41)):=zO.alloc zP _;have HF1:=Zh (zQ w3 (.cells #[.string x0,.slice pa pn pc,Iv sg.result,Iv sk,Iv sn,.string x5,.slice a6 n6 c6] 41));have HF2:=Zh (HP.o.up dA);have HF3:=Zh (HBA.o.trans (Chg.of_below dA [rb]));have HF4:=Zh ((dA.block _ (Jb HCP.o)).trans HCP.o);have HF5:=Zh (zB.o.chg (HD3.o.trans (Chg.of_below dA [rb])));clear dA;refine zK 0 ?_
  try simp only[zX]
  refine zK 1 ?_;try simp only[zX]
  refine zK 2 ?_;try simp only[zX]
  refine zK 4 ?_;try simp only[zX]
  refine ZR (rs:=[3,5,8]) (AllReadyH.cons rfl (λK hK=>?_) (AllReadyH.cons rfl (λK hK=>?_) (AllReadyH.cons rfl (λK hK=>?_) AllReadyH.nil)))
  ·have r2:=Ja HP.o.flt 2;rw[HM.o]at r2;simp only[zW]at r2;go_simp;clear r2;refine zU hK trivial λhH=>?_;clear hK K
   try simp only[zX]
   refine ZR (rs:=[5,8]) (AllReadyH.cons rfl (λK hK=>?_) (AllReadyH.cons rfl (λK hK=>?_) AllReadyH.nil))
   ·have n1:=Ja HCP.o 1;simp only[zW]at n1;go_simp;clear n1;refine zU hK trivial λhH=>?_;clear hK K
    try simp only[zX]
    refine zK 6 ?_
    exact Qkn
   ·go_simp;refine zU hK trivial λhH=>?_;have hb8:Below w3.heap.size w3 (w3.alloc (.cells #[Em,Nl,Iv 0,Iv 0,Iv 0,Em,Nl] 41)):=zO.alloc zP _;replace HP:=Zh (HP.o.up hb8);replace HCP:=Zh (Jf (X:=.cells #[Em,Nl,Iv 0,Iv 0,Iv 0,Em,Nl] 41) HCP.o);replace HCE:Hi (∀(j:Nat) (u:Value),([.string x0,.slice pa pn pc,Iv sg.result,Iv sk,Iv sn,.string x5,.slice a6 n6 c6]:List Value)[j]?=some u->(w3.alloc (.cells #[Em,Nl,Iv 0,Iv 0,Iv 0,Em,Nl] 41)).cell? ⟨g,go+ix*7+j,none⟩=some u):=λj u hj=>(hb8.cell (World.block_lt_of_cell? _ _ (HCE.o j u hj))).trans (HCE.o j u hj)
    clear hb8;clear hK K
    try simp only[zX]
    refine ZS 5 rfl λK hK=>?_;have n1:=Ja HCP.o 1;simp only[zW]at n1;go_simp;clear n1;refine zU hK trivial λhH=>?_;clear hK K
    try simp only[zX]
    refine zK 6 ?_
    exact ux4
  ·have n1:=Ja HCP.o 1;simp only[zW]at n1;go_simp;clear n1;refine zU hK trivial λhH=>?_;clear hK K
   try simp only[zX]
   refine ZR (rs:=[3,8]) (AllReadyH.cons rfl (λK hK=>?_) (AllReadyH.cons rfl (λK hK=>?_) AllReadyH.nil))
   ·have r2:=Ja HP.o.flt 2;rw[HM.o]at r2;simp only[zW]at r2;go_simp;clear r2;refine zU hK trivial λhH=>?_;clear hK K
    try simp only[zX]
    refine zK 6 ?_
    exact Qkn
   ·go_simp;refine zU hK trivial λhH=>?_;have hb8:Below w3.heap.size w3 (w3.alloc (.cells #[Em,Nl,Iv 0,Iv 0,Iv 0,Em,Nl] 41)):=zO.alloc zP _;replace HP:=Zh (HP.o.up hb8);replace HCP:=Zh (Jf (X:=.cells #[Em,Nl,Iv 0,Iv 0,Iv 0,Em,Nl] 41) HCP.o);replace HCE:Hi (∀(j:Nat) (u:Value),([.string x0,.slice pa pn pc,Iv sg.result,Iv sk,Iv sn,.string x5,.slice a6 n6 c6]:List Value)[j]?=some u->(w3.alloc (.cells #[Em,Nl,Iv 0,Iv 0,Iv 0,Em,Nl] 41)).cell? ⟨g,go+ix*7+j,none⟩=some u):=λj u hj=>(hb8.cell (World.block_lt_of_cell? _ _ (HCE.o j u hj))).trans (HCE.o j u hj)
    clear hb8;clear hK K
    try simp only[zX]
    refine ZS 3 rfl λK hK=>?_;have r2:=Ja HP.o.flt 2;rw[HM.o]at r2;simp only[zW]at r2;go_simp;clear r2;refine zU hK trivial λhH=>?_;clear hK K
    try simp only[zX]
    refine zK 6 ?_
    exact ux4
  ·go_simp;refine zU hK trivial λhH=>?_;have hb8:Below w3.heap.size w3 (w3.alloc (.cells #[Em,Nl,Iv 0,Iv 0,Iv 0,Em,Nl] 41)):=zO.alloc zP _;replace HP:=Zh (HP.o.up hb8);replace HCP:=Zh (Jf (X:=.cells #[Em,Nl,Iv 0,Iv 0,Iv 0,Em,Nl] 41) HCP.o);replace HCE:Hi (∀(j:Nat) (u:Value),([.string x0,.slice pa pn pc,Iv sg.result,Iv sk,Iv sn,.string x5,.slice a6 n6 c6]:List Value)[j]?=some u->(w3.alloc (.cells #[Em,Nl,Iv 0,Iv 0,Iv 0,Em,Nl] 41)).cell? ⟨g,go+ix*7+j,none⟩=some u):=λj u hj=>(hb8.cell (World.block_lt_of_cell? _ _ (HCE.o j u hj))).trans (HCE.o j u hj)
   clear hb8;clear hK K
   try simp only[zX]
   refine ZR (rs:=[3,5]) (AllReadyH.cons rfl (λK hK=>?_) (AllReadyH.cons rfl (λK hK=>?_) AllReadyH.nil))
   ·have r2:=Ja HP.o.flt 2;rw[HM.o]at r2;simp only[zW]at r2;go_simp;clear r2;refine zU hK trivial λhH=>?_;clear hK K
    try simp only[zX]
    refine ZS 5 rfl λK hK=>?_;have n1:=Ja HCP.o 1;simp only[zW]at n1;go_simp;clear n1;refine zU hK trivial λhH=>?_;clear hK K
    try simp only[zX]
    refine zK 6 ?_
    exact ux4
   ·have n1:=Ja HCP.o 1;simp only[zW]at n1;go_simp;clear n1;refine zU hK trivial λhH=>?_;clear hK K
    try simp only[zX]
    refine ZS 3 rfl λK hK=>?_;have r2:=Ja HP.o.flt 2;rw[HM.o]at r2;simp only[zW]at r2;go_simp;clear r2;refine zU hK trivial λhH=>?_;clear hK K
    try simp only[zX]
    refine zK 6 ?_
    exact ux4
 case rest=>
 obtain⟨fb,rfl,eA,hp,hc,hcp,uA⟩:=hcut;have dB:=JjV uA.o;have xA:Hi (TcI fs rb M w wc x vars vv (.mk 20 (ix:Int) s off b c l) fb cb #[.string x0,.slice pa pn pc,Iv sg.result,Iv sk,Iv sn,.string x5,.slice a6 n6 c6] #[Iv 20,Iv (ix:Nat),Sv s,Iv off,.slice ad l.length cc] (.slice pa pn pc) sg.params):=⟨hp.o,hc.o,eA.o.1,hcp.o,uA.o,eA.o.2,hcb⟩
 have pA:=Zh dB;have eB:=eA.o.2;have n4:=Ja hcp.o 4;have g1:=Ja eA.o.1 1;simp only[zW]at n4 g1;have hA:(ndL l).length=l.length:=by rw[Kk,List.length_map]
 rw[hA]at HR;clear eA hp hc hcp uA dB zB HCE aB HM HBA HP HCP hA
 by_cases hlp:l.length=pn
 ·subst hlp;have d1:((l.length:Int) !=(l.length:Int))=false:=zq;have d2:((l.length:Int)==(l.length:Int))=true:=zq;have HBB:Hi ((l.length==sg.params.length)=true/\(if l.length≠sg.params.length then [off] else [])=[]):=by rw[Hi,<- pA.o];simp
  go_upto_region 4 with fail;clear n4 g1;have gA:=Ja xA.o.cbk 4;simp only[zW]at gA;go_wp2_with fail;clear gA;go_loopg [35] l.length λg v35 wr=>∃i:Nat,g+i=l.length/\v35=Iv i/\Hi (TcI fs rb M w wr (QaG (x) (QcX fs vars true sg.params (ndL (l.take i)))) vars vv (.mk 20 (ix:Int) s off b c l) fb cb #[.string x0,.slice pa l.length pc,Iv sg.result,Iv sk,Iv sn,.string x5,.slice a6 n6 c6] #[Iv 20,Iv (ix:Nat),Sv s,Iv off,.slice ad l.length cc] (.slice pa l.length pc) sg.params)
  case atStart=>exact⟨0,rfl,rfl,Zh (by simpa[ndL,QcX,QaG] using xA.o)⟩
  case round=>
  clear xA;obtain⟨wl,rfl⟩:=zJ wr;obtain⟨i,hg,rfl,ht⟩:=hrel
  by_cases hi:i<l.length
  ·have hil:(i:Int)<(l.length:Int):=zo;obtain⟨y,hy⟩:∃y,l[i]?=some y:=⟨l[i],List.getElem?_eq_getElem hi⟩
   have hmem:=List.mem_of_getElem? hy;have had':ad=some ⟨b,0,none⟩:=HAD.o (List.ne_nil_of_mem hmem);have hat:=ht.o.pre.at';unfold An.At at hat;have hcl:=(JW hat.2 hy).1;rw[Nat.zero_add]at hcl;obtain⟨yA,yn,yc,hcf⟩:=Jg y;rw[hcf]at hcl;have c0:=hcl 0 _ rfl;have c1:=hcl 1 _ rfl;have c2:=hcl 2 _ rfl;have c3:=hcl 3 _ rfl;have c4:=hcl 4 _ rfl;simp only[add_zero]at c0;have wk:=zI i;have hb2:Below wl.heap.size wl (wl.alloc (.cells (Qaa y) 127)):=zO.alloc zP _;have rA:wl.heap.size≠rb:=by have:=Jb ht.o.pre.flt;omega
   have cn:=HH.o y hmem _ _ ((ht.o.pre.up hb2).kid zp y hmem);have HT2:=Zh (ht.o.up hb2);have aA:=Zh (zQ wl (.cells (Qaa y) 127));have HTS:Hi (ndL (l.take (i+1))=ndL (l.take i)++[y.nd]/\(ndL (l.take i)).length=i):=zy
   have HG:=Zh hg;have HOF:=Zh (ZK y);rw[hcf]at cn HT2 aA;obtain⟨r,hr⟩:∃r,ofN fs vars y.nd=r:=⟨_,rfl⟩
   have mA:=Zh hr;rw[hr]at cn;obtain⟨ty,es⟩:=r;dsimp only at cn;subst had';clear hat hcl hcf hb2 ht hy hmem HAD hg hr;go_wp2_with fail;generalize World.alloc wl _=w3 at *;generalize wl.heap.size=kb at *;refine cn.mono ?_;rintro e w4 ⟨rfl,bA,vA⟩;have HT4:=Zh (HT2.o.on vA bA);have zA:=Zh (vA.heap_some (by simp;exact rA) aA.o);have m4:=Ja HT4.o.cbk 4;have g4:=Ja HT4.o.fbk 1;simp only[zW]at m4 g4;clear cn bA vA HT2 aA c0 c1 c2 c3 c4;have iA:i<sg.params.length:=by rw[<- pA.o];omega
   obtain⟨pi,qA⟩:∃pi,sg.params[i]?=some pi:=⟨sg.params[i],List.getElem?_eq_getElem iA⟩
   have jA:(sg.params.drop i).headD 0=pi:=by rw[List.drop_eq_getElem_cons iA];exact(List.getElem?_eq_some_iff.1 qA).2
   obtain⟨g2,o2,pB,gB⟩:∃g2 o2,pa=some ⟨g2,o2,none⟩/\w4.cell? ⟨g2,o2+i,none⟩=some (Iv pi):=by
    rcases HT4.o.ints with⟨e,_⟩|⟨g2,o2,c2,e,_,_,_,e5⟩
    ·rw[e]at iA;exact absurd iA zq
    ·injection e with e1;exact⟨g2,o2,e1,e5 i pi qA⟩
   subst pB;clear qA iA
   by_cases hty:ty=pi
   ·subst hty;have d3:(ty !=ty)=false:=zq;have HE:Hi (QcX fs vars true sg.params (ndL (l.take (i+1)))=QcX fs vars true sg.params (ndL (l.take i))++es):=by rw[Hi,HTS.o.1,Zs,HTS.o.2,mA.o,jA];simp
    clear jA;exact QhG
   ·have d3:(ty !=pi)=true:=bne_iff_ne.2 hty;have HE:Hi (QcX fs vars true sg.params (ndL (l.take (i+1)))=QcX fs vars true sg.params (ndL (l.take i))++(es++[y.off])):=by rw[Hi,HTS.o.1,Zs,HTS.o.2,mA.o,jA,HOF.o];simp[hty]
    clear jA hty;go_upto_region 9 with fail;clear m4 g4 gB;refine wp_region_held_drew (S:=λ_=>True) zk (trivial) λhH=>?_;have hD:Below w4.heap.size w4 w4.drew:=(Below.refl w4.heap.size w4).drew;replace HT4:=Zh (HT4.o.up hD);replace zA:=Zh ((hD.block _ (Jb zA.o)).trans zA.o);clear hD;generalize w4.drew=w5 at *;refine zK 0 ?_
    try simp only[zX]
    refine zK 1 ?_;try simp only[zX]
    refine zK 2 ?_;try simp only[zX]
    refine zK 3 ?_;try simp only[zX]
    refine ZS 4 rfl λK hK=>?_;have n3:=Ja zA.o 3;simp only[zW]at n3;go_simp;clear n3;refine zU hK trivial λhH=>?_;clear hK K
    try simp only[zX]
    refine ZS 5 rfl λK hK=>?_
    (go_simp;go_at_call 96;refine(V7 _ rb 123 _ M y.off HT4.o.pre.flt).mono ?_;intro e w6 h6)
    obtain⟨he6,hf6,hc6⟩:=h6;subst he6;have qB:=Zh (HT4.o.on hc6 hf6);clear hf6 hc6 HT4;refine zU hK trivial λhH=>?_;clear hK K
    try simp only[zX]
    refine wpAnyH_done zk ?_ _;go_wp2;go_roundg (l.length-(i+1))
    case measure=>have:=HG.o;omega
    case rel=>exact⟨i+1,by omega,by go_num,by rw[HE.o,Jw,Jw];exact qB.o⟩
  ·have hil:¬(i:Int)<(l.length:Int):=zo;exact QjD
 ·have d1:((l.length:Int) !=(pn:Int))=true:=by simp only[bne_iff_ne,ne_eq];omega
  have d2:((l.length:Int)==(pn:Int))=false:=by rw[beq_eq_false_iff_ne];omega
  have HBB:Hi ((l.length==sg.params.length)=false/\(if l.length≠sg.params.length then [off] else [])=[off]):=by rw[Hi,<- pA.o];exact⟨by rw[beq_eq_false_iff_ne];exact hlp,if_pos hlp⟩
  clear hlp;go_upto_region 3 with fail;clear n4 g1;refine wp_region_held_drew (S:=λ_=>True) zk (trivial) λhH=>?_;have hD:Below wc.heap.size wc wc.drew:=(Below.refl wc.heap.size wc).drew;replace xA:=Zh (xA.o.up hD);clear hD;generalize wc.drew=w1b at *;refine zK 0 ?_
  try simp only[zX]
  refine zK 1 ?_;try simp only[zX]
  refine zK 2 ?_;try simp only[zX]
  refine zK 3 ?_;try simp only[zX]
  refine ZS 4 rfl λK hK=>?_;have n3:=Ja xA.o.cbk 3;simp only[zW]at n3;go_simp;clear n3;refine zU hK trivial λhH=>?_;clear hK K
  try simp only[zX]
  refine ZS 5 rfl λK hK=>?_
  (go_simp;go_at_call 96;refine(V7 _ rb 123 _ M off xA.o.pre.flt).mono ?_;intro e w2 h2)
  obtain⟨kB,hf2,hc2⟩:=h2;subst kB;replace xA:=Zh (xA.o.on hc2 hf2);clear hf2 hc2;refine zU hK trivial λhH=>?_;clear hK K
  try simp only[zX]
  refine wpAnyH_done zk ?_ _;have gA:=Ja xA.o.cbk 4;simp only[zW]at gA;go_wp2_with fail;clear gA;go_loopg [35] l.length λg v35 wr=>∃i:Nat,g+i=l.length/\v35=Iv i/\Hi (TcI fs rb M w wr (QaG (QaG x [off]) (QcX fs vars false sg.params (ndL (l.take i)))) vars vv (.mk 20 (ix:Int) s off b c l) fb cb #[.string x0,.slice pa pn pc,Iv sg.result,Iv sk,Iv sn,.string x5,.slice a6 n6 c6] #[Iv 20,Iv (ix:Nat),Sv s,Iv off,.slice ad l.length cc] (.slice pa pn pc) sg.params)
  case atStart=>exact⟨0,rfl,rfl,Zh (by simpa[ndL,QcX,QaG] using xA.o)⟩
  case round=>
  clear xA;obtain⟨wl,rfl⟩:=zJ wr;obtain⟨i,hg,rfl,ht⟩:=hrel
  by_cases hi:i<l.length
  ·have hil:(i:Int)<(l.length:Int):=zo;obtain⟨y,hy⟩:∃y,l[i]?=some y:=⟨l[i],List.getElem?_eq_getElem hi⟩
   have hmem:=List.mem_of_getElem? hy;have had':ad=some ⟨b,0,none⟩:=HAD.o (List.ne_nil_of_mem hmem);have hat:=ht.o.pre.at';unfold An.At at hat;have hcl:=(JW hat.2 hy).1;rw[Nat.zero_add]at hcl;obtain⟨yA,yn,yc,hcf⟩:=Jg y;rw[hcf]at hcl;have c0:=hcl 0 _ rfl;have c1:=hcl 1 _ rfl;have c2:=hcl 2 _ rfl;have c3:=hcl 3 _ rfl;have c4:=hcl 4 _ rfl;simp only[add_zero]at c0;have wk:=zI i;have hb2:Below wl.heap.size wl (wl.alloc (.cells (Qaa y) 127)):=zO.alloc zP _;have rA:wl.heap.size≠rb:=by have:=Jb ht.o.pre.flt;omega
   have cn:=HH.o y hmem _ _ ((ht.o.pre.up hb2).kid zp y hmem);have HT2:=Zh (ht.o.up hb2);have aA:=Zh (zQ wl (.cells (Qaa y) 127));have HTS:Hi (ndL (l.take (i+1))=ndL (l.take i)++[y.nd]/\(ndL (l.take i)).length=i):=zy
   have HG:=Zh hg;have HOF:=Zh (ZK y);rw[hcf]at cn HT2 aA;obtain⟨r,hr⟩:∃r,ofN fs vars y.nd=r:=⟨_,rfl⟩
   have mA:=Zh hr;rw[hr]at cn;obtain⟨ty,es⟩:=r;dsimp only at cn;subst had';clear hat hcl hcf hb2 ht hy hmem HAD hg hr;go_wp2_with fail;generalize World.alloc wl _=w3 at *;generalize wl.heap.size=kb at *;refine cn.mono ?_;rintro e w4 ⟨rfl,bA,vA⟩;have HT4:=Zh (HT2.o.on vA bA);have zA:=Zh (vA.heap_some (by simp;exact rA) aA.o);have m4:=Ja HT4.o.cbk 4;have g4:=Ja HT4.o.fbk 1;simp only[zW]at m4 g4;clear cn bA vA HT2 aA c0 c1 c2 c3 c4;have HE:Hi (QcX fs vars false sg.params (ndL (l.take (i+1)))=QcX fs vars false sg.params (ndL (l.take i))++es):=by rw[Hi,HTS.o.1,Zs,mA.o];simp
   exact QhG
  ·have hil:¬(i:Int)<(l.length:Int):=zo;exact QjD
end Go.Proofs.YtfafpklefknomaaGreatDoor
