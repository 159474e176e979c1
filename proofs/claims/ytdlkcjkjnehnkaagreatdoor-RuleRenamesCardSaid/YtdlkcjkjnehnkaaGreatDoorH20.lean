import Derived.Test.YtdlkcjkjnehnkaaGreatDoorH17
open List(ne_nil_of_mem)
open Nat(add_zero)
namespace Go.Proofs.YtdlkcjkjnehnkaaGreatDoor
open Go.ChangeShapes Go.WideShapes Go.ChangeAt Go.RowKit Go.Lib
open _root_.Go.Proofs.Tryz
set_option linter.all false
set_option maxRecDepth 100000
set_option maxHeartbeats 32000000
def QbZ(W:World)(rb:Nat)(v:Value)(l:List Int):Prop:=
 (l=[]/\∃ ad cc,v=.slice ad 0 cc)\/∃ g o cc,v=.slice (some ⟨g,o,none⟩) l.length cc/\l.length<=cc/\g≠rb/\g<W.heap.size/\∀ i n,l[i]?=some n->W.cell? ⟨g,o+i,none⟩=some (.int .i64 n)
theorem QbZ.chg{W W':World}{rb:Nat}{v:Value}{l:List Int}(h:QbZ W rb v l)(hc:Chg [rb] W W'):QbZ W' rb v l:=by
 refine h.imp id ?_;rintro⟨g,o,cc,h1,h2,h3,h4,h5⟩;exact⟨g,o,cc,h1,h2,h3,Nat.lt_of_lt_of_le h4 hc.size,fun i n hi=>hc.cell_some (p:=⟨g,o+i,none⟩) (by simpa using h3) (h5 i n hi)⟩
def Qdf(W:World)(rb:Nat)(M:Value)(fs:List Qbn):Prop:=
 ∃ ad cc,M=.slice ad fs.length cc/\(fs≠[]->∃ g o,ad=some ⟨g,o,none⟩/\g≠rb/\∀ i s,fs[i]?=some s->∃ x0 pv k n x5 a6 n6 c6,QbZ W rb pv s.params/\
  ∀ j u,([.string x0,pv,.int .i64 s.result,.int .i64 k,.int .i64 n,.string x5,.slice a6 n6 c6]:List Value)[j]?=some u->W.cell? ⟨g,o+i*7+j,none⟩=some u)
theorem Qdf.chg{W W':World}{rb:Nat}{M:Value}{fs:List Qbn}(h:Qdf W rb M fs)(hc:Chg [rb] W W'):Qdf W' rb M fs:=by
 obtain⟨ad,cc,h1,h2⟩:=h;refine⟨ad,cc,h1,fun hne=>?_⟩;obtain⟨g,o,h3,h4,h5⟩:=h2 hne;refine⟨g,o,h3,h4,fun i s hs=>?_⟩;obtain⟨x0,pv,k,n,x5,a6,n6,c6,h6,h7⟩:=h5 i s hs;exact⟨x0,pv,k,n,x5,a6,n6,c6,h6.chg hc,fun j u hu=>hc.cell_some (p:=⟨g,o+i*7+j,none⟩) (by simpa using h4) (h7 j u hu)⟩
mutual
def QdW(nf:Nat):Nat->Nd->Prop
 |nv,.mk k n s o l=>(k=2->0<=n/\n<nv)/\(k=20->0<=n/\n<nf)/\(match k==19,l with|true,[a,b]=>QdW nf nv a/\QdW nf (nv+1) b|_,l=>QdV nf nv l)
def QdV(nf:Nat):Nat->List Nd->Prop
 |_,[]=>True
 |nv,a::l=>QdW nf nv a/\QdV nf nv l
end
theorem JfU{nf nv:Nat}{l:List Nd}(h:QdV nf nv l):∀ a∈l,QdW nf nv a:=by
 induction l with
 |nil=>intro a ha;cases ha
 |cons x r ih=>
  unfold QdV at h;exact Qlu
structure Qas(fs:List Qbn)(rb:Nat)(M:Value)(W:World)(x:Option Int)(vars:List Int)(vv:Value)(a:An):Prop where
 at':a.At W
 rf:rb∉foot a
 flt:Qba W rb 99 x M
 sigs:Qdf W rb M fs
 ints:QbZ W rb vv vars
 ok:QdW fs.length vars.length a.nd
 wf:WfN a.nd
theorem Qas.chg{fs:List Qbn}{rb:Nat}{M:Value}{W W':World}{x x':Option Int}{vars:List Int}{vv:Value}{a:An}(h:Qas fs rb M W x vars vv a)(hc:Chg [rb] W W')(hf:Qba W' rb 99 x' M):Qas fs rb M W' x' vars vv a:=
 ⟨JJ a h.at' fun b hb=>hc.block b (Jbn a h.at' b hb) (by simp;intro e;subst e;exact h.rf hb),h.rf,hf,h.sigs.chg hc,h.ints.chg hc,h.ok,h.wf⟩
theorem Qas.up{fs:List Qbn}{rb:Nat}{M:Value}{W W':World}{x:Option Int}{vars:List Int}{vv:Value}{a:An}(h:Qas fs rb M W x vars vv a)(hb:Below W.heap.size W W'):Qas fs rb M W' x vars vv a:=
 h.chg (Chg.of_below hb [rb]) ((hb.block _ (Jb h.flt)).trans h.flt)
theorem Qas.kid{fs:List Qbn}{rb:Nat}{M:Value}{W:World}{x:Option Int}{vars:List Int}{vv:Value}{k n:Int}{s:List UInt8}{off:Int}{b c:Nat}{l:List An}(h:Qas fs rb M W x vars vv (.mk k n s off b c l))(hk:k≠19):∀ y∈l,Qas fs rb M W x vars vv y:=by
 intro y hy;obtain⟨i,hi⟩:=List.getElem?_of_mem hy;have hat:=h.at';unfold An.At at hat;have hrf:=h.rf;rw[KP,if_neg (ne_nil_of_mem hy)]at hrf;have hok:=h.ok;unfold An.nd QdW at hok;have hok2:=hok.2.2;rw[zzq hk]at hok2;have hwf:=h.wf;unfold An.nd WfN at hwf;have hmem:y.nd∈ndL l:=by rw[Kj];exact List.mem_map.2 ⟨y,hy,rfl⟩
 exact⟨(JT hat.2 hi).2,fun hm=>hrf (List.mem_cons_of_mem _ (JB hy _ hm)),h.flt,h.sigs,h.ints,JfU hok2 _ hmem,JaB hwf.2.2.2.2 _ hmem⟩
def TyP(w:World)(rb:Nat)(M:Value)(x:Option Int)(errs:List Int)(v:Value)(e:Ending)(w':World):Prop:=e=.returned v/\Qba w' rb 99 (QaK x errs) M/\Chg [rb] w w'
def Qbz(fs:List Qbn)(vars:List Int)(t:Int)(a:Nd):List Int:=(ofN fs vars a).2++if (ofN fs vars a).1≠t then [a.off] else []
theorem JH(fs:List Qbn)(rb:Nat)(M:Value)(a:An)(vars:List Int)(vv:Value)(x:Option Int)(t:Int)(w:World)(hpre:Qas fs rb M w x vars vv a)
  (H:∀ W,Qas fs rb M W x vars vv a->Calls prog 85 #[.pointer (some ⟨rb,0,none⟩),.agg (Qaa a),vv] W (TyP W rb M x (ofN fs vars a.nd).2 (.int .i64 (ofN fs vars a.nd).1))) :
  Calls prog 55 #[.pointer (some ⟨rb,0,none⟩),.agg (Qaa a),vv,.int .i64 t] w (TyP w rb M x (Qbz fs vars t a.nd) (.tuple #[])):=by
 obtain⟨R,hR⟩:∃ R,TyP w rb M x (Qbz fs vars t a.nd) (.tuple #[])=R:=⟨_,rfl⟩
 rw[hR];have HR:Hid (R=TyP w rb M x (Qbz fs vars t a.nd) (.tuple #[])):=hR.symm;have hbA:Below w.heap.size w (w.alloc (.cells (Qaa a) 103)):=zzb.alloc zzl _;have co:=H _ (hpre.up hbA);have HCP:=Zh (zzw w (.cells (Qaa a) 103));have HBA:=Zh (Chg.of_below hbA [rb]);have hrl:=Jb hpre.flt;obtain⟨xA,xn,xc,hcf⟩:=Jf a;obtain⟨r,hr⟩:∃ r,ofN fs vars a.nd=r:=⟨_,rfl⟩
 have HRR:=Zh hr;rw[hr]at co;obtain⟨ty,es⟩:=r;dsimp only at co;rw[hcf]at co HCP HBA |-;have hoff:a.nd.off=a.off:=Y4 a;have HOF:=Zh hoff;clear hR hpre H hbA hcf hr hoff;go_enter func55,ntmps55;go_wp2_with fail;generalize World.alloc w _=w1 at *;have hcb:w.heap.size≠rb:=by omega
 generalize w.heap.size=cb at *;refine co.mono ?_;rintro e w2 ⟨rfl,hf2,hc2⟩;have HF2:=Zh hf2;have HC2:=Zh hc2;have hcp2:=hc2.heap_some (by simp;exact hcb) HCP.out;have HCP2:=Zh hcp2;clear co hf2 hc2 hcp2 HCP
 by_cases ht:ty=t
 ·subst ht;have d1:(ty !=ty)=false:=by simp
  have HE:Hid (Qbz fs vars ty a.nd=es):=by unfold Qbz Hid;rw[HRR.out];simp
  go_wp2;go_end0;rw[HR.out,HE.out];exact⟨rfl,HF2.out,HBA.out.trans HC2.out⟩
 ·have d1:(ty !=t)=true:=bne_iff_ne.2 ht;have HE:Hid (Qbz fs vars t a.nd=es++[a.off]):=by unfold Qbz Hid;rw[HRR.out,HOF.out];simp[ht]
  clear ht;go_upto_region 2 with fail;refine wp_region_held_drew (S:=fun _=>True) (by kernel_rfl) (trivial) (fun hH=>?_);have hD:Below w2.heap.size w2 w2.drew:=(Below.refl w2.heap.size w2).drew;have HCD:=Zh (Chg.of_below hD [rb]);replace HF2:=Zh ((hD.block _ (Jb HF2.out)).trans HF2.out);replace HCP2:=Zh ((hD.block _ (Jb HCP2.out)).trans HCP2.out);clear hD;generalize w2.drew=w3 at *;refine ZT (i:=0) (v:=?vT1_0) rfl (Or.inl ⟨by rfl,?yT1_0⟩) ?_
  case yT1_0=>exact ZyQ
  try simp only[Act.put,ZA,ZB,ZC]
  refine ZT (i:=1) (v:=?vT1_1) rfl (Or.inl ⟨by rfl,?yT1_1⟩) ?_
  case yT1_1=>exact ZyQ
  try simp only[Act.put,ZA,ZB,ZC]
  refine ZT (i:=2) (v:=?vT1_2) rfl (Or.inl ⟨by rfl,?yT1_2⟩) ?_
  case yT1_2=>exact ZyQ
  try simp only[Act.put,ZA,ZB,ZC]
  refine ZT (i:=3) (v:=?vT1_3) rfl (Or.inl ⟨by rfl,?yT1_3⟩) ?_
  case yT1_3=>exact ZyQ
  try simp only[Act.put,ZA,ZB,ZC]
  refine ZS 4 rfl (fun K hK=>?_);have n3:=Ja HCP2.out 3;simp only[ZD,ZE,ZF]at n3;go_simp;clear n3;refine hK.out _ _ trivial (fun hH=>?_);clear hK K
  try simp only[Act.put,ZA,ZB,ZC]
  refine ZS 5 rfl (fun K hK=>?_)
  (go_simp;go_at_call 75;refine(VD _ rb 99 _ M a.off HF2.out).mono ?_;intro e w4 h4)
  obtain⟨he4,hf4,hc4⟩:=h4;subst he4;have HF4:=Zh hf4;have HC4:=Zh hc4;clear hf4 hc4;refine hK.out _ _ trivial (fun hH=>?_);clear hK K
  try simp only[Act.put,ZA,ZB,ZC]
  refine wpAnyH_done (by kernel_rfl) ?_ _;go_wp2;go_end0;rw[HR.out,HE.out];exact⟨rfl,by rw[Jv];exact HF4.out,(HBA.out.trans HC2.out).trans (HCD.out.trans HC4.out)⟩
theorem Yi(fs:List Qbn)(vars:List Int)(t:Int)(a:Nd)(l:List Nd):Qbt fs vars t (a::l)=Qbz fs vars t a++Qbt fs vars t l:=by
 rw[Qbt];unfold Qbz;rw[List.append_assoc]
theorem Jbx(fs:List Qbn)(vars:List Int)(t:Int):∀ (l:List Nd) (a:Nd),Qbt fs vars t (l++[a])=Qbt fs vars t l++Qbz fs vars t a
 |[],a=>by simp[Yi,Qbt]
 |x::l,a=>by rw[List.cons_append,Yi,Yi,Jbx fs vars t l a,List.append_assoc]
theorem Zg(fs:List Qbn)(rb:Nat)(M:Value)(k nn:Int)(s:List UInt8)(off:Int)(b c:Nat)(l:List An)(vars:List Int)(vv:Value)(x:Option Int)(t:Int)(w:World)(hk:k≠19)(hl:l.length<=1000000000)(hpre:Qas fs rb M w x vars vv (.mk k nn s off b c l))
  (H:∀ y∈l,∀ W x',Qas fs rb M W x' vars vv y->Calls prog 55 #[.pointer (some ⟨rb,0,none⟩),.agg (Qaa y),vv,.int .i64 t] W (TyP W rb M x' (Qbz fs vars t y.nd) (.tuple #[]))) :
  Calls prog 106 #[.pointer (some ⟨rb,0,none⟩),.agg (Qaa (.mk k nn s off b c l)),vv,.int .i64 t] w (TyP w rb M x (Qbt fs vars t (ndL l)) (.tuple #[])):=by
 obtain⟨R,hR⟩:∃ R,TyP w rb M x (Qbt fs vars t (ndL l)) (.tuple #[])=R:=⟨_,rfl⟩
 rw[hR];have HR:Hid (R=TyP w rb M x (Qbt fs vars t (ndL l)) (.tuple #[])):=hR.symm;obtain⟨ad,cc,hkv,had⟩:=Jo b c l
 have hcs:Qaa (.mk k nn s off b c l)=#[.int .i64 k,.int .i64 nn,.string (bs s),.int .i64 off,.slice ad l.length cc]:=by
  show #[_,_,_,_,QaB b c l]=_
  rw[hkv]
 have hbA:Below w.heap.size w (w.alloc (.cells (Qaa (.mk k nn s off b c l)) 103)):=zzb.alloc zzl _;have HP:=Zh (hpre.up hbA);have HBA:=Zh (Chg.of_below hbA [rb]);have HH:=Zh H;have HAD:=Zh had;have HK:=Zh hk;rw[hcs]at HP HBA |-;clear hR hpre hbA hkv had hcs H hk;go_enter func106,ntmps106;go_wp2_with fail;generalize World.alloc w _=w1 at *;go_loopg [13] l.length (fun g v13 wr=>∃ i:Nat,g+i=l.length/\v13=.int .i64 i/\Hid (Qas fs rb M wr (QaK x (Qbt fs vars t (ndL (l.take i)))) vars vv (.mk k nn s off b c l))/\Hid (Chg [rb] w wr))
 case atStart=>exact⟨0,rfl,rfl,Zh (by simpa[ndL,Qbt,QaK] using HP.out),HBA⟩
 case round=>
 clear HP HBA;obtain⟨wl,rfl⟩:∃ wl:World,wl=wr:=⟨_,rfl⟩
 obtain⟨i,hg,rfl,hp,hc⟩:=hrel
 by_cases hi:i<l.length
 ·have hil:(i:Int)<(l.length:Int):=by omega
  obtain⟨y,hy⟩:∃ y,l[i]?=some y:=⟨l[i],List.getElem?_eq_getElem hi⟩
  have hmem:=List.mem_of_getElem? hy;have had':ad=some ⟨b,0,none⟩:=HAD.out (ne_nil_of_mem hmem);have hat:=hp.out.at';unfold An.At at hat;have hcl:=(JT hat.2 hy).1;rw[Nat.zero_add]at hcl;obtain⟨xA,xn,xc,hcf⟩:=Jf y;rw[hcf]at hcl;have c0:=hcl 0 _ rfl;have c1:=hcl 1 _ rfl;have c2:=hcl 2 _ rfl;have c3:=hcl 3 _ rfl;have c4:=hcl 4 _ rfl;simp only[add_zero]at c0;have wk:IntKind.i64.wrap ((i:Int)+1)=(i:Int)+1:=IntWalk.i64_in _ (by omega);have hb2:Below wl.heap.size wl (wl.alloc (.cells (Qaa y) 103)):=zzb.alloc zzl _;have cn:=HH.out y hmem _ _ ((hp.out.up hb2).kid HK.out y hmem);have HP2:=Zh (hp.out.up hb2);have HC2:=Zh (hc.out.trans (Chg.of_below hb2 [rb]));have HTS:Hid (ndL (l.take (i+1))=ndL (l.take i)++[y.nd]):=by rw[Hid,List.take_add_one,hy];exact K3 _ _
  have HG:=Zh hg;rw[hcf]at cn HP2 HC2;subst had';clear hat hcl hcf hb2 hp hc hy hmem HAD hg;go_wp2_with fail;refine cn.mono ?_;rintro e w3 ⟨rfl,hf3,hc3⟩
  have HP3:Hid (Qas fs rb M w3 (QaK x (Qbt fs vars t (ndL (l.take (i+1))))) vars vv (.mk k nn s off b c l)):=by
   rw[Hid,HTS.out,Jbx,Jv];exact HP2.out.chg hc3 hf3
  have HC3:=Zh (HC2.out.trans hc3);clear cn hf3 hc3 HP2 HC2 c0 c1 c2 c3 c4;go_wp2;go_roundg (l.length-(i+1))
  case measure=>have:=HG.out;omega
  case rel=>exact⟨i+1,by omega,by go_num,HP3,HC3⟩
 ·have hil:¬ (i:Int)<(l.length:Int):=by omega
  obtain rfl:i=l.length:=by omega
  have hp2:=hp.out;rw[List.take_length]at hp2;have HP2:=Zh hp2;clear hi hg hp hp2;go_wp2;go_end0;rw[HR.out];exact⟨rfl,HP2.out.flt,hc.out⟩
theorem Jik{W:World}{rb:Nat}{a:Option Addr}{n c:Nat}{l:List Int}(h:QbZ W rb (.slice a n c) l):n=l.length:=by
 rcases h with⟨rfl,_,_,e⟩|⟨g,o,cc,e,_⟩
 ·injection e
 ·injection e
structure TcI(fs:List Qbn)(rb:Nat)(M:Value)(w W:World)(x:Option Int)(vars:List Int)(vv:Value)(a:An)(fb cb:Nat)(fc ac:Array Value)(pv:Value)(ps:List Int):Prop where
 pre:Qas fs rb M W x vars vv a
 chg:Chg [rb] w W
 fbk:W.heap[fb]?=some (.cells fc 44 (0,0))
 cbk:W.heap[cb]?=some (.cells ac 103 (0,0))
 ints:QbZ W rb pv ps
 ne:fb≠rb/\cb≠rb
theorem TcI.on{fs:List Qbn}{rb:Nat}{M:Value}{w W W':World}{x x':Option Int}{vars:List Int}{vv:Value}{a:An}{fb cb:Nat}{fc ac:Array Value}{pv:Value}{ps:List Int}(h:TcI fs rb M w W x vars vv a fb cb fc ac pv ps)(hc:Chg [rb] W W')(hf:Qba W' rb 99 x' M):TcI fs rb M w W' x' vars vv a fb cb fc ac pv ps:=
 ⟨h.pre.chg hc hf,h.chg.trans hc,hc.heap_some (by simp;exact h.ne.1) h.fbk,hc.heap_some (by simp;exact h.ne.2) h.cbk,h.ints.chg hc,h.ne⟩
theorem TcI.up{fs:List Qbn}{rb:Nat}{M:Value}{w W W':World}{x:Option Int}{vars:List Int}{vv:Value}{a:An}{fb cb:Nat}{fc ac:Array Value}{pv:Value}{ps:List Int}(h:TcI fs rb M w W x vars vv a fb cb fc ac pv ps)(hb:Below W.heap.size W W'):TcI fs rb M w W' x vars vv a fb cb fc ac pv ps:=h.on (Chg.of_below hb [rb]) ((hb.block _ (Jb h.pre.flt)).trans h.pre.flt)
theorem YH(fs:List Qbn)(vars:List Int)(b:Bool):∀ (l:List Nd) (ps:List Int) (a:Nd),Qdo fs vars b ps (l++[a])=Qdo fs vars b ps l++((ofN fs vars a).2++if b=true/\(ofN fs vars a).1≠(ps.drop l.length).headD 0 then [a.off] else [])
 |[],ps,a=>by simp[Qdo]
 |x::l,ps,a=>by
  rw[List.cons_append,Qdo,YH fs vars b l ps.tail a,Qdo];simp only[List.append_assoc,List.length_cons,List.drop_tail]
def Qji(fs:List Qbn)(vars:List Int)(n:Int)(o:Int)(l:List Nd):List Int:=(if l.length≠(fs.getD n.toNat ⟨[],0⟩).params.length then [o] else [])++Qdo fs vars (l.length==(fs.getD n.toNat ⟨[],0⟩).params.length) (fs.getD n.toNat ⟨[],0⟩).params l
theorem bx5{P:Prop}(h:P:=by
  try simp only[Act.put,ZA,ZB,ZC]
  refine ZS 7 rfl (fun K hK=>?_);have c0:=HCE.out 0 _ rfl;have c1:=HCE.out 1 _ rfl;have c2:=HCE.out 2 _ rfl;have c3:=HCE.out 3 _ rfl;have c4:=HCE.out 4 _ rfl;have c5:=HCE.out 5 _ rfl;have c6:=HCE.out 6 _ rfl;simp only[Nat.add_zero]at c0;go_simp;clear c0 c1 c2 c3 c4 c5 c6;refine hK.out _ _ trivial (fun hH=>?_);clear hK K
  try simp only[Act.put,ZA,ZB,ZC]
  refine ZS 9 rfl (fun K hK=>?_);have hz:=HFB.out;have z0:=Ja hz 0;have y0:=Jc hz 0;have z1:=Ja hz 1;have y1:=Jc hz 1;have z2:=Ja hz 2;have y2:=Jc hz 2;have z3:=Ja hz 3;have y3:=Jc hz 3;have z4:=Ja hz 4;have y4:=Jc hz 4;have z5:=Ja hz 5;have y5:=Jc hz 5;have z6:=Ja hz 6;have y6:=Jc hz 6;simp only[ZD,ZE,ZF]at z0 z1 z2 z3 z4 z5 z6;have hlz:=Jb hz;clear hz;go_simp;clear hlz z0 y0 z1 y1 z2 y2 z3 y3 z4 y4 z5 y5 z6 y6;refine hK.out _ _ trivial (fun hH=>?_);clear hK K
  try simp only[Act.put,ZA,ZB,ZC]
  refine wpAnyH_done (by kernel_rfl) ?_ _;go_wp2_with fail;go_meet
  exact⟨_,rfl,⟨HF1.out,HNE.out.1⟩,HF2.out,HF3.out,HF4.out,HF5.out⟩):P:=h
theorem bx9{P:Prop}(h:P:=by
  try simp only[Act.put,ZA,ZB,ZC]
  refine ZR (rs:=[7,8]) (AllReadyH.cons rfl (fun K hK=>?_) (AllReadyH.cons rfl (fun K hK=>?_) AllReadyH.nil))
  ·have c0:=HCE.out 0 _ rfl;have c1:=HCE.out 1 _ rfl;have c2:=HCE.out 2 _ rfl;have c3:=HCE.out 3 _ rfl;have c4:=HCE.out 4 _ rfl;have c5:=HCE.out 5 _ rfl;have c6:=HCE.out 6 _ rfl;simp only[Nat.add_zero]at c0;go_simp;clear c0 c1 c2 c3 c4 c5 c6;refine hK.out _ _ trivial (fun hH=>?_);clear hK K
   try simp only[Act.put,ZA,ZB,ZC]
   refine ZS 8 rfl (fun K hK=>?_);go_simp;refine hK.out _ _ trivial (fun hH=>?_);have hb8:Below w3.heap.size w3 (w3.alloc (.cells #[.string ⟨#[]⟩,.slice none 0 0,.int .i64 0,.int .i64 0,.int .i64 0,.string ⟨#[]⟩,.slice none 0 0] 44)):=zzb.alloc zzl _;replace HP:=Zh (HP.out.up hb8);replace HCP:=Zh (Jg (X:=.cells #[.string ⟨#[]⟩,.slice none 0 0,.int .i64 0,.int .i64 0,.int .i64 0,.string ⟨#[]⟩,.slice none 0 0] 44) HCP.out);replace HCE:Hid (∀ (j:Nat) (u:Value),([.string x0,.slice pa pn pc,.int .i64 sg.result,.int .i64 sk,.int .i64 sn,.string x5,.slice a6 n6 c6]:List Value)[j]?=some u->(w3.alloc (.cells #[.string ⟨#[]⟩,.slice none 0 0,.int .i64 0,.int .i64 0,.int .i64 0,.string ⟨#[]⟩,.slice none 0 0] 44)).cell? ⟨g,go+ix*7+j,none⟩=some u):=fun j u hj=>(hb8.cell (World.block_lt_of_cell? _ _ (HCE.out j u hj))).trans (HCE.out j u hj)
   clear hb8;clear hK K
   try simp only[Act.put,ZA,ZB,ZC]
   refine ZS 9 rfl (fun K hK=>?_);have hz:=HFB.out;have z0:=Ja hz 0;have y0:=Jc hz 0;have z1:=Ja hz 1;have y1:=Jc hz 1;have z2:=Ja hz 2;have y2:=Jc hz 2;have z3:=Ja hz 3;have y3:=Jc hz 3;have z4:=Ja hz 4;have y4:=Jc hz 4;have z5:=Ja hz 5;have y5:=Jc hz 5;have z6:=Ja hz 6;have y6:=Jc hz 6;simp only[ZD,ZE,ZF]at z0 z1 z2 z3 z4 z5 z6;have hlz:=Jb hz;clear hz;go_simp;clear hlz z0 y0 z1 y1 z2 y2 z3 y3 z4 y4 z5 y5 z6 y6;refine hK.out _ _ trivial (fun hH=>?_);clear hK K
   try simp only[Act.put,ZA,ZB,ZC]
   refine wpAnyH_done (by kernel_rfl) ?_ _;go_wp2_with fail;go_meet;exact⟨_,rfl,⟨HF1.out,HNE.out.1⟩,HF2.out,HF3.out,HF4.out,HF5.out⟩
  ·go_simp;refine hK.out _ _ trivial (fun hH=>?_);have hb8:Below w3.heap.size w3 (w3.alloc (.cells #[.string ⟨#[]⟩,.slice none 0 0,.int .i64 0,.int .i64 0,.int .i64 0,.string ⟨#[]⟩,.slice none 0 0] 44)):=zzb.alloc zzl _;replace HP:=Zh (HP.out.up hb8);replace HCP:=Zh (Jg (X:=.cells #[.string ⟨#[]⟩,.slice none 0 0,.int .i64 0,.int .i64 0,.int .i64 0,.string ⟨#[]⟩,.slice none 0 0] 44) HCP.out);replace HCE:Hid (∀ (j:Nat) (u:Value),([.string x0,.slice pa pn pc,.int .i64 sg.result,.int .i64 sk,.int .i64 sn,.string x5,.slice a6 n6 c6]:List Value)[j]?=some u->(w3.alloc (.cells #[.string ⟨#[]⟩,.slice none 0 0,.int .i64 0,.int .i64 0,.int .i64 0,.string ⟨#[]⟩,.slice none 0 0] 44)).cell? ⟨g,go+ix*7+j,none⟩=some u):=fun j u hj=>(hb8.cell (World.block_lt_of_cell? _ _ (HCE.out j u hj))).trans (HCE.out j u hj)
   clear hb8;clear hK K
   exact bx5):P:=h
theorem Qmt{P:Prop}(h:P:=by
  obtain rfl:i=l.length:=by omega
  have ht2:=ht.out;rw[List.take_length]at ht2;have g2:=Ja ht2.fbk 2;simp only[ZD,ZE,ZF]at g2;have HT:=Zh ht2;clear hi hg ht ht2;go_wp2;rw[HR.out,HBB.out.1,HBB.out.2]
  exact⟨rfl,by rw[Jv];exact HT.out.pre.flt,HT.out.chg⟩):P:=h
theorem QlY{P:Prop}(h:P:=by
  go_wp2;go_roundg (l.length-(i+1))
  case measure=>have:=HG.out;omega
  case rel=>exact⟨i+1,by omega,by go_num,by rw[HE.out,Jv];exact HT4.out⟩):P:=h
theorem JfV(fs:List Qbn)(rb:Nat)(M:Value)(nn:Int)(s:List UInt8)(off:Int)(b c:Nat)(l:List An)(vars:List Int)(vv:Value)(x:Option Int)(w:World)(hl:l.length<=1000000000)(hpre:Qas fs rb M w x vars vv (.mk 20 nn s off b c l))(hps:∀ s∈fs,s.params.length<=1000000000)
  (H:∀ y∈l,∀ W x',Qas fs rb M W x' vars vv y->Calls prog 85 #[.pointer (some ⟨rb,0,none⟩),.agg (Qaa y),vv] W (TyP W rb M x' (ofN fs vars y.nd).2 (.int .i64 (ofN fs vars y.nd).1))) :
  Calls prog 107 #[.pointer (some ⟨rb,0,none⟩),.agg (Qaa (.mk 20 nn s off b c l)),vv] w (TyP w rb M x (Qji fs vars nn off (ndL l)) (.int .i64 (fs.getD nn.toNat ⟨[],0⟩).result)):=by
 have hok:=hpre.ok;unfold An.nd QdW at hok;obtain⟨hn0,hnf⟩:=hok.2.1 rfl;obtain⟨ix,rfl⟩:∃ ix:Nat,nn=(ix:Int):=⟨nn.toNat,by omega⟩
 have hix:ix<fs.length:=by omega
 obtain⟨sg,hsg⟩:∃ sg,fs[ix]?=some sg:=⟨fs[ix],List.getElem?_eq_getElem hix⟩
 have hgd:fs.getD ((ix:Int)).toNat ⟨[],0⟩=sg:=by rw[Int.toNat_natCast,List.getD_eq_getElem?_getD,hsg];rfl
 unfold Qji;rw[hgd];have hpl:=hps sg (List.mem_of_getElem? hsg);obtain⟨R,hR⟩:∃ R,TyP w rb M x ((if (ndL l).length≠sg.params.length then [off] else [])++Qdo fs vars ((ndL l).length==sg.params.length) sg.params (ndL l)) (.int .i64 sg.result)=R:=⟨_,rfl⟩
 rw[hR];have HR:Hid (R=TyP w rb M x ((if (ndL l).length≠sg.params.length then [off] else [])++Qdo fs vars ((ndL l).length==sg.params.length) sg.params (ndL l)) (.int .i64 sg.result)):=hR.symm;obtain⟨ad,cc,hkv,had⟩:=Jo b c l
 have hcs:Qaa (.mk 20 (ix:Int) s off b c l)=#[.int .i64 20,.int .i64 (ix:Nat),.string (bs s),.int .i64 off,.slice ad l.length cc]:=by
  show #[_,_,_,_,QaB b c l]=_
  rw[hkv]
 have hbA:Below w.heap.size w (w.alloc (.cells (Qaa (.mk 20 (ix:Int) s off b c l)) 103)):=zzb.alloc zzl _;have HP:=Zh (hpre.up hbA);have HBA:=Zh (Chg.of_below hbA [rb]);have HCP:=Zh (zzw w (.cells (Qaa (.mk 20 (ix:Int) s off b c l)) 103));have hrl:=Jb hpre.flt;have hcb:w.heap.size≠rb:=by omega
 have HH:=Zh H;have HAD:=Zh had;have HSG:=Zh hsg;rw[hcs]at HP HBA HCP |-;clear hR hpre hbA hkv had hcs H hsg hgd hps hok hn0 hnf hrl;go_enter func107,ntmps107;go_upto_region 1 with fail;generalize World.alloc w _=w1 at *;generalize w.heap.size=cb at *;obtain⟨ma,mc,hM,hms⟩:=HP.out.sigs;obtain⟨g,go,hma,hgr,hrow⟩:=hms (by intro e;rw[e]at hix;exact absurd hix (by simp));obtain⟨x0,pv,sk,sn,x5,a6,n6,c6,hiv,hce⟩:=hrow ix sg HSG.out;have hixi:(ix:Int)<(fs.length:Int):=by omega
 subst hma;have HM:Hid (M=.slice (some ⟨g,go,none⟩) fs.length mc):=hM;have HIV:=Zh hiv;have HCE:=Zh hce;obtain⟨pa,pn,pc,hpv⟩:∃ pa pn pc,pv=.slice pa pn pc:=by rcases hiv with⟨_,_,_,e⟩|⟨_,_,_,e,_⟩<;>exact⟨_,_,_,e⟩
 subst hpv;clear hM hms hrow hiv hce;go_cut [7] (fun v7 wx=>∃ fb,v7=.pointer (some ⟨fb,0,none⟩)/\Hid (wx.heap[fb]?=some (.cells #[.string x0,.slice pa pn pc,.int .i64 sg.result,.int .i64 sk,.int .i64 sn,.string x5,.slice a6 n6 c6] 44 (0,0))/\fb≠rb)/\Hid (Qas fs rb M wx x vars vv (.mk 20 (ix:Int) s off b c l))/\Hid (Chg [rb] w wx)/\Hid (wx.heap[cb]?=some (.cells #[.int .i64 20,.int .i64 (ix:Nat),.string (bs s),.int .i64 off,.slice ad l.length cc] 103 (0,0)))/\Hid (QbZ wx rb (.slice pa pn pc) sg.params))
 case first=>
  clear HH HAD;refine wp_region_held_drew (S:=fun _=>True) (by kernel_rfl) (trivial) (fun hH=>?_);have hD2:Below w1.heap.size w1 w1.drew:=(Below.refl w1.heap.size w1).drew;replace HP:=Zh (HP.out.up hD2);replace HBA:=Zh (HBA.out.trans (Chg.of_below hD2 [rb]));replace HCP:=Zh ((hD2.block _ (Jb HCP.out)).trans HCP.out);replace HCE:Hid (∀ (j:Nat) (u:Value),([.string x0,.slice pa pn pc,.int .i64 sg.result,.int .i64 sk,.int .i64 sn,.string x5,.slice a6 n6 c6]:List Value)[j]?=some u->w1.drew.cell? ⟨g,go+ix*7+j,none⟩=some u):=HCE.out;have HD3:=Zh (Chg.of_below hD2 [rb]);clear hD2;generalize w1.drew=w3 at *;have HNE:Hid (w3.heap.size≠rb/\True):=⟨by have:=Jb HP.out.flt;omega,trivial⟩
  have HFB:Hid ((w3.alloc (.cells #[.string ⟨#[]⟩,.slice none 0 0,.int .i64 0,.int .i64 0,.int .i64 0,.string ⟨#[]⟩,.slice none 0 0] 44)).heap[w3.heap.size]?=some (.cells #[.string ⟨#[]⟩,.slice none 0 0,.int .i64 0,.int .i64 0,.int .i64 0,.string ⟨#[]⟩,.slice none 0 0] 44)):=zzw _ _;have hbp:Below w3.heap.size w3 (w3.alloc (.cells #[.string x0,.slice pa pn pc,.int .i64 sg.result,.int .i64 sk,.int .i64 sn,.string x5,.slice a6 n6 c6] 44)):=zzb.alloc zzl _;have HF1:=Zh (zzw w3 (.cells #[.string x0,.slice pa pn pc,.int .i64 sg.result,.int .i64 sk,.int .i64 sn,.string x5,.slice a6 n6 c6] 44));have HF2:=Zh (HP.out.up hbp);have HF3:=Zh (HBA.out.trans (Chg.of_below hbp [rb]));have HF4:=Zh ((hbp.block _ (Jb HCP.out)).trans HCP.out);have HF5:=Zh (HIV.out.chg (HD3.out.trans (Chg.of_below hbp [rb])));clear hbp;refine ZT (i:=0) (v:=?vT7_0) rfl (Or.inl ⟨by rfl,?yT7_0⟩) ?_
  case yT7_0=>exact ZyQ
  try simp only[Act.put,ZA,ZB,ZC]
  refine ZT (i:=1) (v:=?vT7_1) rfl (Or.inl ⟨by rfl,?yT7_1⟩) ?_
  case yT7_1=>exact ZyQ
  try simp only[Act.put,ZA,ZB,ZC]
  refine ZT (i:=2) (v:=?vT7_2) rfl (Or.inl ⟨by rfl,?yT7_2⟩) ?_
  case yT7_2=>exact ZyQ
  try simp only[Act.put,ZA,ZB,ZC]
  refine ZT (i:=4) (v:=?vT7_4) rfl (Or.inl ⟨by rfl,?yT7_4⟩) ?_
  case yT7_4=>exact ZyQ
  try simp only[Act.put,ZA,ZB,ZC]
  refine ZR (rs:=[3,5,8]) (AllReadyH.cons rfl (fun K hK=>?_) (AllReadyH.cons rfl (fun K hK=>?_) (AllReadyH.cons rfl (fun K hK=>?_) AllReadyH.nil)))
  ·have r2:=Ja HP.out.flt 2;rw[HM.out]at r2;simp only[ZD,ZE,ZF]at r2;go_simp;clear r2;refine hK.out _ _ trivial (fun hH=>?_);clear hK K
   try simp only[Act.put,ZA,ZB,ZC]
   refine ZR (rs:=[5,8]) (AllReadyH.cons rfl (fun K hK=>?_) (AllReadyH.cons rfl (fun K hK=>?_) AllReadyH.nil))
   ·have n1:=Ja HCP.out 1;simp only[ZD,ZE,ZF]at n1;go_simp;clear n1;refine hK.out _ _ trivial (fun hH=>?_);clear hK K
    try simp only[Act.put,ZA,ZB,ZC]
    refine ZT (i:=6) (v:=?vT9_6) rfl (Or.inl ⟨by rfl,?yT9_6⟩) ?_
    case yT9_6=>exact ZyQ
    exact bx9
   ·go_simp;refine hK.out _ _ trivial (fun hH=>?_);have hb8:Below w3.heap.size w3 (w3.alloc (.cells #[.string ⟨#[]⟩,.slice none 0 0,.int .i64 0,.int .i64 0,.int .i64 0,.string ⟨#[]⟩,.slice none 0 0] 44)):=zzb.alloc zzl _;replace HP:=Zh (HP.out.up hb8);replace HCP:=Zh (Jg (X:=.cells #[.string ⟨#[]⟩,.slice none 0 0,.int .i64 0,.int .i64 0,.int .i64 0,.string ⟨#[]⟩,.slice none 0 0] 44) HCP.out);replace HCE:Hid (∀ (j:Nat) (u:Value),([.string x0,.slice pa pn pc,.int .i64 sg.result,.int .i64 sk,.int .i64 sn,.string x5,.slice a6 n6 c6]:List Value)[j]?=some u->(w3.alloc (.cells #[.string ⟨#[]⟩,.slice none 0 0,.int .i64 0,.int .i64 0,.int .i64 0,.string ⟨#[]⟩,.slice none 0 0] 44)).cell? ⟨g,go+ix*7+j,none⟩=some u):=fun j u hj=>(hb8.cell (World.block_lt_of_cell? _ _ (HCE.out j u hj))).trans (HCE.out j u hj)
    clear hb8;clear hK K
    try simp only[Act.put,ZA,ZB,ZC]
    refine ZS 5 rfl (fun K hK=>?_);have n1:=Ja HCP.out 1;simp only[ZD,ZE,ZF]at n1;go_simp;clear n1;refine hK.out _ _ trivial (fun hH=>?_);clear hK K
    try simp only[Act.put,ZA,ZB,ZC]
    refine ZT (i:=6) (v:=?vT17_6) rfl (Or.inl ⟨by rfl,?yT17_6⟩) ?_
    case yT17_6=>exact ZyQ
    exact bx5
  ·have n1:=Ja HCP.out 1;simp only[ZD,ZE,ZF]at n1;go_simp;clear n1;refine hK.out _ _ trivial (fun hH=>?_);clear hK K
   try simp only[Act.put,ZA,ZB,ZC]
   refine ZR (rs:=[3,8]) (AllReadyH.cons rfl (fun K hK=>?_) (AllReadyH.cons rfl (fun K hK=>?_) AllReadyH.nil))
   ·have r2:=Ja HP.out.flt 2;rw[HM.out]at r2;simp only[ZD,ZE,ZF]at r2;go_simp;clear r2;refine hK.out _ _ trivial (fun hH=>?_);clear hK K
    try simp only[Act.put,ZA,ZB,ZC]
    refine ZT (i:=6) (v:=?vT21_6) rfl (Or.inl ⟨by rfl,?yT21_6⟩) ?_
    case yT21_6=>exact ZyQ
    exact bx9
   ·go_simp;refine hK.out _ _ trivial (fun hH=>?_);have hb8:Below w3.heap.size w3 (w3.alloc (.cells #[.string ⟨#[]⟩,.slice none 0 0,.int .i64 0,.int .i64 0,.int .i64 0,.string ⟨#[]⟩,.slice none 0 0] 44)):=zzb.alloc zzl _;replace HP:=Zh (HP.out.up hb8);replace HCP:=Zh (Jg (X:=.cells #[.string ⟨#[]⟩,.slice none 0 0,.int .i64 0,.int .i64 0,.int .i64 0,.string ⟨#[]⟩,.slice none 0 0] 44) HCP.out);replace HCE:Hid (∀ (j:Nat) (u:Value),([.string x0,.slice pa pn pc,.int .i64 sg.result,.int .i64 sk,.int .i64 sn,.string x5,.slice a6 n6 c6]:List Value)[j]?=some u->(w3.alloc (.cells #[.string ⟨#[]⟩,.slice none 0 0,.int .i64 0,.int .i64 0,.int .i64 0,.string ⟨#[]⟩,.slice none 0 0] 44)).cell? ⟨g,go+ix*7+j,none⟩=some u):=fun j u hj=>(hb8.cell (World.block_lt_of_cell? _ _ (HCE.out j u hj))).trans (HCE.out j u hj)
    clear hb8;clear hK K
    try simp only[Act.put,ZA,ZB,ZC]
    refine ZS 3 rfl (fun K hK=>?_);have r2:=Ja HP.out.flt 2;rw[HM.out]at r2;simp only[ZD,ZE,ZF]at r2;go_simp;clear r2;refine hK.out _ _ trivial (fun hH=>?_);clear hK K
    try simp only[Act.put,ZA,ZB,ZC]
    refine ZT (i:=6) (v:=?vT29_6) rfl (Or.inl ⟨by rfl,?yT29_6⟩) ?_
    case yT29_6=>exact ZyQ
    exact bx5
  ·go_simp;refine hK.out _ _ trivial (fun hH=>?_);have hb8:Below w3.heap.size w3 (w3.alloc (.cells #[.string ⟨#[]⟩,.slice none 0 0,.int .i64 0,.int .i64 0,.int .i64 0,.string ⟨#[]⟩,.slice none 0 0] 44)):=zzb.alloc zzl _;replace HP:=Zh (HP.out.up hb8);replace HCP:=Zh (Jg (X:=.cells #[.string ⟨#[]⟩,.slice none 0 0,.int .i64 0,.int .i64 0,.int .i64 0,.string ⟨#[]⟩,.slice none 0 0] 44) HCP.out);replace HCE:Hid (∀ (j:Nat) (u:Value),([.string x0,.slice pa pn pc,.int .i64 sg.result,.int .i64 sk,.int .i64 sn,.string x5,.slice a6 n6 c6]:List Value)[j]?=some u->(w3.alloc (.cells #[.string ⟨#[]⟩,.slice none 0 0,.int .i64 0,.int .i64 0,.int .i64 0,.string ⟨#[]⟩,.slice none 0 0] 44)).cell? ⟨g,go+ix*7+j,none⟩=some u):=fun j u hj=>(hb8.cell (World.block_lt_of_cell? _ _ (HCE.out j u hj))).trans (HCE.out j u hj)
   clear hb8;clear hK K
   try simp only[Act.put,ZA,ZB,ZC]
   refine ZR (rs:=[3,5]) (AllReadyH.cons rfl (fun K hK=>?_) (AllReadyH.cons rfl (fun K hK=>?_) AllReadyH.nil))
   ·have r2:=Ja HP.out.flt 2;rw[HM.out]at r2;simp only[ZD,ZE,ZF]at r2;go_simp;clear r2;refine hK.out _ _ trivial (fun hH=>?_);clear hK K
    try simp only[Act.put,ZA,ZB,ZC]
    refine ZS 5 rfl (fun K hK=>?_);have n1:=Ja HCP.out 1;simp only[ZD,ZE,ZF]at n1;go_simp;clear n1;refine hK.out _ _ trivial (fun hH=>?_);clear hK K
    try simp only[Act.put,ZA,ZB,ZC]
    refine ZT (i:=6) (v:=?vT34_6) rfl (Or.inl ⟨by rfl,?yT34_6⟩) ?_
    case yT34_6=>exact ZyQ
    exact bx5
   ·have n1:=Ja HCP.out 1;simp only[ZD,ZE,ZF]at n1;go_simp;clear n1;refine hK.out _ _ trivial (fun hH=>?_);clear hK K
    try simp only[Act.put,ZA,ZB,ZC]
    refine ZS 3 rfl (fun K hK=>?_);have r2:=Ja HP.out.flt 2;rw[HM.out]at r2;simp only[ZD,ZE,ZF]at r2;go_simp;clear r2;refine hK.out _ _ trivial (fun hH=>?_);clear hK K
    try simp only[Act.put,ZA,ZB,ZC]
    refine ZT (i:=6) (v:=?vT38_6) rfl (Or.inl ⟨by rfl,?yT38_6⟩) ?_
    case yT38_6=>exact ZyQ
    exact bx5
 case rest=>
 obtain⟨fb,rfl,hfb,hp,hc,hcp,hints⟩:=hcut;have hpn:=Jik hints.out;have HTC:Hid (TcI fs rb M w wc x vars vv (.mk 20 (ix:Int) s off b c l) fb cb #[.string x0,.slice pa pn pc,.int .i64 sg.result,.int .i64 sk,.int .i64 sn,.string x5,.slice a6 n6 c6] #[.int .i64 20,.int .i64 (ix:Nat),.string (bs s),.int .i64 off,.slice ad l.length cc] (.slice pa pn pc) sg.params):=⟨hp.out,hc.out,hfb.out.1,hcp.out,hints.out,hfb.out.2,hcb⟩
 have HPN:=Zh hpn;have hfbr:=hfb.out.2;have n4:=Ja hcp.out 4;have g1:=Ja hfb.out.1 1;simp only[ZD,ZE,ZF]at n4 g1;have hndl:(ndL l).length=l.length:=by rw[Kj,List.length_map]
 rw[hndl]at HR;clear hfb hp hc hcp hints hpn HIV HCE HSG HM HBA HP HCP hndl
 by_cases hlp:l.length=pn
 ·subst hlp;have d1:((l.length:Int) !=(l.length:Int))=false:=by simp
  have d2:((l.length:Int)==(l.length:Int))=true:=by simp
  have HBB:Hid ((l.length==sg.params.length)=true/\(if l.length≠sg.params.length then [off] else [])=[]):=by rw[Hid,<- HPN.out];simp
  go_upto_region 4 with fail;clear n4 g1;have HN4:=Ja HTC.out.cbk 4;simp only[ZD,ZE,ZF]at HN4;go_wp2_with fail;clear HN4;go_loopg [35] l.length (fun g v35 wr=>∃ i:Nat,g+i=l.length/\v35=.int .i64 i/\Hid (TcI fs rb M w wr (QaK (x) (Qdo fs vars true sg.params (ndL (l.take i)))) vars vv (.mk 20 (ix:Int) s off b c l) fb cb #[.string x0,.slice pa l.length pc,.int .i64 sg.result,.int .i64 sk,.int .i64 sn,.string x5,.slice a6 n6 c6] #[.int .i64 20,.int .i64 (ix:Nat),.string (bs s),.int .i64 off,.slice ad l.length cc] (.slice pa l.length pc) sg.params))
  case atStart=>exact⟨0,rfl,rfl,Zh (by simpa[ndL,Qdo,QaK] using HTC.out)⟩
  case round=>
  clear HTC;obtain⟨wl,rfl⟩:∃ wl:World,wl=wr:=⟨_,rfl⟩
  obtain⟨i,hg,rfl,ht⟩:=hrel
  by_cases hi:i<l.length
  ·have hil:(i:Int)<(l.length:Int):=by omega
   obtain⟨y,hy⟩:∃ y,l[i]?=some y:=⟨l[i],List.getElem?_eq_getElem hi⟩
   have hmem:=List.mem_of_getElem? hy;have had':ad=some ⟨b,0,none⟩:=HAD.out (ne_nil_of_mem hmem);have hat:=ht.out.pre.at';unfold An.At at hat;have hcl:=(JT hat.2 hy).1;rw[Nat.zero_add]at hcl;obtain⟨yA,yn,yc,hcf⟩:=Jf y;rw[hcf]at hcl;have c0:=hcl 0 _ rfl;have c1:=hcl 1 _ rfl;have c2:=hcl 2 _ rfl;have c3:=hcl 3 _ rfl;have c4:=hcl 4 _ rfl;simp only[add_zero]at c0;have wk:IntKind.i64.wrap ((i:Int)+1)=(i:Int)+1:=IntWalk.i64_in _ (by omega);have hb2:Below wl.heap.size wl (wl.alloc (.cells (Qaa y) 103)):=zzb.alloc zzl _;have hkr:wl.heap.size≠rb:=by have:=Jb ht.out.pre.flt;omega
   have cn:=HH.out y hmem _ _ ((ht.out.pre.up hb2).kid (by decide) y hmem);have HT2:=Zh (ht.out.up hb2);have HKB:=Zh (zzw wl (.cells (Qaa y) 103));have HTS:Hid (ndL (l.take (i+1))=ndL (l.take i)++[y.nd]/\(ndL (l.take i)).length=i):=⟨by rw[List.take_add_one,hy];exact K3 _ _,by rw[Kj,List.length_map,List.length_take,Nat.min_eq_left (by omega)]⟩
   have HG:=Zh hg;have HOF:=Zh (Y4 y);rw[hcf]at cn HT2 HKB;obtain⟨r,hr⟩:∃ r,ofN fs vars y.nd=r:=⟨_,rfl⟩
   have HRR:=Zh hr;rw[hr]at cn;obtain⟨ty,es⟩:=r;dsimp only at cn;subst had';clear hat hcl hcf hb2 ht hy hmem HAD hg hr;go_wp2_with fail;generalize World.alloc wl _=w3 at *;generalize wl.heap.size=kb at *;refine cn.mono ?_;rintro e w4 ⟨rfl,hf4,hc4⟩;have HT4:=Zh (HT2.out.on hc4 hf4);have HKB4:=Zh (hc4.heap_some (by simp;exact hkr) HKB.out);have m4:=Ja HT4.out.cbk 4;have g4:=Ja HT4.out.fbk 1;simp only[ZD,ZE,ZF]at m4 g4;clear cn hf4 hc4 HT2 HKB c0 c1 c2 c3 c4;have hin:i<sg.params.length:=by rw[<- HPN.out];omega
   obtain⟨pi,hpi⟩:∃ pi,sg.params[i]?=some pi:=⟨sg.params[i],List.getElem?_eq_getElem hin⟩
   have hd0:(sg.params.drop i).headD 0=pi:=by rw[List.drop_eq_getElem_cons hin];exact(List.getElem?_eq_some_iff.1 hpi).2
   obtain⟨g2,o2,hpa,hpc⟩:∃ g2 o2,pa=some ⟨g2,o2,none⟩/\w4.cell? ⟨g2,o2+i,none⟩=some (.int .i64 pi):=by
    rcases HT4.out.ints with⟨e,_⟩|⟨g2,o2,c2,e,_,_,_,e5⟩
    ·rw[e]at hin;exact absurd hin (by simp)
    ·injection e with e1;exact⟨g2,o2,e1,e5 i pi hpi⟩
   subst hpa;clear hpi hin
   by_cases hty:ty=pi
   ·subst hty;have d3:(ty !=ty)=false:=by simp
    have HE:Hid (Qdo fs vars true sg.params (ndL (l.take (i+1)))=Qdo fs vars true sg.params (ndL (l.take i))++es):=by rw[Hid,HTS.out.1,YH,HTS.out.2,HRR.out,hd0];simp
    clear hd0;exact QlY
   ·have d3:(ty !=pi)=true:=bne_iff_ne.2 hty;have HE:Hid (Qdo fs vars true sg.params (ndL (l.take (i+1)))=Qdo fs vars true sg.params (ndL (l.take i))++(es++[y.off])):=by rw[Hid,HTS.out.1,YH,HTS.out.2,HRR.out,hd0,HOF.out];simp[hty]
    clear hd0 hty;go_upto_region 9 with fail;clear m4 g4 hpc;refine wp_region_held_drew (S:=fun _=>True) (by kernel_rfl) (trivial) (fun hH=>?_);have hD:Below w4.heap.size w4 w4.drew:=(Below.refl w4.heap.size w4).drew;replace HT4:=Zh (HT4.out.up hD);replace HKB4:=Zh ((hD.block _ (Jb HKB4.out)).trans HKB4.out);clear hD;generalize w4.drew=w5 at *;refine ZT (i:=0) (v:=?vT1_0) rfl (Or.inl ⟨by rfl,?yT1_0⟩) ?_
    case yT1_0=>exact ZyQ
    try simp only[Act.put,ZA,ZB,ZC]
    refine ZT (i:=1) (v:=?vT1_1) rfl (Or.inl ⟨by rfl,?yT1_1⟩) ?_
    case yT1_1=>exact ZyQ
    try simp only[Act.put,ZA,ZB,ZC]
    refine ZT (i:=2) (v:=?vT1_2) rfl (Or.inl ⟨by rfl,?yT1_2⟩) ?_
    case yT1_2=>exact ZyQ
    try simp only[Act.put,ZA,ZB,ZC]
    refine ZT (i:=3) (v:=?vT1_3) rfl (Or.inl ⟨by rfl,?yT1_3⟩) ?_
    case yT1_3=>exact ZyQ
    try simp only[Act.put,ZA,ZB,ZC]
    refine ZS 4 rfl (fun K hK=>?_);have n3:=Ja HKB4.out 3;simp only[ZD,ZE,ZF]at n3;go_simp;clear n3;refine hK.out _ _ trivial (fun hH=>?_);clear hK K
    try simp only[Act.put,ZA,ZB,ZC]
    refine ZS 5 rfl (fun K hK=>?_)
    (go_simp;go_at_call 75;refine(VD _ rb 99 _ M y.off HT4.out.pre.flt).mono ?_;intro e w6 h6)
    obtain⟨he6,hf6,hc6⟩:=h6;subst he6;have HT6:=Zh (HT4.out.on hc6 hf6);clear hf6 hc6 HT4;refine hK.out _ _ trivial (fun hH=>?_);clear hK K
    try simp only[Act.put,ZA,ZB,ZC]
    refine wpAnyH_done (by kernel_rfl) ?_ _;go_wp2;go_roundg (l.length-(i+1))
    case measure=>have:=HG.out;omega
    case rel=>exact⟨i+1,by omega,by go_num,by rw[HE.out,Jv,Jv];exact HT6.out⟩
  ·have hil:¬ (i:Int)<(l.length:Int):=by omega
   exact Qmt
 ·have d1:((l.length:Int) !=(pn:Int))=true:=by simp only[bne_iff_ne,ne_eq];omega
  have d2:((l.length:Int)==(pn:Int))=false:=by rw[beq_eq_false_iff_ne];omega
  have HBB:Hid ((l.length==sg.params.length)=false/\(if l.length≠sg.params.length then [off] else [])=[off]):=by rw[Hid,<- HPN.out];exact⟨by rw[beq_eq_false_iff_ne];exact hlp,if_pos hlp⟩
  clear hlp;go_upto_region 3 with fail;clear n4 g1;refine wp_region_held_drew (S:=fun _=>True) (by kernel_rfl) (trivial) (fun hH=>?_);have hD:Below wc.heap.size wc wc.drew:=(Below.refl wc.heap.size wc).drew;replace HTC:=Zh (HTC.out.up hD);clear hD;generalize wc.drew=w1b at *;refine ZT (i:=0) (v:=?vT4_0) rfl (Or.inl ⟨by rfl,?yT4_0⟩) ?_
  case yT4_0=>exact ZyQ
  try simp only[Act.put,ZA,ZB,ZC]
  refine ZT (i:=1) (v:=?vT4_1) rfl (Or.inl ⟨by rfl,?yT4_1⟩) ?_
  case yT4_1=>exact ZyQ
  try simp only[Act.put,ZA,ZB,ZC]
  refine ZT (i:=2) (v:=?vT4_2) rfl (Or.inl ⟨by rfl,?yT4_2⟩) ?_
  case yT4_2=>exact ZyQ
  try simp only[Act.put,ZA,ZB,ZC]
  refine ZT (i:=3) (v:=?vT4_3) rfl (Or.inl ⟨by rfl,?yT4_3⟩) ?_
  case yT4_3=>exact ZyQ
  try simp only[Act.put,ZA,ZB,ZC]
  refine ZS 4 rfl (fun K hK=>?_);have n3:=Ja HTC.out.cbk 3;simp only[ZD,ZE,ZF]at n3;go_simp;clear n3;refine hK.out _ _ trivial (fun hH=>?_);clear hK K
  try simp only[Act.put,ZA,ZB,ZC]
  refine ZS 5 rfl (fun K hK=>?_)
  (go_simp;go_at_call 75;refine(VD _ rb 99 _ M off HTC.out.pre.flt).mono ?_;intro e w2 h2)
  obtain⟨he2,hf2,hc2⟩:=h2;subst he2;replace HTC:=Zh (HTC.out.on hc2 hf2);clear hf2 hc2;refine hK.out _ _ trivial (fun hH=>?_);clear hK K
  try simp only[Act.put,ZA,ZB,ZC]
  refine wpAnyH_done (by kernel_rfl) ?_ _;have HN4:=Ja HTC.out.cbk 4;simp only[ZD,ZE,ZF]at HN4;go_wp2_with fail;clear HN4;go_loopg [35] l.length (fun g v35 wr=>∃ i:Nat,g+i=l.length/\v35=.int .i64 i/\Hid (TcI fs rb M w wr (QaK (QaK x [off]) (Qdo fs vars false sg.params (ndL (l.take i)))) vars vv (.mk 20 (ix:Int) s off b c l) fb cb #[.string x0,.slice pa pn pc,.int .i64 sg.result,.int .i64 sk,.int .i64 sn,.string x5,.slice a6 n6 c6] #[.int .i64 20,.int .i64 (ix:Nat),.string (bs s),.int .i64 off,.slice ad l.length cc] (.slice pa pn pc) sg.params))
  case atStart=>exact⟨0,rfl,rfl,Zh (by simpa[ndL,Qdo,QaK] using HTC.out)⟩
  case round=>
  clear HTC;obtain⟨wl,rfl⟩:∃ wl:World,wl=wr:=⟨_,rfl⟩
  obtain⟨i,hg,rfl,ht⟩:=hrel
  by_cases hi:i<l.length
  ·have hil:(i:Int)<(l.length:Int):=by omega
   obtain⟨y,hy⟩:∃ y,l[i]?=some y:=⟨l[i],List.getElem?_eq_getElem hi⟩
   have hmem:=List.mem_of_getElem? hy;have had':ad=some ⟨b,0,none⟩:=HAD.out (ne_nil_of_mem hmem);have hat:=ht.out.pre.at';unfold An.At at hat;have hcl:=(JT hat.2 hy).1;rw[Nat.zero_add]at hcl;obtain⟨yA,yn,yc,hcf⟩:=Jf y;rw[hcf]at hcl;have c0:=hcl 0 _ rfl;have c1:=hcl 1 _ rfl;have c2:=hcl 2 _ rfl;have c3:=hcl 3 _ rfl;have c4:=hcl 4 _ rfl;simp only[add_zero]at c0;have wk:IntKind.i64.wrap ((i:Int)+1)=(i:Int)+1:=IntWalk.i64_in _ (by omega);have hb2:Below wl.heap.size wl (wl.alloc (.cells (Qaa y) 103)):=zzb.alloc zzl _;have hkr:wl.heap.size≠rb:=by have:=Jb ht.out.pre.flt;omega
   have cn:=HH.out y hmem _ _ ((ht.out.pre.up hb2).kid (by decide) y hmem);have HT2:=Zh (ht.out.up hb2);have HKB:=Zh (zzw wl (.cells (Qaa y) 103));have HTS:Hid (ndL (l.take (i+1))=ndL (l.take i)++[y.nd]/\(ndL (l.take i)).length=i):=⟨by rw[List.take_add_one,hy];exact K3 _ _,by rw[Kj,List.length_map,List.length_take,Nat.min_eq_left (by omega)]⟩
   have HG:=Zh hg;have HOF:=Zh (Y4 y);rw[hcf]at cn HT2 HKB;obtain⟨r,hr⟩:∃ r,ofN fs vars y.nd=r:=⟨_,rfl⟩
   have HRR:=Zh hr;rw[hr]at cn;obtain⟨ty,es⟩:=r;dsimp only at cn;subst had';clear hat hcl hcf hb2 ht hy hmem HAD hg hr;go_wp2_with fail;generalize World.alloc wl _=w3 at *;generalize wl.heap.size=kb at *;refine cn.mono ?_;rintro e w4 ⟨rfl,hf4,hc4⟩;have HT4:=Zh (HT2.out.on hc4 hf4);have HKB4:=Zh (hc4.heap_some (by simp;exact hkr) HKB.out);have m4:=Ja HT4.out.cbk 4;have g4:=Ja HT4.out.fbk 1;simp only[ZD,ZE,ZF]at m4 g4;clear cn hf4 hc4 HT2 HKB c0 c1 c2 c3 c4;have HE:Hid (Qdo fs vars false sg.params (ndL (l.take (i+1)))=Qdo fs vars false sg.params (ndL (l.take i))++es):=by rw[Hid,HTS.out.1,YH,HRR.out];simp
   exact QlY
  ·have hil:¬ (i:Int)<(l.length:Int):=by omega
   exact Qmt
end Go.Proofs.YtdlkcjkjnehnkaaGreatDoor
