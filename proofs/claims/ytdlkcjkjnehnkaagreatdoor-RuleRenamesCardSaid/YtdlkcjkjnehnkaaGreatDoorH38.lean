import Derived.Test.YtdlkcjkjnehnkaaGreatDoorH30
import Derived.Test.YtdlkcjkjnehnkaaGreatDoorH27
open List(getElem?_eq_getElem take_length)
namespace Go.Proofs.YtdlkcjkjnehnkaaGreatDoor
open Go.ChangeShapes Go.WideShapes Go.ChangeAt Go.RowKit Go.Lib
open _root_.Go.Proofs.Tryz
set_option linter.all false
set_option maxRecDepth 100000
set_option maxHeartbeats 32000000
theorem IntsX.away{w W:World}{rb:Nat}{l:List Int}{v:Value}(h:QbF w (In w) l v)(hb:Bel w W)(hr:w.heap.size<=rb):QbZ W rb v l:=by
 obtain⟨ad,cc,rfl,h2,h3⟩:=h
 rcases h3 with h5|⟨b,o,h4,h5,h6⟩
 ·subst h5;exact .inl ⟨rfl,ad,cc,rfl⟩
 ·subst h4;have hlt:b<w.heap.size:=h5;have hs:w.heap.size<=W.heap.size:=hb.size;exact .inr ⟨b,o,cc,rfl,h2,by omega,by omega,fun i n hi=>(hb.cell (p:=⟨b,o+i,none⟩) hlt).trans (h6 i n hi)⟩
def Qli(f:FnM):Qbn:=⟨f.params,f.result⟩
theorem JcR{w W:World}{rb:Nat}{fs:List FnM}{v:Value}(h:Qcz w v fs)(hb:Bel w W)(hr:w.heap.size<=rb):Qdf W rb v (fs.map Qli):=by
 obtain⟨ad,cc,rfl,_⟩:=h.form;refine⟨ad,cc,by rw[List.length_map],fun hne=>?_⟩
 have hpos:0<fs.length:=by
  cases fs with
  |nil=>exact absurd rfl hne
  |cons a l=>simp
 obtain⟨g,o,pa,pc,da,dc,had,hc0⟩:=h.get (i:=0) (getElem?_eq_getElem hpos);refine⟨g,o,had,by have:=hc0.blt;omega,fun i s hs=>?_⟩;rw[List.getElem?_map]at hs;obtain⟨f,hf,rfl⟩:=Option.map_eq_some_iff.1 hs;obtain⟨g',o',pa',pc',da',dc',had',hc⟩:=h.get hf;rw[had]at had';injection had' with had';injection had' with e1 e2 e3;subst e1 e2;refine⟨bs f.name,.slice pa' f.params.length pc',f.body.kind,f.body.num,bs f.body.name,da',f.body.kids.length,dc',IntsX.away hc.nums hb hr,fun j u hj=>?_⟩;have hlt:=hc.blt;have hk:∀ j u,w.cell? ⟨g,o+i*7+j,none⟩=some u->W.cell? ⟨g,o+i*7+j,none⟩=some u:=fun j u hu=>(hb.cell (p:=⟨g,o+i*7+j,none⟩) hlt).trans hu
 match j,hj with
 |0,hj=>obtain rfl:=Option.some.inj hj;exact hk 0 _ hc.c0
 |1,hj=>obtain rfl:=Option.some.inj hj;exact hk 1 _ hc.c1
 |2,hj=>obtain rfl:=Option.some.inj hj;exact hk 2 _ hc.c2
 |3,hj=>obtain rfl:=Option.some.inj hj;exact hk 3 _ hc.c3
 |4,hj=>obtain rfl:=Option.some.inj hj;exact hk 4 _ hc.c4
 |5,hj=>obtain rfl:=Option.some.inj hj;exact hk 5 _ hc.c5
 |6,hj=>obtain rfl:=Option.some.inj hj;exact hk 6 _ hc.c6
 |j+7,hj=>cases hj
def tyF(r:Qaq)(f:FnM):List Int:=Qbz r.sigs f.params f.result (utN f.body)
def tyC(r:Qaq)(c:ClM):List Int:=Qbz r.sigs [] 1 (utN c.cond)
def Qer(r:Qaq)(i:Nat):List Int:=((r.funcs.take i).map (tyF r)).flatten
def Qfx(r:Qaq)(i:Nat):List Int:=((r.clauses.take i).map (tyC r)).flatten
theorem JgL{r:Qaq}{i:Nat}{f:FnM}(h:r.funcs[i]?=some f):Qer r (i+1)=Qer r i++tyF r f:=by unfold Qer;rw[J0 h];simp
theorem JgM{r:Qaq}{i:Nat}{f:ClM}(h:r.clauses[i]?=some f):Qfx r (i+1)=Qfx r i++tyC r f:=by unfold Qfx;rw[J0 h];simp
theorem JcS(x:Option Int)(l:List Int):(QaK x l).isSome=(x.isSome||!l.isEmpty):=by
 induction l generalizing x with
 |nil=>simp[QaK]
 |cons a l ih=>
  have:QaK x (a::l)=QaK (addF x a) l:=rfl;rw[this,ih];simp[addF]
theorem JiG(r:Qaq):Qdu r=!(QaK none (Qer r r.funcs.length++Qfx r r.clauses.length)).isSome:=by
 rw[JcS];unfold Qer Qfx Qdu;rw[take_length,take_length];simp only[Option.isSome_none,Bool.false_or,Bool.not_not];have e1:∀ f,QcP r.sigs f.params f.result (utN f.body)=tyF r f:=fun _=>rfl
 have e2:∀ c,QcP r.sigs [] 1 (utN c.cond)=tyC r c:=fun _=>rfl
 simp only[e1,e2];rw[Bool.eq_iff_iff];simp[List.all_eq_true,List.flatten_eq_nil_iff]
theorem QlO{w W W':World}{rb:Nat}(hb:Bel w W)(hr:w.heap.size<=rb)(hc:Chg [rb] W W'):Bel w W':=
 Kz hb hc.os hc.tape hc.output hc.size (fun k hk=>hc.block k (Nat.lt_of_lt_of_le hk hb.size) (by simp;omega))
theorem JgN(r:Qaq)(c:Array Value)(w:World)(hx:QaZ w (In w) r c)(hz:RSz r)(ht:QcC r=true):Calls prog 27 #[.agg c] w (Qck w (.bool (Qdu r))):=by
 obtain⟨fa,fc,ca,cc,rfl,hF,hC⟩:=hx.parts;have hq:Qdu r=!(QaK none (Qer r r.funcs.length++Qfx r r.clauses.length)).isSome:=JiG r;rw[hq]
 have htf:∀ f∈r.funcs,QdW r.sigs.length f.params.length (utN f.body)/\WfN (utN f.body):=by
  intro f hf;unfold QcC at ht;simp only[Bool.and_eq_true,List.all_eq_true]at ht;have:=V1 f.body _ _ (ht.1 f hf);rw[show r.pa.length=r.sigs.length by simp[Qaq.pa,Qaq.sigs]]at this;exact this
 have htc:∀ c∈r.clauses,QdW r.sigs.length 0 (utN c.cond)/\WfN (utN c.cond):=by
  intro c hc;unfold QcC at ht;simp only[Bool.and_eq_true,List.all_eq_true]at ht;have:=V1 c.cond _ _ (ht.2 c hc);rw[show r.pa.length=r.sigs.length by simp[Qaq.pa,Qaq.sigs]]at this;exact this
 have hps:∀ s∈r.sigs,s.params.length<=1000000000:=by
  intro s hs;unfold Qaq.sigs at hs;obtain⟨f,hf,rfl⟩:=List.mem_map.1 hs;have:=(hz.fn f hf).2.1
  show f.params.length<=_
  omega
 have hbA:Below w.heap.size w (w.alloc (.cells #[.slice fa r.funcs.length fc,.slice ca r.clauses.length cc,.int .i64 r.action] 25)):=zzb.alloc zzl _;have hbB:Below w.heap.size w ((w.alloc (.cells #[.slice fa r.funcs.length fc,.slice ca r.clauses.length cc,.int .i64 r.action] 25)).alloc (.cells #[.bool false,.int .i64 0,.slice fa r.funcs.length fc] 99)):=hbA.alloc (by simp) _;have HCP:Hid (((w.alloc (.cells #[.slice fa r.funcs.length fc,.slice ca r.clauses.length cc,.int .i64 r.action] 25)).alloc (.cells #[.bool false,.int .i64 0,.slice fa r.funcs.length fc] 99)).heap[w.heap.size]?=some (.cells #[.slice fa r.funcs.length fc,.slice ca r.clauses.length cc,.int .i64 r.action] 25 (0,0))):=Jg (zzw w _)
 have hflt:Qba ((w.alloc (.cells #[.slice fa r.funcs.length fc,.slice ca r.clauses.length cc,.int .i64 r.action] 25)).alloc (.cells #[.bool false,.int .i64 0,.slice fa r.funcs.length fc] 99)) (w.heap.size+1) 99 none (.slice fa r.funcs.length fc):=by
  have e1:=zzw (w.alloc (.cells #[.slice fa r.funcs.length fc,.slice ca r.clauses.length cc,.int .i64 r.action] 25)) (.cells #[.bool false,.int .i64 0,.slice fa r.funcs.length fc] 99);simp only[World.size_alloc]at e1;exact e1
 have HKX:Hid (∀ W,Chg [w.heap.size+1] ((w.alloc (.cells #[.slice fa r.funcs.length fc,.slice ca r.clauses.length cc,.int .i64 r.action] 25)).alloc (.cells #[.bool false,.int .i64 0,.slice fa r.funcs.length fc] 99)) W->Bel w W):=fun W hW=>QlO (rb:=w.heap.size+1) hbB (by omega) hW
 have HSG:Hid (∀ W,Chg [w.heap.size+1] ((w.alloc (.cells #[.slice fa r.funcs.length fc,.slice ca r.clauses.length cc,.int .i64 r.action] 25)).alloc (.cells #[.bool false,.int .i64 0,.slice fa r.funcs.length fc] 99)) W->Qdf W (w.heap.size+1) (.slice fa r.funcs.length fc) r.sigs):=fun W hW=>JcR hF (QlO (rb:=w.heap.size+1) hbB (by omega) hW) (by omega)
 have HIN:Hid (∀ W l v,Bel w W->QbF w (In w) l v->QbZ W (w.heap.size+1) v l):=fun W l v hb hn=>IntsX.away hn hb (by omega)
 have HFL:Hid (Qba ((w.alloc (.cells #[.slice fa r.funcs.length fc,.slice ca r.clauses.length cc,.int .i64 r.action] 25)).alloc (.cells #[.bool false,.int .i64 0,.slice fa r.funcs.length fc] 99)) (w.heap.size+1) 99 (QaK none (Qer r 0)) (.slice fa r.funcs.length fc)):=hflt;have HFX:=Zh hF;have HCX:=Zh hC;have HZ:=Zh hz;have HTF:=Zh htf;have HTC:=Zh htc;have HPS:=Zh hps;have hnf:=hz.nf;have hnc:=hz.nc;have HER:Hid (w.heap.size≠w.heap.size+1/\w.heap.size+1<((w.alloc (.cells #[.slice fa r.funcs.length fc,.slice ca r.clauses.length cc,.int .i64 r.action] 25)).alloc (.cells #[.bool false,.int .i64 0,.slice fa r.funcs.length fc] 99)).heap.size):=⟨by omega,by simp⟩
 clear hbA hbB hx hF hC hz hq hflt ht htf htc hps;go_enter func27,ntmps27;go_upto_region 1 with fail;have b0:(w.alloc (.cells #[.slice fa r.funcs.length fc,.slice ca r.clauses.length cc,.int .i64 r.action] 25)).cell? ⟨w.heap.size,0,none⟩=some (.slice fa r.funcs.length fc):=by rw[Ja (zzw w (.cells #[.slice fa r.funcs.length fc,.slice ca r.clauses.length cc,.int .i64 r.action] 25))];rfl
 go_upto_region 2 with fail;clear b0
 (try simp only[World.size_alloc])
 generalize World.alloc (World.alloc w _) _=w2 at *;generalize w.heap.size+1=rb at *;generalize w.heap.size=eb at *
 have FF:Hid (∀ W,Chg [rb] w2 W->W.cell? ⟨eb,0,none⟩=some (.slice fa r.funcs.length fc)/\W.cell? ⟨eb,1,none⟩=some (.slice ca r.clauses.length cc)/\W.cell? ⟨eb,2,none⟩=some (.int .i64 r.action)):=by
  intro W hW;have hh:=hW.heap_some (by simp;exact HER.out.1) HCP.out;refine⟨?_,?_,?_⟩<;>(rw[Ja hh];rfl)
 obtain⟨b0,b1,b2⟩:=FF.out _ (Chg.refl _ _);go_wp2_with fail;clear b0 b1 b2;go_loopg [15] r.funcs.length (fun g v15 wr=>∃ i:Nat,g+i=r.funcs.length/\v15=.int .i64 i/\Hid (Chg [rb] w2 wr)/\Hid (Qba wr rb 99 (QaK none (Qer r i)) (.slice fa r.funcs.length fc)))
 case atStart=>exact⟨0,rfl,rfl,Chg.refl _ _,HFL⟩
 case round=>
 clear HFL;obtain⟨wl,rfl⟩:∃ wl:World,wl=wr:=⟨_,rfl⟩
 obtain⟨i,hg,rfl,hbw,hft⟩:=hrel
 by_cases hi:i<r.funcs.length
 ·have hil:(i:Int)<(r.funcs.length:Int):=by omega
  obtain⟨f,hf⟩:∃ f,r.funcs[i]?=some f:=⟨r.funcs[i],getElem?_eq_getElem hi⟩
  have hmem:=List.mem_of_getElem? hf;have hXf:=HFX.out.up (HKX.out _ hbw.out);obtain⟨b,o,pa,pc,da,dc,hfa,hfc⟩:=hXf.get hf
  have hnums:QbF w (In w) f.params (.slice pa f.params.length pc):=by
   obtain⟨b9,o9,pa9,pc9,da9,dc9,hfa9,hfc9⟩:=HFX.out.get hf;rw[hfa]at hfa9;injection hfa9 with e9;injection e9 with e1 e2;subst e1 e2;have hlt:b<w.heap.size:=hfc9.blt;have h1:=hfc.c1;have h2:wl.cell? _=_:=((HKX.out _ hbw.out).cell (p:=⟨b,o+i*7+1,none⟩) hlt).trans hfc9.c1;rw[h1]at h2;injection h2 with h2;rw[h2];exact hfc9.nums
  obtain⟨_,hple,hnm,hsz⟩:=HZ.out.fn f hmem;have c0:=hfc.c0;have c1:=hfc.c1;have c2:=hfc.c2;have c3:=hfc.c3;have c4:=hfc.c4;have c5:=hfc.c5;have c6:=hfc.c6;have wk:IntKind.i64.wrap ((i:Int)+1)=(i:Int)+1:=IntWalk.i64_in _ (by omega);have hb2:Below wl.heap.size wl (wl.alloc (.cells #[.string (bs f.name),.slice pa f.params.length pc,.int .i64 f.result,.int .i64 f.body.kind,.int .i64 f.body.num,.string (bs f.body.name),.slice da f.body.kids.length dc] 44)):=zzb.alloc zzl _;have hbx:Chg [rb] w2 (wl.alloc (.cells #[.string (bs f.name),.slice pa f.params.length pc,.int .i64 f.result,.int .i64 f.body.kind,.int .i64 f.body.num,.string (bs f.body.name),.slice da f.body.kids.length dc] 44)):=hbw.out.trans (Chg.of_below hb2 [rb]);have HNB:=Zh (zzw wl (.cells #[.string (bs f.name),.slice pa f.params.length pc,.int .i64 f.result,.int .i64 f.body.kind,.int .i64 f.body.num,.string (bs f.body.name),.slice da f.body.kids.length dc] 44));have HXB:Hid (∀ W,Bel (wl.alloc (.cells #[.string (bs f.name),.slice pa f.params.length pc,.int .i64 f.result,.int .i64 f.body.kind,.int .i64 f.body.num,.string (bs f.body.name),.slice da f.body.kids.length dc] 44)) W->XAt W (In W) f.body #[.int .i64 f.body.kind,.int .i64 f.body.num,.string (bs f.body.name),.slice da f.body.kids.length dc]):=fun W hW=>(hfc.body.up hb2).up hW
  have HFT:Hid (Qba (wl.alloc (.cells #[.string (bs f.name),.slice pa f.params.length pc,.int .i64 f.result,.int .i64 f.body.kind,.int .i64 f.body.num,.string (bs f.body.name),.slice da f.body.kids.length dc] 44)) rb 99 (QaK none (Qer r i)) (.slice fa r.funcs.length fc)):=(hb2.block _ (Jb hft.out)).trans hft.out;obtain⟨hty,hwf⟩:=HTF.out f hmem;have HTY:=Zh hty;have HWF:=Zh hwf;have HS:Hid (siz (utN f.body)<=1000000/\f.params.length<=1000000):=⟨hsz,hple⟩
  have HNU:=Zh hnums;have HY:=Zh (JgL hf);have HCB:=Zh hbx;have HG:=Zh hg;have HHI:=Zh hi;have HRB:Hid (rb<wl.heap.size):=Jb hft.out;have HEQ:=Zh hfa;subst hfa;clear hb2 hbx hmem hfc hbw hf hi hg hXf hnm hsz hple hft hty hwf hnums HEQ;go_upto_region 5 with fail;clear c0 c1 c2 c3 c4 c5 c6;generalize World.alloc wl _=w3 at *;generalize hcb:wl.heap.size=cb at *
  have F3:Hid (∀ W,Chg [rb] w3 W->W.cell? ⟨cb,1,none⟩=some (.slice pa f.params.length pc)/\W.cell? ⟨cb,2,none⟩=some (.int .i64 f.result)/\W.cell? ⟨cb,3,none⟩=some (.int .i64 f.body.kind)/\W.cell? ⟨cb,4,none⟩=some (.int .i64 f.body.num)/\W.cell? ⟨cb,5,none⟩=some (.string (bs f.body.name))/\W.cell? ⟨cb,6,none⟩=some (.slice da f.body.kids.length dc)):=by
   intro W hW;have hh:=hW.heap_some (by simp;have:=HRB.out;omega) HNB.out;refine⟨?_,?_,?_,?_,?_,?_⟩<;>(rw[Ja hh];rfl)
  clear hcb;have hd3:Chg [rb] w3 w3.drew:=Chg.of_below (Below.refl w3.heap.size w3).drew [rb];refine wp_region_held_drew (S:=(fun W=>Chg [rb] w3 W/\W.cell? ⟨cb,1,none⟩=some (.slice pa f.params.length pc)/\W.cell? ⟨cb,2,none⟩=some (.int .i64 f.result)/\W.cell? ⟨cb,3,none⟩=some (.int .i64 f.body.kind)/\W.cell? ⟨cb,4,none⟩=some (.int .i64 f.body.num)/\W.cell? ⟨cb,5,none⟩=some (.string (bs f.body.name))/\W.cell? ⟨cb,6,none⟩=some (.slice da f.body.kids.length dc))) (by kernel_rfl) (⟨hd3,F3.out _ hd3⟩) (fun hH=>?_);refine ZT (i:=0) (v:=?vR0) rfl (Or.inl ⟨by rfl,?yR0⟩) ?_
  case yR0=>exact ZyQ
  try simp only[Act.put,ZA,ZB,ZC]
  refine ZT (i:=1) (v:=?vR1) rfl (Or.inl ⟨by rfl,?yR1⟩) ?_
  case yR1=>exact ZyQ
  try simp only[Act.put,ZA,ZB,ZC]
  refine ZT (i:=2) (v:=?vR2) rfl (Or.inl ⟨by rfl,?yR2⟩) ?_
  case yR2=>exact ZyQ
  try simp only[Act.put,ZA,ZB,ZC]
  refine ZT (i:=4) (v:=?vR4) rfl (Or.inl ⟨by rfl,?yR4⟩) ?_
  case yR4=>exact ZyQ
  try simp only[Act.put,ZA,ZB,ZC]
  refine ZT (i:=5) (v:=?vR5) rfl (Or.inl ⟨by rfl,?yR5⟩) ?_
  case yR5=>exact ZyQ
  try simp only[Act.put,ZA,ZB,ZC]
  refine ZT (i:=6) (v:=?vR6) rfl (Or.inl ⟨by rfl,?yR6⟩) ?_
  case yR6=>exact ZyQ
  try simp only[Act.put,ZA,ZB,ZC]
  refine ZT (i:=7) (v:=?vR7) rfl (Or.inl ⟨by rfl,?yR7⟩) ?_
  case yR7=>exact ZyQ
  try simp only[Act.put,ZA,ZB,ZC]
  refine ZS 3 rfl (fun K hK=>?_);have cu:=Yk (siz (utN f.body)) (by have:=HS.out.1;omega) f.body _ w3.drew zzl (HXB.out _ (Below.refl w3.heap.size w3).drew)
  (go_simp;go_at_call 56;refine cu.mono ?_;rintro e w6 ⟨yb,rfl,hn6,hat6,hft6,hb6⟩)
  clear cu;have hc6:Chg [rb] w3 w6:=hd3.trans (Chg.of_below hb6 [rb]);have hb36:Below w3.heap.size w3 w6:=Jd (Below.refl w3.heap.size w3).drew hb6;have hfl6:Qba w6 rb 99 (QaK none (Qer r i)) (.slice (some ⟨b,o,none⟩) r.funcs.length fc):=(hb36.block _ (Jb HFT.out)).trans HFT.out;have hrb3:=Jb HFT.out;have HC7:=Zh hc6;have cn:=JH r.sigs rb (.slice (some ⟨b,o,none⟩) r.funcs.length fc) yb f.params (.slice pa f.params.length pc) (QaK none (Qer r i)) f.result w6 ⟨hat6,fun hm=>by have:=(hft6 _ hm).1;have h9:w3.heap.size<=w3.drew.heap.size:=Nat.le_refl _;omega,hfl6,HSG.out _ (HCB.out.trans hc6),HIN.out _ _ _ (HKX.out _ (HCB.out.trans hc6)) HNU.out,by rw[hn6];exact HTY.out,by rw[hn6];exact HWF.out⟩ (fun W hp=>Jby _ rb _ HPS.out (siz yb.nd) yb f.params (.slice pa f.params.length pc) _ W zzl (by have:=HS.out;rw[hn6];omega) hp);rw[hn6]at cn;have hEE:Qbz r.sigs f.params f.result (utN f.body)=tyF r f:=rfl;rw[hEE]at cn;obtain⟨ya,yn,yc,hcy⟩:=Jf yb;rw[hcy]at cn |-;clear hn6 hat6 hft6 hb6 hb36 hfl6 hrb3 hcy;refine hK.out _ _ (⟨HC7.out,F3.out _ HC7.out⟩) (fun hH=>?_);clear hK K
  try simp only[Act.put,ZA,ZB,ZC]
  refine ZS 8 rfl (fun K hK=>?_)
  (go_simp;go_at_call 55;refine cn.mono ?_;rintro e w8 ⟨rfl,hf8,hc8⟩)
  clear cn;refine hK.out _ _ (⟨HC7.out.trans hc8,F3.out _ (HC7.out.trans hc8)⟩) (fun hH=>?_);clear hK K
  try simp only[Act.put,ZA,ZB,ZC]
  refine wpAnyH_done (by kernel_rfl) ?_ _;have HC8:Hid (Chg [rb] w2 w8):=HCB.out.trans (HC7.out.trans hc8);have HF8:Hid (Qba w8 rb 99 (QaK none (Qer r (i+1))) (.slice (some ⟨b,o,none⟩) r.funcs.length fc)):=by rw[Hid,HY.out,Jv];exact hf8
  clear hH hf8 hc8 HCB HFT;go_wp2;go_roundg (r.funcs.length-(i+1))
  case measure=>have:=HG.out;have:=HHI.out;omega
  case rel=>exact⟨i+1,by have:=HHI.out;omega,by go_num,HC8,HF8⟩
 have hil:¬ (i:Int)<(r.funcs.length:Int):=by omega
 obtain rfl:i=r.funcs.length:=by omega
 obtain⟨b0,b1,b2⟩:=FF.out _ hbw.out;have HBW:=Zh hbw.out;have HFT:Hid (Qba wl rb 99 (QaK none (Qer r r.funcs.length++Qfx r 0)) (.slice fa r.funcs.length fc)):=by rw[Hid,show Qfx r 0=[] from rfl,List.append_nil];exact hft.out
 clear hft hg hi hbw;go_wp2_with fail;clear b0 b1 b2 hil;go_loopg [32] r.clauses.length (fun g v32 wr=>∃ j:Nat,g+j=r.clauses.length/\v32=.int .i64 j/\Hid (Chg [rb] w2 wr)/\Hid (Qba wr rb 99 (QaK none (Qer r r.funcs.length++Qfx r j)) (.slice fa r.funcs.length fc)))
 case atStart=>exact⟨0,rfl,rfl,HBW,HFT⟩
 case round=>
 clear HBW HFT;obtain⟨wm,rfl⟩:∃ wm:World,wm=wr:=⟨_,rfl⟩
 obtain⟨j,hg,rfl,hbw,hft⟩:=hrel
 by_cases hj:j<r.clauses.length
 ·have hjl:(j:Int)<(r.clauses.length:Int):=by omega
  obtain⟨m,hm⟩:∃ m,r.clauses[j]?=some m:=⟨r.clauses[j],getElem?_eq_getElem hj⟩
  have hmem:=List.mem_of_getElem? hm;have hXc:=HCX.out.up (HKX.out _ hbw.out);obtain⟨b,o,da,dc,hca,hfc⟩:=hXc.get hm;obtain⟨hnm,hsz,hrl⟩:=HZ.out.cl m hmem;have c0:=hfc.c0;have c1:=hfc.c1;have c2:=hfc.c2;have c3:=hfc.c3;have c4:=hfc.c4;have c5:=hfc.c5;have wk:IntKind.i64.wrap ((j:Int)+1)=(j:Int)+1:=IntWalk.i64_in _ (by omega);have hb2:Below wm.heap.size wm (wm.alloc (.cells #[.int .i64 m.cond.kind,.int .i64 m.cond.num,.string (bs m.cond.name),.slice da m.cond.kids.length dc,.int .i64 m.action,.string (bs m.reason)] 32)):=zzb.alloc zzl _;have hbx:Chg [rb] w2 (wm.alloc (.cells #[.int .i64 m.cond.kind,.int .i64 m.cond.num,.string (bs m.cond.name),.slice da m.cond.kids.length dc,.int .i64 m.action,.string (bs m.reason)] 32)):=hbw.out.trans (Chg.of_below hb2 [rb]);have cu:=Yk (siz (utN m.cond)) (by omega) m.cond _ (wm.alloc (.cells #[.int .i64 m.cond.kind,.int .i64 m.cond.num,.string (bs m.cond.name),.slice da m.cond.kids.length dc,.int .i64 m.action,.string (bs m.reason)] 32)) zzl (hfc.cond.up hb2);have HFT:Hid (Qba (wm.alloc (.cells #[.int .i64 m.cond.kind,.int .i64 m.cond.num,.string (bs m.cond.name),.slice da m.cond.kids.length dc,.int .i64 m.action,.string (bs m.reason)] 32)) rb 99 (QaK none (Qer r r.funcs.length++Qfx r j)) (.slice fa r.funcs.length fc)):=(hb2.block _ (Jb hft.out)).trans hft.out;obtain⟨hty,hwf⟩:=HTC.out m hmem;have HTY:=Zh hty;have HWF:=Zh hwf;have HS:=Zh hsz;have HY:=Zh (JgM hm);have HCB:=Zh hbx;have HG:=Zh hg;have HHI:=Zh hj;subst hca;clear hb2 hbx hmem hfc hbw hm hj hg hXc hnm hsz hrl hft hty hwf;go_wp2_with fail;clear c0 c1 c2 c3 c4 c5;generalize World.alloc wm _=w3 at *;refine cu.mono ?_;rintro e w6 ⟨yb,rfl,hn6,hat6,hft6,hb6⟩;clear cu;have HC6:Hid (Chg [rb] w2 w6):=HCB.out.trans (Chg.of_below hb6 [rb]);have hfl6:Qba w6 rb 99 (QaK none (Qer r r.funcs.length++Qfx r j)) (.slice fa r.funcs.length fc):=(hb6.block _ (Jb HFT.out)).trans HFT.out;have hrb3:=Jb HFT.out;have cn:=JH r.sigs rb (.slice fa r.funcs.length fc) yb [] (.slice none 0 0) (QaK none (Qer r r.funcs.length++Qfx r j)) 1 w6 ⟨hat6,fun hm=>by have:=(hft6 _ hm).1;omega,hfl6,HSG.out _ HC6.out,.inl ⟨rfl,none,0,rfl⟩,by rw[hn6];exact HTY.out,by rw[hn6];exact HWF.out⟩ (fun W hp=>Jby _ rb _ HPS.out (siz yb.nd) yb [] (.slice none 0 0) _ W zzl (by have:=HS.out;have:([]:List Int).length=0:=rfl;rw[hn6];omega) hp);rw[hn6]at cn;have hEE:Qbz r.sigs [] 1 (utN m.cond)=tyC r m:=rfl;rw[hEE]at cn;obtain⟨ya,yn,yc,hcy⟩:=Jf yb;rw[hcy]at cn |-;clear hn6 hat6 hft6 hb6 hfl6 hrb3 HFT HCB hcy;go_wp2_with fail;refine cn.mono ?_;rintro e w8 ⟨rfl,hf8,hc8⟩;have HC8:Hid (Chg [rb] w2 w8):=HC6.out.trans hc8;have HF8:Hid (Qba w8 rb 99 (QaK none (Qer r r.funcs.length++Qfx r (j+1))) (.slice fa r.funcs.length fc)):=by rw[Hid,HY.out,<- List.append_assoc,Jv];exact hf8
  clear cn hf8 hc8 HC6;go_wp2;go_roundg (r.clauses.length-(j+1))
  case measure=>have:=HG.out;have:=HHI.out;omega
  case rel=>exact⟨j+1,by have:=HHI.out;omega,by go_num,HC8,HF8⟩
 have hjl:¬ (j:Int)<(r.clauses.length:Int):=by omega
 obtain rfl:j=r.clauses.length:=by omega
 have HBW:=Zh (HKX.out _ hbw.out);have hfl:=hft.out;unfold Qba at hfl;generalize QaK none (Qer r r.funcs.length++Qfx r r.clauses.length)=x at *;have b0:=Ja hfl 0;simp only[ZD,ZE,ZF]at b0;clear hft hg hj hbw hfl
 cases x with
 |none=>
  go_wp2;go_ret;exact⟨rfl,HBW.out⟩
 |some z=>
  go_wp2;go_ret;exact⟨rfl,HBW.out⟩
def QbD(w:World)(b n:Nat)(S:List (List UInt8)):Prop:=
 ∃ D:DataW Unit,w.ownsMap prog 9 (plainElem prog 4) b n D/\Go.Maps.IsMap D/\
  ∀ s:List UInt8,s.length<=1000000->D.atKey (.string s) (.lit (.bool false))=.lit (.bool (decide (s∈S)))
theorem Qhv(w:World):(zeroValue 4).run prog w=.ok (.bool false) w:=by kernel_rfl
theorem JaK{P:Program}{e:TypeId}(he:P.underlying e=some .bool){v:Value}{z:DataW Unit × List MemPlace}(h:plainElem P e v=some z):∃ x,v=.bool x/\z=(.lit (.bool x),[]):=by
 unfold plainElem at h;rw[he]at h
 cases v<;>simp at h
 exact⟨_,rfl,h.symm⟩
theorem QbD.look{w:World}{b n:Nat}{S:List (List UInt8)}(h:QbD w b n S){s:List UInt8}(hs:s.length<=1000000) :
  (Instr.lookup 58 (.map (some b)) (.string (bs s)) false).run prog w=.ok (.bool (decide (s∈S))) w:=by
 obtain⟨D,ho,hm,hf⟩:=h;obtain⟨v,ps,hrun,hv⟩:=ho.lookup Qcn underlying58 (Qhv w) (plainElem_bool underlying4 false) (YB hs);rw[hrun];rw[hf s hs]at hv;obtain⟨c,rfl,hc⟩:=JaK underlying4 hv;simp only[Prod.mk.injEq,DataW.lit.injEq,Lit.bool.injEq]at hc;rw[<- hc.1]
theorem QbD.upd{w:World}{b n:Nat}{S:List (List UInt8)}(h:QbD w b n S)(hn:n<maxLen){s:List UInt8}(hs:s.length<=1000000) :
  ∃ w',(Instr.mapUpdate 58 (.map (some b)) (.string (bs s)) (.bool true)).run prog w=.ok () w'/\QbD w' b (n+1) (S++[s])/\Chg [b] w w':=by
 obtain⟨D,ho,hm,hf⟩:=h;have hk:=YB hs;obtain⟨w',hrun,ho',hg⟩:=ho.update Qcn underlying58 hn hk (plainElem_bool underlying4 true);refine⟨w',hrun,⟨_,ho',hm.put _ _,fun x hx=>?_⟩,Chg.of_grownBy hg⟩
 by_cases e:x=s
 ·subst e;rw[Go.Maps.atKey_put_same hm (Qcn.key hk)];simp
 ·have hne:(Lit.string x)≠Lit.string s:=fun h=>e (by injection h)
  rw[Go.Maps.atKey_put_other hne,hf x hx];simp[e]
theorem QbD.new(w:World):QbD (w.alloc (.map #[] 0)) w.heap.size 0 []:=
 ⟨.map [],World.ownsMap_made w _ _ _,Go.Maps.isMap_empty,fun _ _=>rfl⟩
theorem QbD.lt{w:World}{b n:Nat}{S:List (List UInt8)}(h:QbD w b n S):b<w.heap.size:=h.choose_spec.1.lt
theorem QbD.same{w w':World}{b n:Nat}{S:List (List UInt8)}(h:QbD w b n S)(hc:w'.heap[b]?=w.heap[b]?):QbD w' b n S:=by
 obtain⟨D,⟨es,clock,hb,r⟩,q⟩:=h;exact⟨D,⟨es,clock,hc.trans hb,r⟩,q⟩
theorem JgO{s:List UInt8}(h:Qar s=true):s.length<=24:=by
 unfold Qar at h;split at h
 ·cases h
 ·simp only[Bool.and_eq_true,decide_eq_true_eq]at h;exact h.1.1.1.1
theorem JeK{l:List FnM}{i:Nat}{f:FnM}{nm:Bool}(h:QbM ((l.take i).map (·.name)) (l.drop i)=nm)(hi:l[i]?=some f) :
  (Qar f.name&&!decide (f.name∈(l.take i).map (·.name))&&Qcb f.result&&f.params.all Qcb&&QbM ((l.take (i+1)).map (·.name)) (l.drop (i+1)))=nm:=by
 obtain⟨hlt,he⟩:=List.getElem?_eq_some_iff.1 hi;rw[List.drop_eq_getElem_cons hlt,he,QbM]at h;rw[List.take_add_one,hi,List.map_append];exact h
theorem Jae{t:Int}(h0:¬ t=0)(h1:¬ t=1):Qcb t=false:=by
 unfold Qcb;rw[zzq h0,zzq h1];rfl
def clB(c:ClM):Bool:=QeU c.action&&QcN c.reason
theorem JlV(l:List ClM):Qjs l=l.all clB:=rfl
theorem Zu(r:Qaq)(c:Array Value)(w:World)(hx:QaZ w (In w) r c)(hz:RSz r):Calls prog 10 #[.agg c] w (Qck w (.bool (QcG r))):=by
 obtain⟨fa,fc,ca,cc,rfl,hF,hC⟩:=hx.parts;obtain⟨nm,hnm⟩:∃ nm,QbM [] r.funcs=nm:=⟨_,rfl⟩
 obtain⟨q,hq⟩:∃ q,QcG r=q:=⟨_,rfl⟩
 rw[hq];unfold QcG at hq;rw[hnm]at hq;have HQ:=Zh hq;have HNM:Hid (QbM ((r.funcs.take 0).map (·.name)) (r.funcs.drop 0)=nm):=hnm;have hbA:Below w.heap.size w (w.alloc (.cells #[.slice fa r.funcs.length fc,.slice ca r.clauses.length cc,.int .i64 r.action] 25)):=zzb.alloc zzl _;have hbB:Below w.heap.size w ((w.alloc (.cells #[.slice fa r.funcs.length fc,.slice ca r.clauses.length cc,.int .i64 r.action] 25)).alloc (.map #[] 0)):=hbA.alloc (by simp) _;have HCP:Hid (((w.alloc (.cells #[.slice fa r.funcs.length fc,.slice ca r.clauses.length cc,.int .i64 r.action] 25)).alloc (.map #[] 0)).heap[w.heap.size]?=some (.cells #[.slice fa r.funcs.length fc,.slice ca r.clauses.length cc,.int .i64 r.action] 25 (0,0))):=Jg (zzw w _)
 have hmp:QbD ((w.alloc (.cells #[.slice fa r.funcs.length fc,.slice ca r.clauses.length cc,.int .i64 r.action] 25)).alloc (.map #[] 0)) (w.heap.size+1) 0 ((r.funcs.take 0).map (·.name)):=by
  have e1:=QbD.new (w.alloc (.cells #[.slice fa r.funcs.length fc,.slice ca r.clauses.length cc,.int .i64 r.action] 25));simp only[World.size_alloc]at e1;exact e1
 have HMP:=Zh hmp;have HKX:Hid (∀ W,Chg [w.heap.size+1] ((w.alloc (.cells #[.slice fa r.funcs.length fc,.slice ca r.clauses.length cc,.int .i64 r.action] 25)).alloc (.map #[] 0)) W->Bel w W):=fun W hW=>QlO (rb:=w.heap.size+1) hbB (by omega) hW
 have HFX:=Zh hF;have HCX:=Zh hC;have HXX:=Zh hx;have HZ:=Zh hz;have hnf:=hz.nf;have hnc:=hz.nc;have HER:Hid (w.heap.size≠w.heap.size+1):=by unfold Hid;omega
 have HWB:Hid (∀ b,In w b->b≠w.heap.size+1):=by intro b hb e;unfold In at hb;omega
 clear hbA hbB hx hF hC hz hq hnm hmp;have hmm:=@run_makeMap prog;go_enter func10,ntmps10;go_upto_region 2 with fail;clear hmm
 (try simp only[World.size_alloc])
 generalize World.alloc (World.alloc w _) _=w2 at *;generalize w.heap.size+1=mb at *;generalize w.heap.size=eb at *
 have FF:Hid (∀ W,Chg [mb] w2 W->W.cell? ⟨eb,0,none⟩=some (.slice fa r.funcs.length fc)/\W.cell? ⟨eb,1,none⟩=some (.slice ca r.clauses.length cc)/\W.cell? ⟨eb,2,none⟩=some (.int .i64 r.action)):=by
  intro W hW;have hh:=hW.heap_some (by simp;exact HER.out) HCP.out;refine⟨?_,?_,?_⟩<;>(rw[Ja hh];rfl)
 obtain⟨b0,b1,b2⟩:=FF.out _ (Chg.refl _ _);go_wp2_with fail;clear b0 b1 b2;go_loopg [14] r.funcs.length (fun g v14 wr=>∃ i:Nat,g+i=r.funcs.length/\v14=.int .i64 i/\Hid (Chg [mb] w2 wr)/\Hid (QbD wr mb i ((r.funcs.take i).map (·.name)))/\Hid (QbM ((r.funcs.take i).map (·.name)) (r.funcs.drop i)=nm))
 case atStart=>exact⟨0,rfl,rfl,Chg.refl _ _,HMP,HNM⟩
 case round=>
 clear HMP HNM;obtain⟨wl,rfl⟩:∃ wl:World,wl=wr:=⟨_,rfl⟩
 obtain⟨i,hg,rfl,hbw,hmp,hns⟩:=hrel
 by_cases hi:i<r.funcs.length
 ·have hil:(i:Int)<(r.funcs.length:Int):=by omega
  obtain⟨f,hf⟩:∃ f,r.funcs[i]?=some f:=⟨r.funcs[i],getElem?_eq_getElem hi⟩
  have hmem:=List.mem_of_getElem? hf;have hXf:=HFX.out.up (HKX.out _ hbw.out);obtain⟨b,o,pa,pc,da,dc,hfa,hfc⟩:=hXf.get hf;have hnums:=hfc.nums
  have HNW:Hid (∀ {j:Nat} {t:Int},f.params[j]?=some t->∃ b8 o8,pa=some ⟨b8,o8,none⟩/\b8≠mb):=by
   intro j t hj;obtain⟨b9,o9,pa9,pc9,da9,dc9,hfa9,hfc9⟩:=HFX.out.get hf;rw[hfa]at hfa9;injection hfa9 with e9;injection e9 with e1 e2;subst e1 e2;have hlt:b<w.heap.size:=hfc9.blt;have h1:=hfc.c1;have h2:wl.cell? _=_:=((HKX.out _ hbw.out).cell (p:=⟨b,o+i*7+1,none⟩) hlt).trans hfc9.c1;rw[h1]at h2;injection h2 with h2;injection h2 with h5 h6 h7;subst h5 h7;obtain⟨b8,o8,g1,g2,_⟩:=hfc9.nums.get hj;exact⟨b8,o8,g1,fun e=>HWB.out b8 g2 e⟩
  obtain⟨hnl,hple,_,_⟩:=HZ.out.fn f hmem;have c0:=hfc.c0;have c1:=hfc.c1;have c2:=hfc.c2;have c3:=hfc.c3;have c4:=hfc.c4;have c5:=hfc.c5;have c6:=hfc.c6;have wk:IntKind.i64.wrap ((i:Int)+1)=(i:Int)+1:=IntWalk.i64_in _ (by omega);have hb2:Below wl.heap.size wl (wl.alloc (.cells #[.string (bs f.name),.slice pa f.params.length pc,.int .i64 f.result,.int .i64 f.body.kind,.int .i64 f.body.num,.string (bs f.body.name),.slice da f.body.kids.length dc] 44)):=zzb.alloc zzl _;have hbx:Chg [mb] w2 (wl.alloc (.cells #[.string (bs f.name),.slice pa f.params.length pc,.int .i64 f.result,.int .i64 f.body.kind,.int .i64 f.body.num,.string (bs f.body.name),.slice da f.body.kids.length dc] 44)):=hbw.out.trans (Chg.of_below hb2 [mb]);have hmp3:QbD (wl.alloc (.cells #[.string (bs f.name),.slice pa f.params.length pc,.int .i64 f.result,.int .i64 f.body.kind,.int .i64 f.body.num,.string (bs f.body.name),.slice da f.body.kids.length dc] 44)) mb i ((r.funcs.take i).map (·.name)):=hmp.out.same (hb2.block _ hmp.out.lt);have HNB:=Zh (zzw wl (.cells #[.string (bs f.name),.slice pa f.params.length pc,.int .i64 f.result,.int .i64 f.body.kind,.int .i64 f.body.num,.string (bs f.body.name),.slice da f.body.kids.length dc] 44));have HNU:Hid (QbF (wl.alloc (.cells #[.string (bs f.name),.slice pa f.params.length pc,.int .i64 f.result,.int .i64 f.body.kind,.int .i64 f.body.num,.string (bs f.body.name),.slice da f.body.kids.length dc] 44)) (In (wl.alloc (.cells #[.string (bs f.name),.slice pa f.params.length pc,.int .i64 f.result,.int .i64 f.body.kind,.int .i64 f.body.num,.string (bs f.body.name),.slice da f.body.kids.length dc] 44))) f.params (.slice pa f.params.length pc)):=QbF.up hnums hb2;have HNS:=Zh (JeK hns.out hf);have HMP:=Zh hmp3;have HCB:=Zh hbx;have HFI:=Zh hf
  have HNO:Hid (∀ b9 o9,pa=some ⟨b9,o9,none⟩->0<f.params.length->b9≠mb):=by
   intro b9 o9 h1 hp e;obtain⟨b8,o8,h2,h3⟩:=HNW.out (getElem?_eq_getElem hp);rw[h1]at h2;injection h2 with h2;injection h2 with h4;exact h3 (h4.symm.trans e)
  have HG:=Zh hg;have HHI:=Zh hi;have HRB:Hid (wl.heap.size≠mb):=by have:=hmp.out.lt;unfold Hid;omega
  subst hfa;clear hb2 hbx hmem hfc hbw hg hXf hmp hmp3 hnums hns hf hi;go_upto_region 5 with fail;clear c0 c1 c2 c3 c4 c5 c6;generalize World.alloc wl _=w3 at *;generalize wl.heap.size=cb at *
  have F3:Hid (∀ W,Chg [mb] w3 W->W.cell? ⟨cb,0,none⟩=some (.string (bs f.name))/\W.cell? ⟨cb,1,none⟩=some (.slice pa f.params.length pc)/\W.cell? ⟨cb,2,none⟩=some (.int .i64 f.result)):=by
   intro W hW;have hh:=hW.heap_some (by simp;exact HRB.out) HNB.out;refine⟨?_,?_,?_⟩<;>(rw[Ja hh];rfl)
  have HFIN:Hid (Bel w w3):=HKX.out _ HCB.out;obtain⟨d0,d1,d2⟩:=F3.out _ (Chg.refl _ _);have ci:=JgA f.name w3 hnl;go_wp2_with fail;refine ci.mono ?_;rintro e w4 ⟨rfl,rfl⟩;clear ci
  cases hid:Qar f.name with
  |false=>
   have hqf:q=false:=by
    have h1:=HNS.out;rw[hid]at h1;simp only[Bool.false_and]at h1;rw[<- HQ.out,<- h1];rfl
   subst hqf;clear hid;go_wp2;go_ret;exact⟨rfl,HFIN.out⟩
  |true=>
  have hl24:=JgO hid;have hlk:=HMP.out.look (s:=f.name) (by omega)
  replace HNS:Hid ((!decide (f.name∈(r.funcs.take i).map (·.name))&&Qcb f.result&&f.params.all Qcb&&QbM ((r.funcs.take (i+1)).map (·.name)) (r.funcs.drop (i+1)))=nm):=by
   have h1:=HNS.out;rw[hid]at h1;simp only[Bool.true_and]at h1;exact h1
  have HSN:Hid ((r.funcs.take (i+1)).map (·.name)=(r.funcs.take i).map (·.name)++[f.name] ):=by
   have hfi:r.funcs[i]?=some f:=HFI.out;rw[Hid,List.take_add_one,hfi,List.map_append];rfl
  clear hid
  by_cases hin:f.name∈(r.funcs.take i).map (·.name)
  ·rw[decide_eq_true hin]at hlk
   have hqf:q=false:=by
    have h1:=HNS.out;rw[decide_eq_true hin]at h1;simp only[Bool.not_true,Bool.false_and]at h1;rw[<- HQ.out,<- h1];rfl
   subst hqf;clear hin;go_wp2;go_ret;exact⟨rfl,HFIN.out⟩
  rw[decide_eq_false hin]at hlk
  replace HNS:Hid ((Qcb f.result&&f.params.all Qcb&&QbM ((r.funcs.take (i+1)).map (·.name)) (r.funcs.drop (i+1)))=nm):=by
   have h1:=HNS.out;rw[decide_eq_false hin]at h1;simp only[Bool.not_false,Bool.true_and]at h1;exact h1
  clear hin
  by_cases ht:f.result=0\/f.result=1
  ·replace HNS:Hid ((f.params.all Qcb&&QbM ((r.funcs.take (i+1)).map (·.name)) (r.funcs.drop (i+1)))=nm):=by
    have h1:=HNS.out;have h2:Qcb f.result=true:=by rcases ht with h|h<;>(rw[h];rfl)
    rw[h2]at h1;simp only[Bool.true_and]at h1;exact h1
   obtain⟨w5,hup,hmp5,hc5⟩:=HMP.out.upd (by unfold maxLen;omega) (s:=f.name) (by omega);have HC5:Hid (Chg [mb] w2 w5):=HCB.out.trans hc5;have HM5:Hid (QbD w5 mb (i+1) ((r.funcs.take (i+1)).map (·.name))):=by rw[Hid,HSN.out];exact hmp5
   obtain⟨e0,e1,e2⟩:=F3.out _ hc5;have HFI5:Hid (Bel w w5):=HKX.out _ HC5.out
   have HN5:Hid (∀ j t,f.params[j]?=some t->∃ b o,pa=some ⟨b,o,none⟩/\w5.cell? ⟨b,o+j,none⟩=some (.int .i64 t)):=by
    intro j t hj;obtain⟨b9,o9,h1,h2,h3⟩:=HNU.out.get hj;exact⟨b9,o9,h1,hc5.cell_some (p:=⟨b9,o9+j,none⟩) (by simp;exact HNO.out b9 o9 h1 (Nat.lt_of_le_of_lt (Nat.zero_le _) (List.getElem?_eq_some_iff.1 hj).1)) h3⟩
   obtain⟨pl,hpl⟩:∃ pl,f.params.length=pl:=⟨_,rfl⟩
   have HPL:=Zh hpl;rw[hpl]at d1 e1 hple;have wj:∀ j:Nat,j<pl->IntKind.i64.wrap ((j:Int)+1)=(j:Int)+1:=fun j hj=>IntWalk.i64_in _ (by omega)
   have HWJ:=Zh wj;clear hmp5 hc5 HMP wj hpl
   rcases ht with ht|ht
   all_goals
    rw[ht]at d2 e2;clear ht;go_wp2_with fail;clear d0 d1 d2 e0 e1 e2 hlk hup;go_loop [44] (fun v=>∃ j:Nat,v=.int .i64 j/\j<=pl/\Hid ((f.params.take j).all Qcb=true)) (fun v=>pl-(intOf v).toNat)
    case atStart=>exact⟨0,rfl,Nat.zero_le _,rfl⟩
    case round=>
    obtain⟨j,rfl,hj,hal⟩:=hrel
    by_cases hjp:j<pl
    ·have hjl:(j:Int)<(pl:Int):=by omega
     have wk2:=HWJ.out j hjp;obtain⟨t,htj⟩:∃ t,f.params[j]?=some t:=⟨f.params[j]'(by rw[HPL.out];exact hjp),getElem?_eq_getElem _⟩
     obtain⟨b9,o9,h1,h2⟩:=HN5.out j t htj;have HTJ:=Zh htj;subst h1;clear htj
     by_cases t0:t=0
     ·have HAL:=Zh (K2 hal.out HTJ.out (by rw[t0];rfl));subst t0;clear hal HTJ;go_wp2;go_round
      case rel=>exact⟨j+1,by go_num,hjp,HAL⟩
      case measure=>simp[intOf];omega
     have n0:(t !=0)=true:=by rw[bne,zzq t0];rfl
     by_cases t1:t=1
     ·have HAL:=Zh (K2 hal.out HTJ.out (by rw[t1];rfl));subst t1;clear hal HTJ t0;go_wp2;go_round
      case rel=>exact⟨j+1,by go_num,hjp,HAL⟩
      case measure=>simp[intOf];omega
     have n1:(t !=1)=true:=by rw[bne,zzq t1];rfl
     have hqf:q=false:=by
      have h1:=HNS.out;rw[V2 HTJ.out (Jae t0 t1)]at h1;simp only[Bool.false_and]at h1;rw[<- HQ.out,<- h1];rfl
     subst hqf;clear hal HTJ t0 t1;go_wp2;go_ret;exact⟨rfl,HFI5.out⟩
    ·have hjl:¬ (j:Int)<(pl:Int):=by omega
     obtain rfl:j=pl:=by omega
     replace HNS:Hid (QbM ((r.funcs.take (i+1)).map (·.name)) (r.funcs.drop (i+1))=nm):=by
      have h1:=HNS.out;have h2:=hal.out;rw[<- HPL.out,take_length]at h2;rw[h2]at h1;simp only[Bool.true_and]at h1;exact h1
     clear hal hjp hj;go_wp2;go_roundg (r.funcs.length-(i+1))
     case measure=>have:=HG.out;have:=HHI.out;omega
     case rel=>exact⟨i+1,by have:=HHI.out;omega,by go_num,HC5,HM5,HNS⟩
  have hn0:¬ f.result=0:=fun h=>ht (.inl h)
  have hn1:¬ f.result=1:=fun h=>ht (.inr h)
  have n0:(f.result !=0)=true:=by rw[bne,zzq hn0];rfl
  have n1:(f.result !=1)=true:=by rw[bne,zzq hn1];rfl
  have hqf:q=false:=by
   have h1:=HNS.out;rw[Jae hn0 hn1]at h1;simp only[Bool.false_and]at h1;rw[<- HQ.out,<- h1];rfl
  subst hqf;clear ht hn0 hn1;go_wp2;go_ret;exact⟨rfl,HFIN.out⟩
 have hil:¬ (i:Int)<(r.funcs.length:Int):=by omega
 obtain rfl:i=r.funcs.length:=by omega
 have hnt:nm=true:=by rw[<- hns.out,List.drop_length];rfl
 subst hnt;obtain⟨b0,b1,b2⟩:=FF.out _ hbw.out;have HBW:=Zh hbw.out;clear hg hi hbw hmp hns;go_wp2_with fail;clear b0 b1 b2 hil;go_loopg [59] r.clauses.length (fun g v59 wr=>∃ j:Nat,g+j=r.clauses.length/\v59=.int .i64 j/\Hid (Chg [mb] w2 wr)/\Hid ((r.clauses.take j).all clB=true))
 case atStart=>exact⟨0,rfl,rfl,HBW,rfl⟩
 case round=>
 clear HBW;obtain⟨wm,rfl⟩:∃ wm:World,wm=wr:=⟨_,rfl⟩
 obtain⟨j,hg,rfl,hbw,hft⟩:=hrel
 by_cases hj:j<r.clauses.length
 ·have hjl:(j:Int)<(r.clauses.length:Int):=by omega
  obtain⟨m,hm⟩:∃ m,r.clauses[j]?=some m:=⟨r.clauses[j],getElem?_eq_getElem hj⟩
  have hmem:=List.mem_of_getElem? hm;have hXc:=HCX.out.up (HKX.out _ hbw.out);obtain⟨b,o,da,dc,hca,hfc⟩:=hXc.get hm;obtain⟨_,_,hrl⟩:=HZ.out.cl m hmem;have c0:=hfc.c0;have c1:=hfc.c1;have c2:=hfc.c2;have c3:=hfc.c3;have c4:=hfc.c4;have c5:=hfc.c5;have wk:IntKind.i64.wrap ((j:Int)+1)=(j:Int)+1:=IntWalk.i64_in _ (by omega);have hb2:Below wm.heap.size wm (wm.alloc (.cells #[.int .i64 m.cond.kind,.int .i64 m.cond.num,.string (bs m.cond.name),.slice da m.cond.kids.length dc,.int .i64 m.action,.string (bs m.reason)] 32)):=zzb.alloc zzl _;have HCB:=Zh (hbw.out.trans (Chg.of_below hb2 [mb]));have HHM:=Zh hm;have HG:=Zh hg;have HHI:=Zh hj;have ca:=Zn m.action (wm.alloc (.cells #[.int .i64 m.cond.kind,.int .i64 m.cond.num,.string (bs m.cond.name),.slice da m.cond.kids.length dc,.int .i64 m.action,.string (bs m.reason)] 32));have ct:=JbE m.reason (wm.alloc (.cells #[.int .i64 m.cond.kind,.int .i64 m.cond.num,.string (bs m.cond.name),.slice da m.cond.kids.length dc,.int .i64 m.action,.string (bs m.reason)] 32)) hrl;subst hca;clear hb2 hmem hfc hbw hm hj hg hXc;go_wp2_with fail;clear c0 c1 c2 c3 c4 c5;refine ca.mono ?_;rintro e w4 ⟨rfl,rfl⟩;clear ca;have HFIN:=Zh (HKX.out _ HCB.out)
  cases hac:QeU m.action with
  |false=>
   have hqf:q=false:=by
    have h1:Qjs r.clauses=false:=V2 (p:=clB) HHM.out (by unfold clB;rw[hac];rfl);rw[<- HQ.out,h1];rfl
   subst hqf;clear hac ct;go_wp2;go_ret;exact⟨rfl,HFIN.out⟩
  |true=>
  go_wp2_with fail;refine ct.mono ?_;rintro e w4 ⟨rfl,rfl⟩;clear ct
  cases htx:QcN m.reason with
  |false=>
   have hqf:q=false:=by
    have h1:Qjs r.clauses=false:=V2 (p:=clB) HHM.out (by unfold clB;rw[htx,Bool.and_false]);rw[<- HQ.out,h1];rfl
   subst hqf;clear hac htx;go_wp2;go_ret;exact⟨rfl,HFIN.out⟩
  |true=>
   have HFT:Hid ((r.clauses.take (j+1)).all clB=true):=K2 hft.out HHM.out (by unfold clB;rw[hac,htx];rfl);clear hft hac htx HFIN;go_wp2;go_roundg (r.clauses.length-(j+1))
   case measure=>have:=HG.out;have:=HHI.out;omega
   case rel=>exact⟨j+1,by have:=HHI.out;omega,by go_num,HCB,HFT⟩
 have hjl:¬ (j:Int)<(r.clauses.length:Int):=by omega
 obtain rfl:j=r.clauses.length:=by omega
 have hft2:=hft.out;rw[take_length]at hft2
 replace HQ:Hid ((QeU r.action&&QcC r&&Qdu r)=q):=by
  have h1:=HQ.out;rw[JlV,hft2]at h1;exact h1
 obtain⟨b0,b1,b2⟩:=FF.out _ hbw.out;have HBW:=Zh hbw.out;have ca:=Zn r.action wm;clear hft hft2 hg hj hbw;go_wp2_with fail;refine ca.mono ?_;rintro e w4 ⟨rfl,rfl⟩;clear ca
 cases hac:QeU r.action with
 |false=>
  have hqf:q=false:=by rw[<- HQ.out,hac];rfl
  subst hqf;have HFIN:=Zh (HKX.out _ HBW.out);clear hac;go_wp2;go_ret;exact⟨rfl,HFIN.out⟩
 |true=>
 have ct:=JgE r _ wm (HXX.out.up (HKX.out _ HBW.out)) HZ.out;go_wp2_with fail;refine ct.mono ?_;rintro e w5 ⟨rfl,hb5⟩;have HC5:Hid (Chg [mb] w2 w5):=HBW.out.trans (Chg.of_below hb5 [mb]);clear ct hb5 HBW b0 b1 b2
 cases htr:QcC r with
 |false=>
  have hqf:q=false:=by rw[<- HQ.out,hac,htr];rfl
  subst hqf;have HFIN:=Zh (HKX.out _ HC5.out);clear hac htr;go_wp2;go_ret;exact⟨rfl,HFIN.out⟩
 |true=>
 obtain⟨b0,b1,b2⟩:=FF.out _ HC5.out;have cy:=JgN r _ w5 (HXX.out.up (HKX.out _ HC5.out)) HZ.out htr;go_wp2_with fail;refine cy.mono ?_;rintro e w6 ⟨rfl,hb6⟩;have HC6:Hid (Chg [mb] w2 w6):=HC5.out.trans (Chg.of_below hb6 [mb]);have HFIN:=Zh (HKX.out _ HC6.out);clear cy hb6 HC5 b0 b1 b2;have hqt:Qdu r=q:=by rw[<- HQ.out,hac,htr];rfl
 rw[hqt];clear hac htr hqt;go_wp2;go_ret;exact⟨rfl,HFIN.out⟩
end Go.Proofs.YtdlkcjkjnehnkaaGreatDoor
