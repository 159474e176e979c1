
import Derived.Test.YtncanmdgdflnpaaGreatDoorW29
namespace Go.Proofs.YtncanmdgdflnpaaGreatDoor
open Go.ChangeShapes Go.WideShapes Go.ChangeAt Go.RowKit Go.Lib
open _root_.Go.Proofs.Tryz
set_option linter.all false
set_option maxRecDepth 100000
set_option maxHeartbeats 32000000
def BMapAt (w:World) (b n:Nat) (S:List (List UInt8)):Prop:=
 ∃ D:DataW Unit,w.ownsMap prog 9 (plainElem prog 4) b n D∧Go.Maps.IsMap D∧
  ∀ s:List UInt8,s.length≤1000000→D.atKey (.string s) (.lit (.bool false))=.lit (.bool (decide (s∈S)))
theorem zeroBool (w:World):(zeroValue 4).run prog w=.ok (.bool false) w:=by kernel_rfl
theorem Jah {P:Program} {e:TypeId} (he:P.underlying e=some .bool) {v:Value} {z:DataW Unit × List MemPlace} (h:plainElem P e v=some z):∃ x,v=.bool x∧z=(.lit (.bool x),[]):=by
 unfold plainElem at h;rw[he] at h
 cases v <;> simp at h
 exact ⟨_,rfl,h.symm⟩
theorem BMapAt.look {w:World} {b n:Nat} {S:List (List UInt8)} (h:BMapAt w b n S) {s:List UInt8} (hs:s.length≤1000000) :
  (Instr.lookup 93 (.map (some b)) (.string (bs s)) false).run prog w=.ok (.bool (decide (s∈S))) w:=by
 obtain ⟨D,ho,hm,hf⟩:=h;obtain ⟨v,ps,hrun,hv⟩:=ho.lookup strKeyed underlying93 (zeroBool w) (plainElem_bool underlying4 false) (Yi hs);rw[hrun];rw[hf s hs] at hv;obtain ⟨c,rfl,hc⟩:=Jah underlying4 hv;simp only[Prod.mk.injEq,DataW.lit.injEq,Lit.bool.injEq] at hc;rw[← hc.1]
theorem BMapAt.upd {w:World} {b n:Nat} {S:List (List UInt8)} (h:BMapAt w b n S) (hn:n<maxLen) {s:List UInt8} (hs:s.length≤1000000) :
  ∃ w',(Instr.mapUpdate 93 (.map (some b)) (.string (bs s)) (.bool true)).run prog w=.ok () w'∧BMapAt w' b (n+1) (S++[s])∧Chg [b] w w':=by
 obtain ⟨D,ho,hm,hf⟩:=h;have hk:=Yi hs;obtain ⟨w',hrun,ho',hg⟩:=ho.update strKeyed underlying93 hn hk (plainElem_bool underlying4 true);refine ⟨w',hrun,⟨_,ho',hm.put _ _,fun x hx=>?_⟩,Chg.of_grownBy hg⟩
 by_cases e:x=s
 ·subst e;rw[Go.Maps.atKey_put_same hm (strKeyed.key hk)];simp
 ·have hne:(Lit.string x)≠Lit.string s:=fun h=>e (by injection h)
  rw[Go.Maps.atKey_put_other hne,hf x hx];simp[e]
theorem BMapAt.new (w:World):BMapAt (w.alloc (.map #[] 0)) w.heap.size 0 []:=
 ⟨.map [],World.ownsMap_made w _ _ _,Go.Maps.isMap_empty,fun _ _=>rfl⟩
theorem BMapAt.lt {w:World} {b n:Nat} {S:List (List UInt8)} (h:BMapAt w b n S):b<w.heap.size:=h.choose_spec.1.lt
theorem BMapAt.same {w w':World} {b n:Nat} {S:List (List UInt8)} (h:BMapAt w b n S) (hc:w'.heap[b]?=w.heap[b]?):BMapAt w' b n S:=by
 obtain ⟨D,⟨es,clock,hb,r⟩,q⟩:=h;exact ⟨D,⟨es,clock,hc.trans hb,r⟩,q⟩
theorem JfJ {s:List UInt8} (h:identB s=true):s.length≤24:=by
 unfold identB at h;split at h
 ·cases h
 ·simp only[Bool.and_eq_true,decide_eq_true_eq] at h;exact h.1.1.1.1
theorem JdV {l:List FnM} {i:Nat} {f:FnM} {nm:Bool} (h:namesM ((l.take i).map (·.name)) (l.drop i)=nm) (hi:l[i]?=some f) :
  (identB f.name&&!decide (f.name∈(l.take i).map (·.name))&&typeB f.result&&f.params.all typeB&&namesM ((l.take (i+1)).map (·.name)) (l.drop (i+1)))=nm:=by
 obtain ⟨hlt,he⟩:=List.getElem?_eq_some_iff.1 hi;rw[List.drop_eq_getElem_cons hlt,he,namesM] at h;rw[List.take_add_one,hi,List.map_append];exact h
theorem Zz {t:Int} (h0:¬ t=0) (h1:¬ t=1):typeB t=false:=by
 unfold typeB;rw[zzq h0,zzq h1];rfl
def clB (c:ClM):Bool:=actB c.action&&textB c.reason
theorem Jke (l:List ClM):clsM l=l.all clB:=rfl
theorem JfK (r:RuleM) (c:Array Value) (w:World) (hx:RuleX w (In w) r c) (hz:RSz r):Calls prog 23 #[.agg c] w (BelP w (.bool (rightM r))):=by
 obtain ⟨fa,fc,ca,cc,rfl,hF,hC⟩:=hx.parts;obtain ⟨nm,hnm⟩:∃ nm,namesM [] r.funcs=nm:=⟨_,rfl⟩
 obtain ⟨q,hq⟩:∃ q,rightM r=q:=⟨_,rfl⟩
 rw[hq];unfold rightM at hq;rw[hnm] at hq;have HQ:=Zh hq;have HNM:Hid (namesM ((r.funcs.take 0).map (·.name)) (r.funcs.drop 0)=nm):=hnm;have hbA:Below w.heap.size w (w.alloc (.cells #[.slice fa r.funcs.length fc,.slice ca r.clauses.length cc,.int .i64 r.action] 30)):=zzb.alloc zzl _;have hbB:Below w.heap.size w ((w.alloc (.cells #[.slice fa r.funcs.length fc,.slice ca r.clauses.length cc,.int .i64 r.action] 30)).alloc (.map #[] 0)):=hbA.alloc (by simp) _;have HCP:Hid (((w.alloc (.cells #[.slice fa r.funcs.length fc,.slice ca r.clauses.length cc,.int .i64 r.action] 30)).alloc (.map #[] 0)).heap[w.heap.size]?=some (.cells #[.slice fa r.funcs.length fc,.slice ca r.clauses.length cc,.int .i64 r.action] 30 (0,0))):=Jf (zzw w _)
 have hmp:BMapAt ((w.alloc (.cells #[.slice fa r.funcs.length fc,.slice ca r.clauses.length cc,.int .i64 r.action] 30)).alloc (.map #[] 0)) (w.heap.size+1) 0 ((r.funcs.take 0).map (·.name)):=by
  have e1:=BMapAt.new (w.alloc (.cells #[.slice fa r.funcs.length fc,.slice ca r.clauses.length cc,.int .i64 r.action] 30));simp only[World.size_alloc] at e1;exact e1
 have HMP:=Zh hmp;have HKX:Hid (∀ W,Chg [w.heap.size+1] ((w.alloc (.cells #[.slice fa r.funcs.length fc,.slice ca r.clauses.length cc,.int .i64 r.action] 30)).alloc (.map #[] 0)) W→Bel w W):=fun W hW=>AtMv (rb:=w.heap.size+1) hbB (by omega) hW
 have HFX:=Zh hF;have HCX:=Zh hC;have HXX:=Zh hx;have HZ:=Zh hz;have hnf:=hz.nf;have hnc:=hz.nc;have HER:Hid (w.heap.size≠w.heap.size+1):=by unfold Hid; omega
 have HWB:Hid (∀ b,In w b→b≠w.heap.size+1):=by intro b hb e; unfold In at hb; omega
 clear hbA hbB hx hF hC hz hq hnm hmp;have hmm:=@run_makeMap prog;go_enter func23,ntmps23;go_upto_region 2 with fail;clear hmm
 (try simp only[World.size_alloc])
 generalize World.alloc (World.alloc w _) _=w2 at *;generalize w.heap.size+1=mb at *;generalize w.heap.size=eb at *
 have FF:Hid (∀ W,Chg [mb] w2 W→W.cell? ⟨eb,0,none⟩=some (.slice fa r.funcs.length fc)∧W.cell? ⟨eb,1,none⟩=some (.slice ca r.clauses.length cc)∧W.cell? ⟨eb,2,none⟩=some (.int .i64 r.action)):=by
  intro W hW;have hh:=hW.heap_some (by simp; exact HER.out) HCP.out;refine ⟨?_,?_,?_⟩ <;> (rw[Ja hh]; rfl)
 obtain ⟨b0,b1,b2⟩:=FF.out _ (Chg.refl _ _);go_wp2_with fail;clear b0 b1 b2;go_loopg [14] r.funcs.length (fun g v14 wr=>∃ i:Nat,g+i=r.funcs.length∧v14=.int .i64 i∧Hid (Chg [mb] w2 wr)∧Hid (BMapAt wr mb i ((r.funcs.take i).map (·.name)))∧Hid (namesM ((r.funcs.take i).map (·.name)) (r.funcs.drop i)=nm))
 case atStart=>exact ⟨0,rfl,rfl,Chg.refl _ _,HMP,HNM⟩
 case round=>
 clear HMP HNM;obtain ⟨wl,rfl⟩:∃ wl:World,wl=wr:=⟨_,rfl⟩
 obtain ⟨i,hg,rfl,hbw,hmp,hns⟩:=hrel
 by_cases hi:i<r.funcs.length
 ·have hil:(i:Int)<(r.funcs.length:Int):=by omega
  obtain ⟨f,hf⟩:∃ f,r.funcs[i]?=some f:=⟨r.funcs[i],List.getElem?_eq_getElem hi⟩
  have hmem:=List.mem_of_getElem? hf;have hXf:=HFX.out.up (HKX.out _ hbw.out);obtain ⟨b,o,pa,pc,da,dc,hfa,hfc⟩:=hXf.get hf;have hnums:=hfc.nums
  have HNW:Hid (∀ {j:Nat} {t:Int},f.params[j]?=some t→∃ b8 o8,pa=some ⟨b8,o8,none⟩∧b8≠mb):=by
   intro j t hj;obtain ⟨b9,o9,pa9,pc9,da9,dc9,hfa9,hfc9⟩:=HFX.out.get hf;rw[hfa] at hfa9;injection hfa9 with e9;injection e9 with e1 e2;subst e1 e2;have hlt:b<w.heap.size:=hfc9.blt;have h1:=hfc.c1;have h2:wl.cell? _=_:=((HKX.out _ hbw.out).cell (p:=⟨b,o+i*7+1,none⟩) hlt).trans hfc9.c1;rw[h1] at h2;injection h2 with h2;injection h2 with h5 h6 h7;subst h5 h7;obtain ⟨b8,o8,g1,g2,_⟩:=hfc9.nums.get hj;exact ⟨b8,o8,g1,fun e=>HWB.out b8 g2 e⟩
  obtain ⟨hnl,hple,_,_⟩:=HZ.out.fn f hmem;have c0:=hfc.c0;have c1:=hfc.c1;have c2:=hfc.c2;have c3:=hfc.c3;have c4:=hfc.c4;have c5:=hfc.c5;have c6:=hfc.c6;have wk:IntKind.i64.wrap ((i:Int)+1)=(i:Int)+1:=IntWalk.i64_in _ (by omega);have hb2:Below wl.heap.size wl (wl.alloc (.cells #[.string (bs f.name),.slice pa f.params.length pc,.int .i64 f.result,.int .i64 f.body.kind,.int .i64 f.body.num,.string (bs f.body.name),.slice da f.body.kids.length dc] 79)):=zzb.alloc zzl _;have hbx:Chg [mb] w2 (wl.alloc (.cells #[.string (bs f.name),.slice pa f.params.length pc,.int .i64 f.result,.int .i64 f.body.kind,.int .i64 f.body.num,.string (bs f.body.name),.slice da f.body.kids.length dc] 79)):=hbw.out.trans (Chg.of_below hb2 [mb]);have hmp3:BMapAt (wl.alloc (.cells #[.string (bs f.name),.slice pa f.params.length pc,.int .i64 f.result,.int .i64 f.body.kind,.int .i64 f.body.num,.string (bs f.body.name),.slice da f.body.kids.length dc] 79)) mb i ((r.funcs.take i).map (·.name)):=hmp.out.same (hb2.block _ hmp.out.lt);have HNB:=Zh (zzw wl (.cells #[.string (bs f.name),.slice pa f.params.length pc,.int .i64 f.result,.int .i64 f.body.kind,.int .i64 f.body.num,.string (bs f.body.name),.slice da f.body.kids.length dc] 79));have HNU:Hid (NumsX (wl.alloc (.cells #[.string (bs f.name),.slice pa f.params.length pc,.int .i64 f.result,.int .i64 f.body.kind,.int .i64 f.body.num,.string (bs f.body.name),.slice da f.body.kids.length dc] 79)) (In (wl.alloc (.cells #[.string (bs f.name),.slice pa f.params.length pc,.int .i64 f.result,.int .i64 f.body.kind,.int .i64 f.body.num,.string (bs f.body.name),.slice da f.body.kids.length dc] 79))) f.params (.slice pa f.params.length pc)):=NumsX.up hnums hb2;have HNS:=Zh (JdV hns.out hf);have HMP:=Zh hmp3;have HCB:=Zh hbx;have HFI:=Zh hf
  have HNO:Hid (∀ b9 o9,pa=some ⟨b9,o9,none⟩→0<f.params.length→b9≠mb):=by
   intro b9 o9 h1 hp e;obtain ⟨b8,o8,h2,h3⟩:=HNW.out (List.getElem?_eq_getElem hp);rw[h1] at h2;injection h2 with h2;injection h2 with h4;exact h3 (h4.symm.trans e)
  have HG:=Zh hg;have HHI:=Zh hi;have HRB:Hid (wl.heap.size≠mb):=by have:=hmp.out.lt; unfold Hid; omega
  subst hfa;clear hb2 hbx hmem hfc hbw hg hXf hmp hmp3 hnums hns hf hi;go_upto_region 5 with fail;clear c0 c1 c2 c3 c4 c5 c6;generalize World.alloc wl _=w3 at *;generalize wl.heap.size=cb at *
  have F3:Hid (∀ W,Chg [mb] w3 W→W.cell? ⟨cb,0,none⟩=some (.string (bs f.name))∧W.cell? ⟨cb,1,none⟩=some (.slice pa f.params.length pc)∧W.cell? ⟨cb,2,none⟩=some (.int .i64 f.result)):=by
   intro W hW;have hh:=hW.heap_some (by simp; exact HRB.out) HNB.out;refine ⟨?_,?_,?_⟩ <;> (rw[Ja hh]; rfl)
  have HFIN:Hid (Bel w w3):=HKX.out _ HCB.out;obtain ⟨d0,d1,d2⟩:=F3.out _ (Chg.refl _ _);have ci:=Jfx f.name w3 hnl;go_wp2_with fail;refine ci.mono ?_;rintro e w4 ⟨rfl,rfl⟩;clear ci
  cases hid:identB f.name with
  | false=>
   have hqf:q=false:=by
    have h1:=HNS.out;rw[hid] at h1;simp only[Bool.false_and] at h1;rw[← HQ.out,← h1];rfl
   subst hqf;clear hid;go_wp2;go_ret;exact ⟨rfl,HFIN.out⟩
  | true=>
  have hl24:=JfJ hid;have hlk:=HMP.out.look (s:=f.name) (by omega)
  replace HNS:Hid ((!decide (f.name∈(r.funcs.take i).map (·.name))&&typeB f.result&&f.params.all typeB&&namesM ((r.funcs.take (i+1)).map (·.name)) (r.funcs.drop (i+1)))=nm):=by
   have h1:=HNS.out;rw[hid] at h1;simp only[Bool.true_and] at h1;exact h1
  have HSN:Hid ((r.funcs.take (i+1)).map (·.name)=(r.funcs.take i).map (·.name)++[f.name] ):=by
   have hfi:r.funcs[i]?=some f:=HFI.out;rw[Hid,List.take_add_one,hfi,List.map_append];rfl
  clear hid
  by_cases hin:f.name∈(r.funcs.take i).map (·.name)
  ·rw[decide_eq_true hin] at hlk
   have hqf:q=false:=by
    have h1:=HNS.out;rw[decide_eq_true hin] at h1;simp only[Bool.not_true,Bool.false_and] at h1;rw[← HQ.out,← h1];rfl
   subst hqf;clear hin;go_wp2;go_ret;exact ⟨rfl,HFIN.out⟩
  rw[decide_eq_false hin] at hlk
  replace HNS:Hid ((typeB f.result&&f.params.all typeB&&namesM ((r.funcs.take (i+1)).map (·.name)) (r.funcs.drop (i+1)))=nm):=by
   have h1:=HNS.out;rw[decide_eq_false hin] at h1;simp only[Bool.not_false,Bool.true_and] at h1;exact h1
  clear hin
  by_cases ht:f.result=0∨f.result=1
  ·replace HNS:Hid ((f.params.all typeB&&namesM ((r.funcs.take (i+1)).map (·.name)) (r.funcs.drop (i+1)))=nm):=by
    have h1:=HNS.out;have h2:typeB f.result=true:=by rcases ht with h | h <;> (rw[h]; rfl)
    rw[h2] at h1;simp only[Bool.true_and] at h1;exact h1
   obtain ⟨w5,hup,hmp5,hc5⟩:=HMP.out.upd (by unfold maxLen; omega) (s:=f.name) (by omega);have HC5:Hid (Chg [mb] w2 w5):=HCB.out.trans hc5;have HM5:Hid (BMapAt w5 mb (i+1) ((r.funcs.take (i+1)).map (·.name))):=by rw[Hid,HSN.out]; exact hmp5
   obtain ⟨e0,e1,e2⟩:=F3.out _ hc5;have HFI5:Hid (Bel w w5):=HKX.out _ HC5.out
   have HN5:Hid (∀ j t,f.params[j]?=some t→∃ b o,pa=some ⟨b,o,none⟩∧w5.cell? ⟨b,o+j,none⟩=some (.int .i64 t)):=by
    intro j t hj;obtain ⟨b9,o9,h1,h2,h3⟩:=HNU.out.get hj;exact ⟨b9,o9,h1,hc5.cell_some (p:=⟨b9,o9+j,none⟩) (by simp; exact HNO.out b9 o9 h1 (Nat.lt_of_le_of_lt (Nat.zero_le _) (List.getElem?_eq_some_iff.1 hj).1)) h3⟩
   obtain ⟨pl,hpl⟩:∃ pl,f.params.length=pl:=⟨_,rfl⟩
   have HPL:=Zh hpl;rw[hpl] at d1 e1 hple;have wj:∀ j:Nat,j<pl→IntKind.i64.wrap ((j:Int)+1)=(j:Int)+1:=fun j hj=>IntWalk.i64_in _ (by omega)
   have HWJ:=Zh wj;clear hmp5 hc5 HMP wj hpl
   rcases ht with ht | ht
   all_goals
    rw[ht] at d2 e2;clear ht;go_wp2_with fail;clear d0 d1 d2 e0 e1 e2 hlk hup;go_loop [44] (fun v=>∃ j:Nat,v=.int .i64 j∧j≤pl∧Hid ((f.params.take j).all typeB=true)) (fun v=>pl-(intOf v).toNat)
    case atStart=>exact ⟨0,rfl,Nat.zero_le _,rfl⟩
    case round=>
    obtain ⟨j,rfl,hj,hal⟩:=hrel
    by_cases hjp:j<pl
    ·have hjl:(j:Int)<(pl:Int):=by omega
     have wk2:=HWJ.out j hjp;obtain ⟨t,htj⟩:∃ t,f.params[j]?=some t:=⟨f.params[j]'(by rw[HPL.out]; exact hjp),List.getElem?_eq_getElem _⟩
     obtain ⟨b9,o9,h1,h2⟩:=HN5.out j t htj;have HTJ:=Zh htj;subst h1;clear htj
     by_cases t0:t=0
     ·have HAL:=Zh (KK hal.out HTJ.out (by rw[t0]; rfl));subst t0;clear hal HTJ;go_wp2;go_round
      case rel=>exact ⟨j+1,by go_num,hjp,HAL⟩
      case measure=>simp[intOf]; omega
     have n0:(t !=0)=true:=by rw[bne,zzq t0]; rfl
     by_cases t1:t=1
     ·have HAL:=Zh (KK hal.out HTJ.out (by rw[t1]; rfl));subst t1;clear hal HTJ t0;go_wp2;go_round
      case rel=>exact ⟨j+1,by go_num,hjp,HAL⟩
      case measure=>simp[intOf]; omega
     have n1:(t !=1)=true:=by rw[bne,zzq t1]; rfl
     have hqf:q=false:=by
      have h1:=HNS.out;rw[KQ HTJ.out (Zz t0 t1)] at h1;simp only[Bool.false_and] at h1;rw[← HQ.out,← h1];rfl
     subst hqf;clear hal HTJ t0 t1;go_wp2;go_ret;exact ⟨rfl,HFI5.out⟩
    ·have hjl:¬ (j:Int)<(pl:Int):=by omega
     obtain rfl:j=pl:=by omega
     replace HNS:Hid (namesM ((r.funcs.take (i+1)).map (·.name)) (r.funcs.drop (i+1))=nm):=by
      have h1:=HNS.out;have h2:=hal.out;rw[← HPL.out,List.take_length] at h2;rw[h2] at h1;simp only[Bool.true_and] at h1;exact h1
     clear hal hjp hj;go_wp2;go_roundg (r.funcs.length-(i+1))
     case measure=>have:=HG.out; have:=HHI.out; omega
     case rel=>exact ⟨i+1,by have:=HHI.out; omega,by go_num,HC5,HM5,HNS⟩
  have hn0:¬ f.result=0:=fun h=>ht (.inl h)
  have hn1:¬ f.result=1:=fun h=>ht (.inr h)
  have n0:(f.result !=0)=true:=by rw[bne,zzq hn0]; rfl
  have n1:(f.result !=1)=true:=by rw[bne,zzq hn1]; rfl
  have hqf:q=false:=by
   have h1:=HNS.out;rw[Zz hn0 hn1] at h1;simp only[Bool.false_and] at h1;rw[← HQ.out,← h1];rfl
  subst hqf;clear ht hn0 hn1;go_wp2;go_ret;exact ⟨rfl,HFIN.out⟩
 have hil:¬ (i:Int)<(r.funcs.length:Int):=by omega
 obtain rfl:i=r.funcs.length:=by omega
 have hnt:nm=true:=by rw[← hns.out,List.drop_length]; rfl
 subst hnt;obtain ⟨b0,b1,b2⟩:=FF.out _ hbw.out;have HBW:=Zh hbw.out;clear hg hi hbw hmp hns;go_wp2_with fail;clear b0 b1 b2 hil;go_loopg [59] r.clauses.length (fun g v59 wr=>∃ j:Nat,g+j=r.clauses.length∧v59=.int .i64 j∧Hid (Chg [mb] w2 wr)∧Hid ((r.clauses.take j).all clB=true))
 case atStart=>exact ⟨0,rfl,rfl,HBW,rfl⟩
 case round=>
 clear HBW;obtain ⟨wm,rfl⟩:∃ wm:World,wm=wr:=⟨_,rfl⟩
 obtain ⟨j,hg,rfl,hbw,hft⟩:=hrel
 by_cases hj:j<r.clauses.length
 ·have hjl:(j:Int)<(r.clauses.length:Int):=by omega
  obtain ⟨m,hm⟩:∃ m,r.clauses[j]?=some m:=⟨r.clauses[j],List.getElem?_eq_getElem hj⟩
  have hmem:=List.mem_of_getElem? hm;have hXc:=HCX.out.up (HKX.out _ hbw.out);obtain ⟨b,o,da,dc,hca,hfc⟩:=hXc.get hm;obtain ⟨_,_,hrl⟩:=HZ.out.cl m hmem;have c0:=hfc.c0;have c1:=hfc.c1;have c2:=hfc.c2;have c3:=hfc.c3;have c4:=hfc.c4;have c5:=hfc.c5;have wk:IntKind.i64.wrap ((j:Int)+1)=(j:Int)+1:=IntWalk.i64_in _ (by omega);have hb2:Below wm.heap.size wm (wm.alloc (.cells #[.int .i64 m.cond.kind,.int .i64 m.cond.num,.string (bs m.cond.name),.slice da m.cond.kids.length dc,.int .i64 m.action,.string (bs m.reason)] 62)):=zzb.alloc zzl _;have HCB:=Zh (hbw.out.trans (Chg.of_below hb2 [mb]));have HHM:=Zh hm;have HG:=Zh hg;have HHI:=Zh hj;have ca:=YZ m.action (wm.alloc (.cells #[.int .i64 m.cond.kind,.int .i64 m.cond.num,.string (bs m.cond.name),.slice da m.cond.kids.length dc,.int .i64 m.action,.string (bs m.reason)] 62));have ct:=Jbc m.reason (wm.alloc (.cells #[.int .i64 m.cond.kind,.int .i64 m.cond.num,.string (bs m.cond.name),.slice da m.cond.kids.length dc,.int .i64 m.action,.string (bs m.reason)] 62)) hrl;subst hca;clear hb2 hmem hfc hbw hm hj hg hXc;go_wp2_with fail;clear c0 c1 c2 c3 c4 c5;refine ca.mono ?_;rintro e w4 ⟨rfl,rfl⟩;clear ca;have HFIN:=Zh (HKX.out _ HCB.out)
  cases hac:actB m.action with
  | false=>
   have hqf:q=false:=by
    have h1:clsM r.clauses=false:=KQ (p:=clB) HHM.out (by unfold clB; rw[hac]; rfl);rw[← HQ.out,h1];rfl
   subst hqf;clear hac ct;go_wp2;go_ret;exact ⟨rfl,HFIN.out⟩
  | true=>
  go_wp2_with fail;refine ct.mono ?_;rintro e w4 ⟨rfl,rfl⟩;clear ct
  cases htx:textB m.reason with
  | false=>
   have hqf:q=false:=by
    have h1:clsM r.clauses=false:=KQ (p:=clB) HHM.out (by unfold clB; rw[htx,Bool.and_false]);rw[← HQ.out,h1];rfl
   subst hqf;clear hac htx;go_wp2;go_ret;exact ⟨rfl,HFIN.out⟩
  | true=>
   have HFT:Hid ((r.clauses.take (j+1)).all clB=true):=KK hft.out HHM.out (by unfold clB; rw[hac,htx]; rfl);clear hft hac htx HFIN;go_wp2;go_roundg (r.clauses.length-(j+1))
   case measure=>have:=HG.out; have:=HHI.out; omega
   case rel=>exact ⟨j+1,by have:=HHI.out; omega,by go_num,HCB,HFT⟩
 have hjl:¬ (j:Int)<(r.clauses.length:Int):=by omega
 obtain rfl:j=r.clauses.length:=by omega
 have hft2:=hft.out;rw[List.take_length] at hft2
 replace HQ:Hid ((actB r.action&&treesM r&&typedM r)=q):=by
  have h1:=HQ.out;rw[Jke,hft2] at h1;exact h1
 obtain ⟨b0,b1,b2⟩:=FF.out _ hbw.out;have HBW:=Zh hbw.out;have ca:=YZ r.action wm;clear hft hft2 hg hj hbw;go_wp2_with fail;refine ca.mono ?_;rintro e w4 ⟨rfl,rfl⟩;clear ca
 cases hac:actB r.action with
 | false=>
  have hqf:q=false:=by rw[← HQ.out,hac]; rfl
  subst hqf;have HFIN:=Zh (HKX.out _ HBW.out);clear hac;go_wp2;go_ret;exact ⟨rfl,HFIN.out⟩
 | true=>
 have ct:=JfC r _ wm (HXX.out.up (HKX.out _ HBW.out)) HZ.out;go_wp2_with fail;refine ct.mono ?_;rintro e w5 ⟨rfl,hb5⟩;have HC5:Hid (Chg [mb] w2 w5):=HBW.out.trans (Chg.of_below hb5 [mb]);clear ct hb5 HBW b0 b1 b2
 cases htr:treesM r with
 | false=>
  have hqf:q=false:=by rw[← HQ.out,hac,htr]; rfl
  subst hqf;have HFIN:=Zh (HKX.out _ HC5.out);clear hac htr;go_wp2;go_ret;exact ⟨rfl,HFIN.out⟩
 | true=>
 obtain ⟨b0,b1,b2⟩:=FF.out _ HC5.out;have cy:=JfI r _ w5 (HXX.out.up (HKX.out _ HC5.out)) HZ.out htr;go_wp2_with fail;refine cy.mono ?_;rintro e w6 ⟨rfl,hb6⟩;have HC6:Hid (Chg [mb] w2 w6):=HC5.out.trans (Chg.of_below hb6 [mb]);have HFIN:=Zh (HKX.out _ HC6.out);clear cy hb6 HC5 b0 b1 b2;have hqt:typedM r=q:=by rw[← HQ.out,hac,htr]; rfl
 rw[hqt];clear hac htr hqt;go_wp2;go_ret;exact ⟨rfl,HFIN.out⟩
def clampI (n low high:Int):Int:=if n<low then low else if high<n then high else n
def limI (n:Int):Int:=clampI n (-1125899906842624) 1125899906842624
theorem wx101 {P:Prop}(h:P:=by
  go_enter func97,ntmps97;go_wp2;go_ret
  exact ⟨by rw[hN.out]; rfl,rfl⟩):P:=h
theorem K7 (n l h:Int) (w:World):Calls prog 97 #[.int .i64 n,.int .i64 l,.int .i64 h] w (fun e w'=>e=.returned (.int .i64 (clampI n l h))∧w=w'):=by
 by_cases h1:n<l
 ·have hN:Hid (clampI n l h=l):=by unfold Hid clampI; rw[if_pos h1]
  exact wx101
 ·have hd:decide (n<l)=false:=by simpa using h1
  by_cases h2:h<n
  ·have hN:Hid (clampI n l h=h):=by unfold Hid clampI; rw[if_neg h1,if_pos h2]
   exact wx101
  ·have hd2:decide (h<n)=false:=by simpa using h2
   have hN:Hid (clampI n l h=n):=by unfold Hid clampI; rw[if_neg h1,if_neg h2]
   exact wx101
def TriPost (w:World) (n:Int) (ex neg:Bool) (e:Ending) (w':World):Prop:=e=.returned (.tuple #[.int .i64 n,.bool ex,.bool neg])∧Below w.heap.size w w'
def limB (n:Int) (ex neg:Bool):Int:=if ex=true then limI n else if neg=true then -1125899906842624 else 1125899906842624
theorem wx107 {P:Prop}(h:P:=by
  go_enter func52,ntmps52;go_wp2_with (go_at_call 53; refine hc.mono ?_; rintro e w1 ⟨rfl,hb⟩);go_ret
  exact ⟨by rw[hN.out]; rfl,hb⟩):P:=h
theorem lim33 (p q:Nat) (w:World) (n:Int) (ex neg:Bool) (hc:Calls prog 53 #[.pointer (some ⟨p,0,none⟩),.pointer (some ⟨q,0,none⟩)] w (TriPost w n ex neg)) :
  Calls prog 52 #[.func (.func 53) #[] #[.pointer (some ⟨p,0,none⟩),.pointer (some ⟨q,0,none⟩)]] w (IntPost w (limB n ex neg)):=by
 cases ex
 ·cases neg
  ·have hN:Hid (limB n false false=1125899906842624):=rfl;exact wx107
  ·have hN:Hid (limB n false true = -1125899906842624):=rfl;exact wx107
 ·have hN:Hid (limB n true neg=limI n):=rfl;have hL:Hid (limI n=clampI n (-1125899906842624) 1125899906842624):=rfl;go_enter func52,ntmps52;go_wp2_with (first | (go_at_call 53; refine hc.mono ?_; rintro e w1 ⟨rfl,hb⟩) | (go_at_call 97; refine (K7 _ _ _ _).mono ?_; rintro e w2 ⟨rfl,rfl⟩));go_ret;exact ⟨by rw[hN.out,hL.out]; rfl,hb⟩
theorem wx108 {P:Prop}(h:P:=by
  go_enter func52,ntmps52;go_wp2_with (go_at_call 54; refine hc.mono ?_; rintro e w1 ⟨rfl,hb⟩);go_ret
  exact ⟨by rw[hN.out]; rfl,hb⟩):P:=h
theorem lim35 (p q:Nat) (w:World) (n:Int) (ex neg:Bool) (hc:Calls prog 54 #[.pointer (some ⟨p,0,none⟩),.pointer (some ⟨q,0,none⟩)] w (TriPost w n ex neg)) :
  Calls prog 52 #[.func (.func 54) #[] #[.pointer (some ⟨p,0,none⟩),.pointer (some ⟨q,0,none⟩)]] w (IntPost w (limB n ex neg)):=by
 cases ex
 ·cases neg
  ·have hN:Hid (limB n false false=1125899906842624):=rfl;exact wx108
  ·have hN:Hid (limB n false true = -1125899906842624):=rfl;exact wx108
 ·have hN:Hid (limB n true neg=limI n):=rfl;have hL:Hid (limI n=clampI n (-1125899906842624) 1125899906842624):=rfl;go_enter func52,ntmps52;go_wp2_with (first | (go_at_call 54; refine hc.mono ?_; rintro e w1 ⟨rfl,hb⟩) | (go_at_call 97; refine (K7 _ _ _ _).mono ?_; rintro e w2 ⟨rfl,rfl⟩));go_ret;exact ⟨by rw[hN.out,hL.out]; rfl,hb⟩
theorem wx109 {P:Prop}(h:P:=by
  go_enter func52,ntmps52;go_wp2_with (go_at_call 55; refine hc.mono ?_; rintro e w1 ⟨rfl,hb⟩);go_ret
  exact ⟨by rw[hN.out]; rfl,hb⟩):P:=h
theorem lim36 (p q:Nat) (w:World) (n:Int) (ex neg:Bool) (hc:Calls prog 55 #[.pointer (some ⟨p,0,none⟩),.pointer (some ⟨q,0,none⟩)] w (TriPost w n ex neg)) :
  Calls prog 52 #[.func (.func 55) #[] #[.pointer (some ⟨p,0,none⟩),.pointer (some ⟨q,0,none⟩)]] w (IntPost w (limB n ex neg)):=by
 cases ex
 ·cases neg
  ·have hN:Hid (limB n false false=1125899906842624):=rfl;exact wx109
  ·have hN:Hid (limB n false true = -1125899906842624):=rfl;exact wx109
 ·have hN:Hid (limB n true neg=limI n):=rfl;have hL:Hid (limI n=clampI n (-1125899906842624) 1125899906842624):=rfl;go_enter func52,ntmps52;go_wp2_with (first | (go_at_call 55; refine hc.mono ?_; rintro e w1 ⟨rfl,hb⟩) | (go_at_call 97; refine (K7 _ _ _ _).mono ?_; rintro e w2 ⟨rfl,rfl⟩));go_ret;exact ⟨by rw[hN.out,hL.out]; rfl,hb⟩
theorem Jbi (w:World) (v:Value) (t:Nat):(w.alloc (.cells #[v] t)).cell? ⟨w.heap.size,0,none⟩=some v:=by
 rw[cell_of_row _ _ _ _ _ (0,0) (zzw w _)]; rfl
theorem VK (w:World) (v u:Value) (t t':Nat):((w.alloc (.cells #[v] t)).alloc (.cells #[u] t')).cell? ⟨w.heap.size,0,none⟩=some v:=by
 rw[World.cell?_of_block (w:=w.alloc (.cells #[v] t)) (Below.heap_alloc _ _ _ (by simp))];exact Jbi w v t
theorem VL (w:World) (v u:Value) (t t':Nat):((w.alloc (.cells #[v] t)).alloc (.cells #[u] t')).cell? ⟨w.heap.size+1,0,none⟩=some u:=by
 have h:=Jbi (w.alloc (.cells #[v] t)) u t'
 rwa [show (w.alloc (.cells #[v] t)).heap.size=w.heap.size+1 by simp] at h
theorem wx29 {P:Prop}(h:P:=by
  go_wp2;go_quiet (fail);go_wp2;go_ret3
  exact ⟨rfl,J2 zzb _⟩):P:=h
theorem Jkf (p q:Nat) (a b:Int) (w:World) (ha:wf64 a) (hb:wf64 b) (hp:w.cell? ⟨p,0,none⟩=some (.int .i64 a)) (hq:w.cell? ⟨q,0,none⟩=some (.int .i64 b)) :
  ∃ n ex,(ex=true→n=a+b)∧(ex=false→(a<0→a+b < -9223372036854775808)∧(0≤a→9223372036854775807<a+b))∧Calls prog 53 #[.pointer (some ⟨p,0,none⟩),.pointer (some ⟨q,0,none⟩)] w (TriPost w n ex (decide (a<0))):=by
 unfold wf64 at ha hb
 by_cases hlo:a+b < -9223372036854775808
 ·have hw:wrap64 (a+b)=a+b+18446744073709551616:=by unfold wrap64; omega
  have d1:decide (a<0)=true:=decide_eq_true (by omega);have d2:decide (b<0)=true:=decide_eq_true (by omega);have d3:decide (a+b+18446744073709551616<0)=false:=decide_eq_false (by omega);refine ⟨wrap64 (a+b),false,by simp,fun _=>⟨fun _=>hlo,fun h=>by omega⟩,?_⟩;rw[d1];have HLO:=Zh hlo;clear hlo;go_enter func53,ntmps53;exact wx29
 ·by_cases hhi:9223372036854775807<a+b
  ·have hw:wrap64 (a+b)=a+b-18446744073709551616:=by unfold wrap64; omega
   have d1:decide (a<0)=false:=decide_eq_false (by omega);have d2:decide (b<0)=false:=decide_eq_false (by omega);have d3:decide (a+b-18446744073709551616<0)=true:=decide_eq_true (by omega);refine ⟨wrap64 (a+b),false,by simp,fun _=>⟨fun h=>by omega,fun _=>hhi⟩,?_⟩;rw[d1];have HHI:=Zh hhi;clear hhi hlo;go_enter func53,ntmps53;exact wx29
  ·have h1:-9223372036854775808≤a+b:=by omega
   have h2:a+b≤9223372036854775807:=by omega
   refine ⟨a+b,true,fun _=>rfl,by simp,?_⟩;clear hlo hhi
   by_cases ca:a<0
   ·have d1:decide (a<0)=true:=decide_eq_true ca;rw[d1]
    by_cases cb:b<0
    ·have d2:decide (b<0)=true:=decide_eq_true cb;have d3:decide (a+b<0)=true:=decide_eq_true (by omega);clear ca cb;go_enter func53,ntmps53;exact wx29
    ·have d2:decide (b<0)=false:=decide_eq_false cb
     skip
     clear ca cb;go_enter func53,ntmps53;exact wx29
   ·have d1:decide (a<0)=false:=decide_eq_false ca;rw[d1]
    by_cases cb:b<0
    ·have d2:decide (b<0)=true:=decide_eq_true cb
     skip
     clear ca cb;go_enter func53,ntmps53;exact wx29
    ·have d2:decide (b<0)=false:=decide_eq_false cb;have d3:decide (a+b<0)=false:=decide_eq_false (by omega);clear ca cb;go_enter func53,ntmps53;exact wx29
theorem wx56 {P:Prop}(h:P:=by
  go_wp2_with fail;rw[← hW];clear hW;refine (Calls.mono c ?_);rintro e w1 ⟨rfl,hb1⟩;go_wp2;go_ret
  exact ⟨by rw[← hR.out]; rfl,hbW.trans (hb1.mono hbW.size)⟩):P:=h
theorem wx57 {P:Prop}(h:P:=by
  unfold Hid limB
  cases ex
  ·obtain ⟨o1,o2⟩:=ho rfl;simp only[Bool.false_eq_true,if_false,decide_eq_true_eq];unfold limI clampI
   by_cases h:a<0
   ·rw[if_pos h,if_pos (by have:=o1 h; omega)]
   ·rw[if_neg h,if_neg (by have:=o2 (by omega); omega),if_pos (by have:=o2 (by omega); omega)]
  ·rw[if_pos rfl,hn rfl]):P:=h
theorem JhA (a b:Int) (w:World) (ha:wf64 a) (hb:wf64 b):Calls prog 24 #[.int .i64 a,.int .i64 b] w (IntPost w (limI (a+b))):=by
 have hmf:∀ (fn:Fn) (first cap:Array Value) (w:World),(Instr.makeFunc fn first cap).run prog w=.ok (.func fn first cap) w:=fun _ _ _ _=>rfl
 obtain ⟨W,hW⟩:∃ W,W=(w.alloc (.cells #[.int .i64 a] 3)).alloc (.cells #[.int .i64 b] 3):=⟨_,rfl⟩
 have hbW:Below w.heap.size w W:=by rw[hW]; exact (zzb.alloc zzl _).alloc (by simp) _
 have hp:W.cell? ⟨w.heap.size,0,none⟩=some (.int .i64 a):=by rw[hW]; exact VK w _ _ 3 3
 have hq:W.cell? ⟨w.heap.size+1,0,none⟩=some (.int .i64 b):=by rw[hW]; exact VL w _ _ 3 3
 obtain ⟨n,ex,hn,ho,hc⟩:=Jkf w.heap.size (w.heap.size+1) a b W ha hb hp hq;have c:=lim33 _ _ _ _ _ _ hc
 have hR:Hid (limB n ex (decide (a<0))=limI (a+b)):=by
  exact wx57
 clear hn ho hc hp hq;go_enter func24,ntmps24;exact wx56
theorem Jkg (p q:Nat) (a b:Int) (w:World) (ha:wf64 a) (hb:wf64 b) (hp:w.cell? ⟨p,0,none⟩=some (.int .i64 a)) (hq:w.cell? ⟨q,0,none⟩=some (.int .i64 b)) :
  ∃ n ex,(ex=true→n=a-b)∧(ex=false→(a<0→a-b < -9223372036854775808)∧(0≤a→9223372036854775807<a-b))∧Calls prog 54 #[.pointer (some ⟨p,0,none⟩),.pointer (some ⟨q,0,none⟩)] w (TriPost w n ex (decide (a<0))):=by
 unfold wf64 at ha hb
 by_cases hlo:a-b < -9223372036854775808
 ·have hw:wrap64 (a-b)=a-b+18446744073709551616:=by unfold wrap64; omega
  have d1:decide (a<0)=true:=decide_eq_true (by omega);have d2:decide (b<0)=false:=decide_eq_false (by omega);have d3:decide (a-b+18446744073709551616<0)=false:=decide_eq_false (by omega);refine ⟨wrap64 (a-b),false,by simp,fun _=>⟨fun _=>hlo,fun h=>by omega⟩,?_⟩;rw[d1];have HLO:=Zh hlo;clear hlo;go_enter func54,ntmps54;exact wx29
 ·by_cases hhi:9223372036854775807<a-b
  ·have hw:wrap64 (a-b)=a-b-18446744073709551616:=by unfold wrap64; omega
   have d1:decide (a<0)=false:=decide_eq_false (by omega);have d2:decide (b<0)=true:=decide_eq_true (by omega);have d3:decide (a-b-18446744073709551616<0)=true:=decide_eq_true (by omega);refine ⟨wrap64 (a-b),false,by simp,fun _=>⟨fun h=>by omega,fun _=>hhi⟩,?_⟩;rw[d1];have HHI:=Zh hhi;clear hhi hlo;go_enter func54,ntmps54;exact wx29
  ·have h1:-9223372036854775808≤a-b:=by omega
   have h2:a-b≤9223372036854775807:=by omega
   refine ⟨a-b,true,fun _=>rfl,by simp,?_⟩;clear hlo hhi
   by_cases ca:a<0
   ·have d1:decide (a<0)=true:=decide_eq_true ca;rw[d1]
    by_cases cb:b<0
    ·have d2:decide (b<0)=true:=decide_eq_true cb
     skip
     clear ca cb;go_enter func54,ntmps54;exact wx29
    ·have d2:decide (b<0)=false:=decide_eq_false cb;have d3:decide (a-b<0)=true:=decide_eq_true (by omega);clear ca cb;go_enter func54,ntmps54;exact wx29
   ·have d1:decide (a<0)=false:=decide_eq_false ca;rw[d1]
    by_cases cb:b<0
    ·have d2:decide (b<0)=true:=decide_eq_true cb;have d3:decide (a-b<0)=false:=decide_eq_false (by omega);clear ca cb;go_enter func54,ntmps54;exact wx29
    ·have d2:decide (b<0)=false:=decide_eq_false cb
     skip
     clear ca cb;go_enter func54,ntmps54;exact wx29
theorem JfL (a b:Int) (w:World) (ha:wf64 a) (hb:wf64 b):Calls prog 25 #[.int .i64 a,.int .i64 b] w (IntPost w (limI (a-b))):=by
 have hmf:∀ (fn:Fn) (first cap:Array Value) (w:World),(Instr.makeFunc fn first cap).run prog w=.ok (.func fn first cap) w:=fun _ _ _ _=>rfl
 obtain ⟨W,hW⟩:∃ W,W=(w.alloc (.cells #[.int .i64 a] 3)).alloc (.cells #[.int .i64 b] 3):=⟨_,rfl⟩
 have hbW:Below w.heap.size w W:=by rw[hW]; exact (zzb.alloc zzl _).alloc (by simp) _
 have hp:W.cell? ⟨w.heap.size,0,none⟩=some (.int .i64 a):=by rw[hW]; exact VK w _ _ 3 3
 have hq:W.cell? ⟨w.heap.size+1,0,none⟩=some (.int .i64 b):=by rw[hW]; exact VL w _ _ 3 3
 obtain ⟨n,ex,hn,ho,hc⟩:=Jkg w.heap.size (w.heap.size+1) a b W ha hb hp hq;have c:=lim35 _ _ _ _ _ _ hc
 have hR:Hid (limB n ex (decide (a<0))=limI (a-b)):=by
  exact wx57
 clear hn ho hc hp hq;go_enter func25,ntmps25;exact wx56
theorem Jdh (n:Int) (w:World) (h:wf64 n):Calls prog 57 #[.int .i64 n] w (fun e w'=>e=.returned (.int .u64 (n.natAbs:Int))∧w'=w):=by
 unfold wf64 at h
 by_cases h0:n<0
 ·obtain ⟨m,hm⟩:∃ m:Nat,n.natAbs=m:=⟨_,rfl⟩
  rw[hm];have hn:n = -(m:Int):=by omega
  subst hn;have hw:IntKind.u64.wrap (-IntKind.u64.wrap (-(m:Int)))=m:=by rw[IntKind.wrap_u64,IntKind.wrap_u64]; omega
  go_enter func57,ntmps57;go_wp2;go_ret;exact ⟨rfl,rfl⟩
 ·obtain ⟨m,rfl⟩:∃ m:Nat,n=m:=⟨n.toNat,by omega⟩
  have hd:decide ((m:Int)<0)=false:=by simp
  have hm:((m:Int).natAbs:Int)=m:=by simp
  rw[hm];go_enter func57,ntmps57;go_wp2;go_ret;exact ⟨rfl,rfl⟩
theorem JhB {a b:Int}:((a.natAbs*b.natAbs:Nat):Int)=if (decide (a<0) !=decide (b<0))=true then -(a*b) else a*b:=by
 by_cases ha:a<0
 ·rw[decide_eq_true ha];obtain ⟨m,rfl⟩:∃ m:Nat,a = -(m:Int):=⟨a.natAbs,by omega⟩
  by_cases hb:b<0
  ·rw[decide_eq_true hb];obtain ⟨n,rfl⟩:∃ n:Nat,b = -(n:Int):=⟨b.natAbs,by omega⟩
   simp[Int.neg_mul_neg]
  ·rw[decide_eq_false hb];obtain ⟨n,rfl⟩:∃ n:Nat,b=(n:Int):=⟨b.natAbs,by omega⟩
   simp[Int.neg_mul]
 ·rw[decide_eq_false ha];obtain ⟨m,rfl⟩:∃ m:Nat,a=(m:Int):=⟨a.natAbs,by omega⟩
  by_cases hb:b<0
  ·rw[decide_eq_true hb];obtain ⟨n,rfl⟩:∃ n:Nat,b = -(n:Int):=⟨b.natAbs,by omega⟩
   simp[Int.mul_neg]
  ·rw[decide_eq_false hb];obtain ⟨n,rfl⟩:∃ n:Nat,b=(n:Int):=⟨b.natAbs,by omega⟩
   simp
theorem wx6 {P:Prop}(h:P:=by
  go_enter func55,ntmps55;go_wp2;go_quiet (first | (go_at_call 57; with_reducible refine (h1' _).mono ?_; exact fun e w' ⟨he,hw⟩=>⟨he,_,hw⟩) | (go_at_call 57; with_reducible refine (h2' _).mono ?_; exact fun e w' ⟨he,hw⟩=>⟨he,_,hw⟩) | (go_at_call 56; refine (h3 _).mono ?_; exact fun e w' ⟨he,hw⟩=>⟨he,_,hw⟩));go_wp2;go_ret3
  exact ⟨rfl,J2 zzb _⟩):P:=h
theorem wx65 {P:Prop}(h:P:=by
  have e1:((z / 18446744073709551616:Nat):Int)=0:=by omega
  have e2:((z % 18446744073709551616:Nat):Int)=z:=by omega
  rw[e1,e2] at h3;have c1:decide (9223372036854775807<(z:Int))=true:=decide_eq_true (by omega);have HS:=Zh hs;clear hs hxy hz hbig e1 e2 hzh
  exact wx6):P:=h
theorem wx16 {P:Prop}(h:P:=by
  replace hs:(z:Int) = -(a*b):=by simpa using hs
  by_cases hz:z≤9223372036854775807
  ·have c1:decide (9223372036854775807<(z:Int))=false:=decide_eq_false (by omega);have e1:((z / 18446744073709551616:Nat):Int)=0:=by omega
   have e2:((z % 18446744073709551616:Nat):Int)=z:=by omega
   rw[e1,e2] at h3;refine ⟨-(z:Int),true,true,by rw[hs,Int.neg_neg]; rfl,?_⟩;have c2:IntKind.i64.wrap (z:Int)=z:=by rw[IntKind.wrap_i64]; omega
   have c3:IntKind.i64.wrap (-(z:Int)) = -(z:Int):=by rw[IntKind.wrap_i64]; omega
   have HS:=Zh hs;clear hs e1 e2 hxy;exact wx6
  ·have hbig:limB 0 false true=limI (a*b):=by
    have h:a*b = -(z:Int):=by omega
    rw[h]; unfold limB limI clampI; simp only[Bool.false_eq_true,if_false,if_true]; rw[if_pos (by omega)]
   by_cases hzh:z / 18446744073709551616=0
   ·refine ⟨0,false,true,hbig,?_⟩;exact wx65
   ·refine ⟨0,false,true,hbig,?_⟩;have e1:(((z / 18446744073709551616:Nat):Int) !=0)=true:=by simp only[bne_iff_ne]; omega
    have HS:=Zh hs;clear hs hxy hz hbig;generalize ((z / 18446744073709551616:Nat):Int)=zh at *;generalize ((z % 18446744073709551616:Nat):Int)=zl at *
    exact wx6):P:=h
theorem wx20 {P:Prop}(h:P:=by
  replace hs:(z:Int)=a*b:=by simpa using hs
  by_cases hz:z≤9223372036854775807
  ·have c1:decide (9223372036854775807<(z:Int))=false:=decide_eq_false (by omega);have e1:((z / 18446744073709551616:Nat):Int)=0:=by omega
   have e2:((z % 18446744073709551616:Nat):Int)=z:=by omega
   rw[e1,e2] at h3;refine ⟨z,true,false,by rw[hs]; rfl,?_⟩;have c2:IntKind.i64.wrap (z:Int)=z:=by rw[IntKind.wrap_i64]; omega
   have HS:=Zh hs;clear hs e1 e2 hxy;exact wx6
  ·have hbig:limB 0 false false=limI (a*b):=by
    rw[← hs]; unfold limB limI clampI; simp only[Bool.false_eq_true,if_false]; rw[if_neg (by omega),if_pos (by omega)]
   by_cases hzh:z / 18446744073709551616=0
   ·refine ⟨0,false,false,hbig,?_⟩;exact wx65
   ·refine ⟨0,false,false,hbig,?_⟩;have e1:(((z / 18446744073709551616:Nat):Int) !=0)=true:=by simp only[bne_iff_ne]; omega
    have HS:=Zh hs;clear hs hxy hz hbig;generalize ((z / 18446744073709551616:Nat):Int)=zh at *;generalize ((z % 18446744073709551616:Nat):Int)=zl at *
    exact wx6):P:=h
theorem Jkh (p q:Nat) (a b:Int) (w:World) (ha:wf64 a) (hb:wf64 b) (hp:w.cell? ⟨p,0,none⟩=some (.int .i64 a)) (hq:w.cell? ⟨q,0,none⟩=some (.int .i64 b)) :
  ∃ n ex neg,limB n ex neg=limI (a*b)∧Calls prog 55 #[.pointer (some ⟨p,0,none⟩),.pointer (some ⟨q,0,none⟩)] w (TriPost w n ex neg):=by
 have hs:=JhB (a:=a) (b:=b);have h1:=Jdh a;have h2:=Jdh b;have hx:a.natAbs<18446744073709551616:=by unfold wf64 at ha; omega
 have hy:b.natAbs<18446744073709551616:=by unfold wf64 at hb; omega
 have h3:=Tryz.bits_Mul64 a.natAbs b.natAbs hx hy;have h1':=fun W=>h1 W ha
 have h2':=fun W=>h2 W hb
 generalize a.natAbs=x at *;generalize b.natAbs=y at *;have hxy:x*y<18446744073709551616*18446744073709551616:=Nat.mul_lt_mul'' hx hy;generalize x*y=z at *;clear h1 h2 ha hb hx hy
 cases hpa:decide (a<0)
 ·cases hpb:decide (b<0)
  ·rw[hpa,hpb] at hs;exact wx20
  ·rw[hpa,hpb] at hs;exact wx16
 ·cases hpb:decide (b<0)
  ·rw[hpa,hpb] at hs;exact wx16
  ·rw[hpa,hpb] at hs;exact wx20
theorem Jjf (a b:Int) (w:World) (ha:wf64 a) (hb:wf64 b):Calls prog 26 #[.int .i64 a,.int .i64 b] w (IntPost w (limI (a*b))):=by
 have hmf:∀ (fn:Fn) (first cap:Array Value) (w:World),(Instr.makeFunc fn first cap).run prog w=.ok (.func fn first cap) w:=fun _ _ _ _=>rfl
 obtain ⟨W,hW⟩:∃ W,W=(w.alloc (.cells #[.int .i64 a] 3)).alloc (.cells #[.int .i64 b] 3):=⟨_,rfl⟩
 have hbW:Below w.heap.size w W:=by rw[hW]; exact (zzb.alloc zzl _).alloc (by simp) _
 have hp:W.cell? ⟨w.heap.size,0,none⟩=some (.int .i64 a):=by rw[hW]; exact VK w _ _ 3 3
 have hq:W.cell? ⟨w.heap.size+1,0,none⟩=some (.int .i64 b):=by rw[hW]; exact VL w _ _ 3 3
 obtain ⟨n,ex,neg,hn,hc⟩:=Jkh w.heap.size (w.heap.size+1) a b W ha hb hp hq;have c:=lim36 _ _ _ _ _ _ hc;have hR:=Zh hn;clear hn hc hp hq;go_enter func26,ntmps26;exact wx56
end Go.Proofs.YtncanmdgdflnpaaGreatDoor
