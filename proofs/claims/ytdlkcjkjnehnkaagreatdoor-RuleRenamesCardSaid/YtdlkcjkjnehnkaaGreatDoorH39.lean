import Derived.Test.YtdlkcjkjnehnkaaGreatDoorH37
import Derived.Test.YtdlkcjkjnehnkaaGreatDoorH38
import Derived.Test.YtdlkcjkjnehnkaaGreatDoorH31
open List(append_assoc append_nil flatten_cons flatten_nil length_append length_cons length_nil map_append map_cons map_nil nil_append)
open Nat(le_trans)
namespace Go.Proofs.YtdlkcjkjnehnkaaGreatDoor
open Go Go.ChangeShapes Go.WideShapes Go.ChangeAt Go.RowKit Go.Lib
open _root_.Go.Proofs.Tryz
set_option linter.all false
set_option maxRecDepth 100000
set_option maxHeartbeats 32000000
theorem Jhb{α:Type}:∀ {l:List α} {i:Nat} {x:α},l[i]?=some x->l.drop i=x::l.drop (i+1)
 |a::l,0,x,h=>by simp at h;simp[h]
 |a::l,i+1,x,h=>by
  have:=Jhb (l:=l) (i:=i) (x:=x) (by simpa using h);simpa using this
 |[],i,x,h=>by simp at h
theorem Jhd{r:Qaq}(h:QcG r=false):QdG r=[]:=by unfold QdG;rw[h];rfl
theorem QkT{P:Prop}(h:P:=by
  simpa only[List.append_assoc,List.nil_append,List.flatten_cons,List.flatten_nil,List.append_nil] using h2):P:=h
theorem Qky{P:Prop}(h:P:=by
  clear hs HSc HSW HBq;go_wp2;go_roundg (np-(j+1))
  case measure=>have:=HG2.out;omega
  case rel=>exact⟨j+1,by have:=HG2.out;omega,rfl,HS9⟩):P:=h
theorem Zz(r:Qaq)(c:Array Value)(W:World)(hx:QaZ W (In W) r c)(hz:RSz r)(hL:Laid W)(hlen:QcG r=true->(Qae (iR r)).length<=140737488355328) :
  Calls prog 14 #[.agg c] W fun e W'=>e=.returned (.string (bs (QdG r)))/\Below W.heap.size W W':=by
 obtain⟨fa,fc,ca,cc,rfl,_,_⟩:=hx.parts;obtain⟨T,hT⟩:∃ T,QdG r=T:=⟨_,rfl⟩
 rw[hT];have HT:=Zh hT;have HX:=Zh hx;have HZ:=Zh hz;have HL:=Zh hL;have HLN:=Zh hlen;have HB0:Hid (Bel W (W.alloc (.cells #[.slice fa r.funcs.length fc,.slice ca r.clauses.length cc,.int .i64 r.action] 25))):=zzb.alloc zzl _;have HRB:=Zh (zzw W (.cells #[.slice fa r.funcs.length fc,.slice ca r.clauses.length cc,.int .i64 r.action] 25));clear hx hz hL hlen hT;go_enter func14,ntmps14;go_upto_region 1 with fail;have HRL:=Zh (Jb HRB.out);generalize World.alloc W _=w1 at *;generalize W.heap.size=n0 at *
 have FR:Hid (∀ W',Below w1.heap.size w1 W'->W'.cell? ⟨n0,0,none⟩=some (.slice fa r.funcs.length fc)/\W'.cell? ⟨n0,1,none⟩=some (.slice ca r.clauses.length cc)/\W'.cell? ⟨n0,2,none⟩=some (.int .i64 r.action)):=by
  intro W' hW;have hf:=(hW.block _ HRL.out).trans HRB.out;refine⟨?_,?_,?_⟩<;>(rw[Ja hf];rfl)
 obtain⟨r0,r1,r2⟩:=FR.out _ zzb;have HX1:=Zh (HX.out.up HB0.out);have cr:=Zu r _ w1 HX1.out HZ.out;obtain⟨q,hq⟩:∃ q,QcG r=q:=⟨_,rfl⟩
 rw[hq]at cr;have HQ:=Zh hq;clear hq;go_wp2_with fail;refine cr.mono ?_;rintro e w2 ⟨rfl,hb2⟩;have HB2:=Zh hb2;clear cr hb2 r0 r1 r2
 cases q with
 |false=>
  have HTE:Hid (T=[]):=HT.out.symm.trans (Jhd HQ.out);have HBF:=Zh (Jd HB0.out HB2.out);clear HQ HT;go_wp2;go_ret;rw[HTE.out];exact⟨rfl,HBF.out⟩
 |true=>
 have HTE:Hid (T=_):=HT.out.symm.trans ((KQ HQ.out).trans (JgR r));have hln:=HLN.out HQ.out;rw[JgR]at hln;replace HLN:=Zh hln;clear hln HT;have hX2:=HX1.out.up HB2.out;have HL2:=Zh ((HL.out.below HB0.out).below HB2.out);have HEX:=Zh (fun (e:Exp) nv m he hb=>JkM hX2 HZ.out HL2.out w2.heap.size e nv m he hb);obtain⟨hF,hC⟩:=Jco HQ.out (fun f hf=>by have:=(HZ.out.fn f hf).2.1;have e:big=1000000000000000000:=rfl;omega);obtain⟨p1,p2,p3,p4,p5⟩:=KA HQ.out;have HFF:=Zh hF;have HCF:=Zh hC;have HAC:=Zh p3;obtain⟨fv',cv',heq,hFs,hCs⟩:=hX2;obtain rfl:Value.slice fa r.funcs.length fc=fv':=by injection heq with heq;injection heq
 obtain rfl:Value.slice ca r.clauses.length cc=cv':=by injection heq with heq;injection heq with _ heq;injection heq
 obtain⟨ad1,cc1,he1,hf1⟩:=Jma hFs;obtain rfl:fa=ad1:=by injection he1
 obtain⟨ad2,cc2,he2,hc1⟩:=JmG hCs;obtain rfl:ca=ad2:=by injection he2
 have HFA:=Zh hf1;have HCA:=Zh hc1;obtain⟨nf,hnf⟩:∃ nf,r.funcs.length=nf:=⟨_,rfl⟩
 obtain⟨nc,hnc⟩:∃ nc,r.clauses.length=nc:=⟨_,rfl⟩
 have HNF:=Zh hnf;have HNC:=Zh hnc;have HN6:Hid (nf<=1000000/\nc<=1000000):=⟨by rw[<- hnf];exact HZ.out.nf,by rw[<- hnc];exact HZ.out.nc⟩
 rw[hnf,hnc]at FR;rw[hnf]at HEX;obtain⟨r0,r1,r2⟩:=FR.out _ HB2.out
 have HW3:Hid (WrI w2.heap.size w2.heap.size (.slice fa nf fc) [] (w2.alloc (.cells #[.pointer none,.slice none 0 0,.slice fa nf fc] 66))):=
  .inl ⟨Nat.le_refl _,_,zzw _ _,World.ownsRow_nil _ _ _ _,by simp[Value.ownBlock]⟩
 have HB3:Hid (Below w2.heap.size w2 (w2.alloc (.cells #[.pointer none,.slice none 0 0,.slice fa nf fc] 66))):=zzb.alloc zzl _;clear hF hC p1 p2 p3 p4 p5 hFs hCs hf1 hc1 he1 he2 heq hnf hnc HX1;go_upto_region 4 with fail;generalize hw3:World.alloc w2 _=w3 at *;clear hw3;replace r0:w3.cell? ⟨n0,0,none⟩=some (.slice fa nf fc):=(FR.out _ (HB2.out.trans (HB3.out.mono HB2.out.size))).1;have HS3:=Zh (WS.nil HW3.out);clear r1 r2 HW3;go_wp2_with fail;go_loopg [20] nf (fun g v20 wr=>∃ i:Nat,g+i=nf/\v20=.int .i64 (i:Int)/\Hid (WS w2.heap.size w2.heap.size (.slice fa nf fc) [] (Qae (iFs (fnF r) (r.funcs.take i))) w3 wr))
 case atStart=>exact⟨0,rfl,rfl,HS3⟩
 case round=>
  clear HS3 r0;obtain⟨wl,rfl⟩:∃ wl:World,wl=wr:=⟨_,rfl⟩
  obtain⟨i,hg,rfl,hws⟩:=hrel;have HS4:=Zh hws.out;clear hws
  by_cases hi:i<nf
  ·have dil:decide ((i:Int)<(nf:Int))=true:=decide_eq_true (by omega);have diN:decide (i<nf)=true:=decide_eq_true hi;have k0:0<=(i:Int):=by omega
   have k1:(i:Int)<(nf:Int):=by omega
   have wk:IntKind.i64.wrap ((i:Int)+1)=((i+1:Nat):Int):=by have:=HN6.out;rw[IntWalk.i64_in _ (by omega)];omega
   obtain⟨f,hf⟩:∃ f,r.funcs[i]?=some f:=⟨_,List.getElem?_eq_getElem (by have:=HNF.out;omega)⟩
   have hmem:=List.mem_of_getElem? hf;obtain⟨fb,fo,had,hk⟩:=HFA.out (List.ne_nil_of_mem hmem);subst had;obtain⟨pa,pc,xa,xc,hpp,hxa,hcell⟩:=hk i f hf;have hfit:=HFF.out f hmem;have HIE:=Zh (HEX.out f.body f.params.length 40 hfit.fits hfit.few);have HXA:=Zh hxa;have HPP:=Zh hpp;have HTY:=Zh hfit.types;have HRT:=Zh hfit.result;have HPL:Hid (f.params.length<=1000000):=(HZ.out.fn f hmem).2.1;have HSN:=Zh (JiH (fnF r) hf);have HLE:=Zh (JlY (fnF r) r.funcs (i+1));have HG:Hid (gk+i=nf/\i<nf):=⟨hg,hi⟩
   have HBW:=Zh (HB3.out.trans HS4.out.bel);obtain⟨q0,q1,q2,q3,q4,q5,q6⟩:=hcell wl HBW.out;have HXB:=Zh (show BxT 44 (wl.alloc (.cells #[.string (bs f.name),.slice pa f.params.length pc,.int .i64 f.result,.int .i64 f.body.kind,.int .i64 f.body.num,.string (bs f.body.name),.slice xa f.body.kids.length xc] 44)) w2.heap.size wl.heap.size _ from⟨zzw _ _,fun e=>by have:=HS4.out.wr.lt;omega,by decide⟩);have HS5:=Zh (HS4.out.up (show Below wl.heap.size wl (wl.alloc (.cells #[.string (bs f.name),.slice pa f.params.length pc,.int .i64 f.result,.int .i64 f.body.kind,.int .i64 f.body.num,.string (bs f.body.name),.slice xa f.body.kids.length xc] 44)) from zzb.alloc zzl _) HBW.out.size);clear hf hmem hk hpp hxa hcell hfit hg hi HS4;go_upto_region 7 with fail;generalize World.alloc wl _=wb at *;generalize wl.heap.size=xb at *;clear q0 q1 q2 q3 q4 q5 q6;have HBB:=Zh (HB3.out.trans HS5.out.bel);obtain⟨A0,hA0⟩:∃ A0,Qae (iFs (fnF r) (r.funcs.take i))=A0:=⟨_,rfl⟩
   rw[hA0]at HS5 HSN;rw[JlX]at HSN;rw[HSN.out]at HLE;obtain⟨ps,hps⟩:∃ ps,f.params=ps:=⟨_,rfl⟩
   rw[hps]at HPP HTY HPL HSN HLE HXB;clear hA0 hps;obtain⟨np,hnp⟩:∃ np,ps.length=np:=⟨_,rfl⟩
   rw[hnp]at HPL HXB;have HNP:=Zh hnp;clear hnp
   have HLB:Hid (A0.length+(([100,101,102,32]++(f.name++[40]))++(Qae (iP ps)++([41,58,32]++(tyN f.result++([32,61,32]++(Qae (iX (fnF r) 0 f.body)++[10])))))).length<=140737488355328):=by
    refine Zh ?_;have h1:=HLN.out;have h2:=HLE.out;simp only[length_append]at h1 h2 |-;omega
   clear HLE;have HS6:=Zh (WS.nil HS5.out.wr);obtain⟨s0,s1,s2,s3,s4,s5,s6⟩:=Qdt (HXB.out.row HS6.out.oth);go_wp2_with fail;refine(Qbw w2.heap.size w2.heap.size (.slice (some ⟨fb,fo,none⟩) nf fc) ([]++A0) [[100,101,102,32],f.name,[40]] 3 _ _ HS5.out.wr rfl (by have h1:=HLB.out;simp only[length_append,length_cons,length_nil,flatten_cons,flatten_nil,append_nil,nil_append]at h1 |-;omega) HBB.out.size (by decide)).mono ?_;rintro e w6 ⟨rfl,hs⟩
   have HS7:Hid (WS w2.heap.size w2.heap.size (.slice (some ⟨fb,fo,none⟩) nf fc) ([]++A0) ([[100,101,102,32],f.name,[40]].flatten++Qae (iP (ps.take 0))) wb w6):=by
    rw[show Qae (iP (ps.take 0))=[] from by rw[List.take_zero,iP];rfl,append_nil];exact hs
   clear hs HS6 s0 s1 s2 s3 s4 s5 s6;obtain⟨s0,s1,s2,s3,s4,s5,s6⟩:=Qdt (HXB.out.row HS7.out.oth);go_wp2_with fail;go_loopg [32] np (fun g v32 wr=>∃ j:Nat,g+j=np/\v32=.int .i64 (j:Int)/\Hid (WS w2.heap.size w2.heap.size (.slice (some ⟨fb,fo,none⟩) nf fc) ([]++A0) ([[100,101,102,32],f.name,[40]].flatten++Qae (iP (ps.take j))) wb wr))
   case atStart=>exact⟨0,rfl,rfl,HS7⟩
   case round=>
    clear HS7 s0 s1 s2 s3 s4 s5 s6;obtain⟨wp,rfl⟩:∃ wp:World,wp=wr:=⟨_,rfl⟩
    obtain⟨j,hg2,rfl,hws⟩:=hrel;have HS8:=Zh hws.out;clear hws
    by_cases hj:j<np
    ·have djl:decide ((j:Int)<(np:Int))=true:=decide_eq_true (by omega);have djN:decide (j<np)=true:=decide_eq_true hj;have j0:0<=(j:Int):=by omega
     have j1:(j:Int)<(np:Int):=by omega
     have wj:IntKind.i64.wrap ((j:Int)+1)=((j+1:Nat):Int):=by have:=HPL.out;rw[IntWalk.i64_in _ (by omega)];omega
     obtain⟨t,ht⟩:∃ t,ps[j]?=some t:=⟨_,List.getElem?_eq_getElem (by have:=HNP.out;omega)⟩
     have hty:Qcb t=true:=List.all_eq_true.1 HTY.out t (List.mem_of_getElem? ht);obtain⟨pb,po,hpa,hpc⟩:=HPP.out.resolve_left (List.ne_nil_of_mem (List.mem_of_getElem? ht));subst hpa;have c0:=hpc wp (HBB.out.trans HS8.out.bel) j t ht;have htk:=JeL ht;obtain⟨hz0,htl⟩:=JgS HNP.out hj;have hle:=JlW (ps.drop (j+1)) (ps.take (j+1));rw[List.take_append_drop,htk,JgQ,htl]at hle;have hap:=JgQ (ps.take j) t;rw[htl,<- htk]at hap;have HAP:=Zh hap;have HLP:=Zh hle;have HZ0:=Zh hz0;have HT1:=Zh hty;have HG2:Hid (gk+j=np/\j<np):=⟨hg2,hj⟩
     have HPC:=Zh hpc;clear ht hty hpc htk hz0 htl hle hap hg2 hj
     by_cases hj0:j=0
     ·have g1:decide (0<(j:Int))=false:=decide_eq_false (by omega);have g2:decide (0<j)=false:=decide_eq_false (by omega);have HJ0:=Zh hj0;clear hj0;have HSa:Hid (WS w2.heap.size w2.heap.size (.slice (some ⟨fb,fo,none⟩) nf fc) (([]++A0)++([[100,101,102,32],f.name,[40]].flatten++Qae (iP (ps.take j)))) [] wp wp):=WS.nil HS8.out.wr;have HSb:Hid (WS w2.heap.size w2.heap.size (.slice (some ⟨fb,fo,none⟩) nf fc) (([]++A0)++([[100,101,102,32],f.name,[40]].flatten++Qae (iP (ps.take j)))) [] wp wp):=HSa.out;clear HSa;have HBq:=Zh ((HBB.out.trans HS8.out.bel).trans HSb.out.bel);have ct:=Vm (j:Int) wp (by have:=HPL.out;have:=HG2.out;exact⟨by omega,by omega⟩) (HL2.out.below HBq.out);go_wp2_with fail;refine ct.mono ?_;rintro e wt ⟨rfl,hb⟩;have HSc:=Zh (HSb.out.up hb HBq.out.size);clear ct hb HSb;go_wp2_with fail;refine(Vk HT1.out wt).mono ?_;rintro e wu ⟨rfl,rfl⟩;have HSW:Hid (WrI w2.heap.size w2.heap.size (.slice (some ⟨fb,fo,none⟩) nf fc) (([]++A0)++([[100,101,102,32],f.name,[40]].flatten++Qae (iP (ps.take j)))) wt):=(by have:=HSc.out.wr;rwa [append_nil]at this)
      go_wp2_with fail;refine(Qbw w2.heap.size w2.heap.size (.slice (some ⟨fb,fo,none⟩) nf fc) (([]++A0)++([[100,101,102,32],f.name,[40]].flatten++Qae (iP (ps.take j)))) [[118],itoa (j:Int),[58,32],tyN t] 4 _ _ HSW.out rfl (by have h1:=HLB.out;have h2:=HLP.out;rw[if_pos (HZ0.out.2 HJ0.out)]at h2;simp only[length_append,length_cons,length_nil,flatten_cons,flatten_nil,append_nil,nil_append]at h1 h2 |-;omega) (le_trans ((HBB.out.trans HS8.out.bel).size) HSc.out.bel.size) (by decide)).mono ?_;rintro e wv ⟨rfl,hs⟩
      have HS9:Hid (WS w2.heap.size w2.heap.size (.slice (some ⟨fb,fo,none⟩) nf fc) ([]++A0) ([[100,101,102,32],f.name,[40]].flatten++Qae (iP (ps.take (j+1)))) wb wv):=by
       have h1:=HSc.out.trans0 hs;have h2:=HS8.out.trans h1;refine Zh ?_;rw[HAP.out,if_pos (HZ0.out.2 HJ0.out)];exact QkT
      exact Qky
     ·have g1:decide (0<(j:Int))=true:=decide_eq_true (by omega);have g2:decide (0<j)=true:=decide_eq_true (by omega);have HJ0:=Zh hj0;clear hj0;have HSa:Hid (WS w2.heap.size w2.heap.size (.slice (some ⟨fb,fo,none⟩) nf fc) (([]++A0)++([[100,101,102,32],f.name,[40]].flatten++Qae (iP (ps.take j)))) [] wp wp):=WS.nil HS8.out.wr;go_wp2_with fail;refine(Qbw w2.heap.size w2.heap.size (.slice (some ⟨fb,fo,none⟩) nf fc) (([]++A0)++([[100,101,102,32],f.name,[40]].flatten++Qae (iP (ps.take j)))) [[44,32]] 1 _ _ HS8.out.wr rfl (by have h1:=HLB.out;have h2:=HLP.out;rw[if_neg (fun h=>HJ0.out (HZ0.out.1 h))]at h2;simp only[length_append,length_cons,length_nil,flatten_cons,flatten_nil,append_nil,nil_append]at h1 h2 |-;omega) (le_trans HBB.out.size HS8.out.bel.size) (by decide)).mono ?_;rintro e wq ⟨rfl,hs⟩;have HSb:Hid (WS w2.heap.size w2.heap.size (.slice (some ⟨fb,fo,none⟩) nf fc) (([]++A0)++([[100,101,102,32],f.name,[40]].flatten++Qae (iP (ps.take j)))) [44,32] wp wq):=hs;clear hs HSa c0;have HBq:=Zh ((HBB.out.trans HS8.out.bel).trans HSb.out.bel);have ct:=Vm (j:Int) wq (by have:=HPL.out;have:=HG2.out;exact⟨by omega,by omega⟩) (HL2.out.below HBq.out);go_wp2_with fail;refine ct.mono ?_;rintro e wt ⟨rfl,hb⟩;have HSc:=Zh (HSb.out.up hb HBq.out.size);clear ct hb HSb;go_wp2_with fail;refine(Vk HT1.out wt).mono ?_;rintro e wu ⟨rfl,rfl⟩;have HSW:Hid (WrI w2.heap.size w2.heap.size (.slice (some ⟨fb,fo,none⟩) nf fc) ((([]++A0)++([[100,101,102,32],f.name,[40]].flatten++Qae (iP (ps.take j))))++[44,32]) wt):=HSc.out.wr;go_wp2_with fail;refine(Qbw w2.heap.size w2.heap.size (.slice (some ⟨fb,fo,none⟩) nf fc) ((([]++A0)++([[100,101,102,32],f.name,[40]].flatten++Qae (iP (ps.take j))))++[44,32]) [[118],itoa (j:Int),[58,32],tyN t] 4 _ _ HSW.out rfl (by have h1:=HLB.out;have h2:=HLP.out;rw[if_neg (fun h=>HJ0.out (HZ0.out.1 h))]at h2;simp only[length_append,length_cons,length_nil,flatten_cons,flatten_nil,append_nil,nil_append]at h1 h2 |-;omega) (le_trans ((HBB.out.trans HS8.out.bel).size) HSc.out.bel.size) (by decide)).mono ?_;rintro e wv ⟨rfl,hs⟩
      have HS9:Hid (WS w2.heap.size w2.heap.size (.slice (some ⟨fb,fo,none⟩) nf fc) ([]++A0) ([[100,101,102,32],f.name,[40]].flatten++Qae (iP (ps.take (j+1)))) wb wv):=by
       have h1:=HSc.out.trans hs;have h2:=HS8.out.trans h1;refine Zh ?_;rw[HAP.out,if_neg (fun h=>HJ0.out (HZ0.out.1 h))];exact QkT
      exact Qky
    ·have djl:decide ((j:Int)<(np:Int))=false:=decide_eq_false (by omega);have djN:decide (j<np)=false:=decide_eq_false hj
     have HSE:Hid (WS w2.heap.size w2.heap.size (.slice (some ⟨fb,fo,none⟩) nf fc) ([]++A0) ([[100,101,102,32],f.name,[40]].flatten++Qae (iP ps)) wb wp):=by
      have:=HS8.out
      rwa [List.take_of_length_le (by have:=HNP.out;omega)]at this
     clear hj hg2 HS8;obtain⟨s0,s1,s2,s3,s4,s5,s6⟩:=Qdt (HXB.out.row HSE.out.oth);go_wp2_with fail;refine(Vk HRT.out wp).mono ?_;rintro e wu ⟨rfl,rfl⟩;go_wp2_with fail;refine(Qbw w2.heap.size w2.heap.size (.slice (some ⟨fb,fo,none⟩) nf fc) (([]++A0)++([[100,101,102,32],f.name,[40]].flatten++Qae (iP ps))) [[41,58,32],tyN f.result,[32,61,32]] 3 _ _ HSE.out.wr rfl (by have h1:=HLB.out;simp only[length_append,length_cons,length_nil,flatten_cons,flatten_nil,append_nil,nil_append]at h1 |-;omega) (le_trans HBB.out.size HSE.out.bel.size) (by decide)).mono ?_;rintro e w9 ⟨rfl,hs⟩;have HSf:Hid (WS w2.heap.size w2.heap.size (.slice (some ⟨fb,fo,none⟩) nf fc) ([]++A0) (([[100,101,102,32],f.name,[40]].flatten++Qae (iP ps))++[[41,58,32],tyN f.result,[32,61,32]].flatten) wb w9):=HSE.out.trans hs;clear hs HSE s0 s1 s2 s3 s4 s5 s6;obtain⟨s0,s1,s2,s3,s4,s5,s6⟩:=Qdt (HXB.out.row HSf.out.oth);have cx:=HIE.out 0 _ (([]++A0)++(([[100,101,102,32],f.name,[40]].flatten++Qae (iP ps))++[[41,58,32],tyN f.result,[32,61,32]].flatten)) w9 (by decide) HXA.out (HBB.out.trans HSf.out.bel) HSf.out.wr (by have h1:=HLB.out;simp only[length_append,length_cons,length_nil,flatten_cons,flatten_nil,append_nil,nil_append]at h1 |-;omega);unfold Qdz at cx;go_wp2_with fail;refine cx.mono ?_;rintro e w10 ⟨rfl,hs⟩;have HSg:Hid (WS w2.heap.size w2.heap.size (.slice (some ⟨fb,fo,none⟩) nf fc) ([]++A0) ((([[100,101,102,32],f.name,[40]].flatten++Qae (iP ps))++[[41,58,32],tyN f.result,[32,61,32]].flatten)++Qae (iX (fnF r) 0 f.body)) wb w10):=HSf.out.trans hs;clear hs HSf cx s0 s1 s2 s3 s4 s5 s6;go_wp2_with fail;refine(Qbw w2.heap.size w2.heap.size (.slice (some ⟨fb,fo,none⟩) nf fc) (([]++A0)++((([[100,101,102,32],f.name,[40]].flatten++Qae (iP ps))++[[41,58,32],tyN f.result,[32,61,32]].flatten)++Qae (iX (fnF r) 0 f.body))) [[10]] 1 _ _ HSg.out.wr rfl (by have h1:=HLB.out;simp only[length_append,length_cons,length_nil,flatten_cons,flatten_nil,append_nil,nil_append]at h1 |-;omega) (le_trans HBB.out.size HSg.out.bel.size) (by decide)).mono ?_;rintro e w11 ⟨rfl,hs⟩
     have HSh:Hid (WS w2.heap.size w2.heap.size (.slice (some ⟨fb,fo,none⟩) nf fc) [] (Qae (iFs (fnF r) (r.funcs.take (i+1)))) w3 w11):=by
      have h1:=HSg.out.trans hs;have h2:=HS5.out.trans h1;refine Zh ?_;rw[HSN.out];exact QkT
     clear hs HSg;go_wp2;go_roundg (nf-(i+1))
     case measure=>have:=HG.out;omega
     case rel=>exact⟨i+1,by have:=HG.out;omega,rfl,HSh⟩
  ·have dil:decide ((i:Int)<(nf:Int))=false:=decide_eq_false (by omega);have diN:decide (i<nf)=false:=decide_eq_false hi;obtain⟨F0,hF0⟩:∃ F0,Qae (iFs (fnF r) r.funcs)=F0:=⟨_,rfl⟩
   have HSE:Hid (WS w2.heap.size w2.heap.size (.slice fa nf fc) [] (F0++Qae (iCs (fnF r) (r.clauses.take 0))) w3 wl):=by
    have:=HS4.out;rw[List.take_of_length_le (by have:=HNF.out;omega),hF0]at this;rw[show Qae (iCs (fnF r) (r.clauses.take 0))=[] from by rw[List.take_zero,iCs];rfl,append_nil];exact this
   rw[hF0]at HLN HTE;clear hi hg HS4 hF0;obtain⟨r0,r1,r2⟩:=FR.out _ (HB2.out.trans ((HB3.out.trans HSE.out.bel).mono HB2.out.size));go_wp2_with fail;go_loopg [67] nc (fun g v67 wr=>∃ i:Nat,g+i=nc/\v67=.int .i64 (i:Int)/\Hid (WS w2.heap.size w2.heap.size (.slice fa nf fc) [] (F0++Qae (iCs (fnF r) (r.clauses.take i))) w3 wr))
   case atStart=>exact⟨0,rfl,rfl,HSE⟩
   case round=>
    clear HSE r0 r1 r2;obtain⟨wm,rfl⟩:∃ wm:World,wm=wr:=⟨_,rfl⟩
    obtain⟨j,hg2,rfl,hws⟩:=hrel;have HS4:=Zh hws.out;clear hws
    by_cases hj:j<nc
    ·have djl:decide ((j:Int)<(nc:Int))=true:=decide_eq_true (by omega);have djN:decide (j<nc)=true:=decide_eq_true hj;have j0:0<=(j:Int):=by omega
     have j1:(j:Int)<(nc:Int):=by omega
     have wj:IntKind.i64.wrap ((j:Int)+1)=((j+1:Nat):Int):=by have:=HN6.out;rw[IntWalk.i64_in _ (by omega)];omega
     obtain⟨f,hf⟩:∃ f,r.clauses[j]?=some f:=⟨_,List.getElem?_eq_getElem (by have:=HNC.out;omega)⟩
     have hmem:=List.mem_of_getElem? hf;obtain⟨fb,fo,had,hk⟩:=HCA.out (List.ne_nil_of_mem hmem);subst had;obtain⟨xa,xc,hxa,hcell⟩:=hk j f hf;have hfit:=HCF.out f hmem;have HIE:=Zh (HEX.out f.cond 0 40 hfit.fits (by decide));have HXA:=Zh hxa;have HAB:=Zh hfit.act;have HSN:=Zh (JiI (fnF r) hf);have HLE:=Zh (JlZ (fnF r) r.clauses (j+1));have HG2:Hid (gk+j=nc/\j<nc):=⟨hg2,hj⟩
     have HBW:=Zh (HB3.out.trans HS4.out.bel);obtain⟨⟨q0,q1,q2,q3⟩,q4,q5⟩:=hcell wm HBW.out;have HXB:=Zh (show BxT 32 (wm.alloc (.cells #[.int .i64 f.cond.kind,.int .i64 f.cond.num,.string (bs f.cond.name),.slice xa f.cond.kids.length xc,.int .i64 f.action,.string (bs f.reason)] 32)) w2.heap.size wm.heap.size _ from⟨zzw _ _,fun e=>by have:=HS4.out.wr.lt;omega,by decide⟩);have HS5:=Zh (HS4.out.up (show Below wm.heap.size wm (wm.alloc (.cells #[.int .i64 f.cond.kind,.int .i64 f.cond.num,.string (bs f.cond.name),.slice xa f.cond.kids.length xc,.int .i64 f.action,.string (bs f.reason)] 32)) from zzb.alloc zzl _) HBW.out.size);clear hf hmem hk hxa hcell hfit hg2 hj HS4;go_upto_region 22 with fail;generalize World.alloc wm _=wb at *;generalize wm.heap.size=xb at *;clear q0 q1 q2 q3 q4 q5;have HBB:=Zh (HB3.out.trans HS5.out.bel);obtain⟨A0,hA0⟩:∃ A0,F0++Qae (iCs (fnF r) (r.clauses.take j))=A0:=⟨_,rfl⟩
     have HS0:Hid (F0++Qae (iCs (fnF r) (r.clauses.take (j+1)))=A0++([119,104,101,110,32]++(Qae (iX (fnF r) 0 f.cond)++([32,116,104,101,110,32]++(QbQ f.action.toNat++([32,34]++(f.reason++[34,10]))))))):=by
      refine Zh ?_;rw[HSN.out,JmF,<- append_assoc,hA0]
     rw[hA0]at HS5
     have HLB:Hid (A0.length+([119,104,101,110,32]++(Qae (iX (fnF r) 0 f.cond)++([32,116,104,101,110,32]++(QbQ f.action.toNat++([32,34]++(f.reason++[34,10])))))).length<=140737488355328):=by
      refine Zh ?_;have h1:=HLN.out;have h2:=HLE.out;have h3:=congrArg List.length HS0.out;simp only[length_append]at h1 h2 h3 |-;omega
     clear HLE HSN hA0;have HS6:=Zh (WS.nil HS5.out.wr);go_wp2_with fail;refine(Qbw w2.heap.size w2.heap.size (.slice fa nf fc) ([]++A0) [[119,104,101,110,32]] 1 _ _ HS5.out.wr rfl (by have h1:=HLB.out;simp only[length_append,length_cons,length_nil,flatten_cons,flatten_nil,append_nil,nil_append]at h1 |-;omega) HBB.out.size (by decide)).mono ?_;rintro e w6 ⟨rfl,hs⟩;have HS7:Hid (WS w2.heap.size w2.heap.size (.slice fa nf fc) ([]++A0) [119,104,101,110,32] wb w6):=hs;clear hs HS6;obtain⟨s0,s1,s2,s3,s4,s5⟩:=Qia (HXB.out.row HS7.out.oth);have cx:=HIE.out 0 _ (([]++A0)++[119,104,101,110,32]) w6 (by decide) HXA.out (HBB.out.trans HS7.out.bel) HS7.out.wr (by have h1:=HLB.out;simp only[length_append,length_cons,length_nil,flatten_cons,flatten_nil,append_nil,nil_append]at h1 |-;omega);unfold Qdz at cx;go_wp2_with fail;refine cx.mono ?_;rintro e w7 ⟨rfl,hs⟩;have HS8:Hid (WS w2.heap.size w2.heap.size (.slice fa nf fc) ([]++A0) ([119,104,101,110,32]++Qae (iX (fnF r) 0 f.cond)) wb w7):=HS7.out.trans hs;clear hs HS7 cx s0 s1 s2 s3 s4 s5;go_upto_region 24 with fail;refine KJ 7 [] (fun i=>WK.rel (match i with|0=>.const (.pointer (some ⟨w2.heap.size,0,none⟩))|1=>.const (.pointer (some ⟨xb,4,none⟩))|2=>.const (.int .i64 f.action)|3=>.const (.string (bs (QbQ f.action.toNat)))|4=>.const (.pointer (some ⟨xb,5,none⟩))|5=>.const (.string (bs f.reason))|6=>.strs [[32,116,104,101,110,32],QbQ f.action.toNat,[32,34],f.reason,[34,10]] 5|_=>.const undef)) (fun W=>Below w7.heap.size w7 W) zzb.drew (by decide) (fun _ _ h hb=>Jd h hb) (fun i v P P1 w w1=>WK.keep _ v P P1 w w1) (Qft (n:=7) ?_) ?_
     ·refine⟨⟨⟨⟨⟨⟨⟨trivial,?_⟩,?_⟩,?_⟩,?_⟩,?_⟩,?_⟩,?_⟩
      ·refine QaP.of 0 rfl fun a0 w9 Pr hb hP hn hd ho K hK=>?_
       have o3:a0.tmps[3]?.getD undef=.pointer (some ⟨w2.heap.size,0,none⟩):=ho 3 (by kernel_rfl);exact bx4
      ·refine QaP.of 1 rfl fun a0 w9 Pr hb hP hn hd ho K hK=>?_
       have o9:a0.tmps[9]?.getD undef=.pointer (some ⟨xb,0,none⟩):=ho 9 (by kernel_rfl);exact bx4
      ·refine QaP.of 2 rfl fun a0 w9 Pr hb hP hn hd ho K hK=>?_
       obtain⟨v1,rfl,e1⟩:=hd 1 79 (by kernel_rfl) rfl;obtain⟨s0,s1,s2,s3,s4,s5⟩:=Qia (HXB.out.row (Vs HS8.out.oth hb));exact bx4
      ·refine QaP.of 3 rfl fun a0 w9 Pr hb hP hn hd ho K hK=>?_
       obtain⟨v2,rfl,e2⟩:=hd 2 80 (by kernel_rfl) rfl;go_simp;go_at_call 32;refine(Vx HAB.out _).mono ?_;rintro e w8 ⟨rfl,rfl⟩;exact hK.out _ _ zzb (fun _ _ _=>rfl) (fun h=>absurd h (by decide))
      ·refine QaP.of 4 rfl fun a0 w9 Pr hb hP hn hd ho K hK=>?_
       have o9:a0.tmps[9]?.getD undef=.pointer (some ⟨xb,0,none⟩):=ho 9 (by kernel_rfl);exact bx4
      ·refine QaP.of 5 rfl fun a0 w9 Pr hb hP hn hd ho K hK=>?_
       obtain⟨v4,rfl,e4⟩:=hd 4 82 (by kernel_rfl) rfl;obtain⟨s0,s1,s2,s3,s4,s5⟩:=Qia (HXB.out.row (Vs HS8.out.oth hb));exact bx4
      ·refine QaP.of 6 rfl fun a0 w9 Pr hb hP hn hd ho K hK=>?_
       obtain⟨v3,rfl,e3⟩:=hd 3 81 (by kernel_rfl) rfl;obtain⟨v5,rfl,e5⟩:=hd 5 83 (by kernel_rfl) rfl;go_simp;exact hK.out _ _ (zzb.alloc zzl _) (fun Pr1 h1 h2=>⟨_,rfl,JdW _ [[32,116,104,101,110,32],QbQ f.action.toNat,[32,34],f.reason,[34,10]]⟩) (fun h=>absurd h (by decide))
     intro n9 vs w9 hn9 hb9 hp9 hd9 hr9;obtain⟨q,e6,ht⟩:=hr9 6 (by decide);have e0:vs 0=_:=hr9 0 (by decide);have hb9:Below w7.heap.size w7 w9:=hb9;rw[show Qbk _ 7 vs=[(78,vs 0),(79,vs 1),(80,vs 2),(81,vs 3),(82,vs 4),(83,vs 5),(84,vs 6)] from rfl];simp only[Qcq,e6,e0,List.setIfInBounds_toArray,List.set_cons_zero,List.set_cons_succ];have HS9:=Zh (HS8.out.up hb9 (HBB.out.trans HS8.out.bel).size);have cp:=Jcg w2.heap.size w2.heap.size (.slice fa nf fc) (([]++A0)++([119,104,101,110,32]++Qae (iX (fnF r) 0 f.cond))) q 5 [[32,116,104,101,110,32],QbQ f.action.toNat,[32,34],f.reason,[34,10]] w9 HS9.out.wr ht (ht.ne HS9.out.wr) (by have h1:=HLB.out;simp only[length_append,length_cons,length_nil,flatten_cons,flatten_nil,append_nil,nil_append]at h1 |-;omega) (HBB.out.trans HS9.out.bel).size (Nat.le_of_ble_eq_true rfl);clear hp9 hd9 hr9 e6 e0 ht hb9 HS8;generalize vs 1=y1;generalize vs 2=y2;generalize vs 3=y3;generalize vs 4=y4;generalize vs 5=y5;clear vs;obtain⟨n9,rfl⟩:∃ mm,n9=mm+1:=⟨n9-1,by have:(8:Nat)-7<=n9:=hn9;omega⟩
     clear hn9;refine Y3 (S:=fun _=>True) (z:=7) _ _ _ _ (LZ 7 rfl fun K hK=>?_);go_simp;go_at_call 28;refine cp.mono ?_;rintro e w10 ⟨rfl,hs⟩;refine hK.out _ _ ?_;clear hK K cp
     have HSh:Hid (WS w2.heap.size w2.heap.size (.slice fa nf fc) [] (F0++Qae (iCs (fnF r) (r.clauses.take (j+1)))) w3 w10):=by
      have h1:=HS9.out.trans hs;have h2:=HS5.out.trans h1;refine Zh ?_;rw[HS0.out];exact QkT
     clear hs HS9;go_wp2;go_roundg (nc-(j+1))
     case measure=>have:=HG2.out;omega
     case rel=>exact⟨j+1,by have:=HG2.out;omega,rfl,HSh⟩
    ·have djl:decide ((j:Int)<(nc:Int))=false:=decide_eq_false (by omega);have djN:decide (j<nc)=false:=decide_eq_false hj
     have HSE:Hid (WS w2.heap.size w2.heap.size (.slice fa nf fc) [] (F0++Qae (iCs (fnF r) r.clauses)) w3 wm):=by
      have:=HS4.out
      rwa [List.take_of_length_le (by have:=HNC.out;omega)]at this
     clear hj hg2 HS4;obtain⟨r0,r1,r2⟩:=FR.out _ (HB2.out.trans ((HB3.out.trans HSE.out.bel).mono HB2.out.size));go_wp2_with fail;refine(Vx HAC.out _).mono ?_;rintro e w5 ⟨rfl,rfl⟩;go_wp2_with fail;refine(Qbw w2.heap.size w2.heap.size (.slice fa nf fc) ([]++(F0++Qae (iCs (fnF r) r.clauses))) [[100,101,102,97,117,108,116,32],QbQ r.action.toNat,[10]] 3 _ _ HSE.out.wr rfl (by have h1:=HLN.out;simp only[length_append,length_cons,length_nil,flatten_cons,flatten_nil,append_nil,nil_append]at h1 |-;omega) (HB3.out.trans HSE.out.bel).size (by decide)).mono ?_;rintro e w6 ⟨rfl,hs⟩;have HSF:=Zh (HSE.out.trans hs);clear hs HSE r0 r1 r2
     have hwr:WrI w2.heap.size w2.heap.size (.slice fa nf fc) T w6:=by
      have:=HSF.out.wr;rw[HTE.out];simpa only[append_assoc,nil_append,flatten_cons,flatten_nil,append_nil] using this
     have co:=JiB _ _ _ T w6 hwr (by rw[HTE.out];intro h;have:=congrArg List.length h;simp at this) (by rw[HTE.out];exact HLN.out);have HBF:=Zh (Jd HB0.out HB2.out);have HBG:=Zh ((HB3.out.trans HSF.out.bel));clear hwr;go_wp2_with fail;refine co.mono ?_;rintro e w7 ⟨rfl,hb7⟩;have HEND:=Zh (Jd HBF.out (HBG.out.trans hb7));clear co hb7;go_wp2;go_ret;exact⟨rfl,HEND.out⟩
open Go Go.Lib
open Go.ChangeShapes Go.WideShapes Go.ChangeAt Go.RowKit
open Go.ChangeShapes Go.WideShapes Go.ChangeAt Go.RowKit Go.Lib
open Go.RowKit
open Go
theorem Stop.mid{rest sp:List UInt8}{o:Nat}(ho:o<=rest.length)(hb:Qkz sp):Stop rest (rest.take o++(sp++rest.drop o)):=by
 cases o with
 |zero=>
  cases sp with
  |nil=>exact .inl (by simp)
  |cons c s=>exact .inr (.inr ⟨c,s++rest,by simp,hb c (by simp)⟩)
 |succ o=>
  cases rest with
  |nil=>simp at ho
  |cons c r=>exact .inl (by simp)
theorem Stop.cut{rest:List UInt8}{o:Nat}(ho:o<=rest.length):Stop rest (rest.take o):=by
 have:=Stop.mid (sp:=[]) ho (fun c h=>by simp at h)
 cases o with
 |zero=>exact .inr (.inl (by simp))
 |succ o=>
  cases rest with
  |nil=>simp at ho
  |cons c r=>exact .inl (by simp)
def lk{α:Type}(g:Tok->List Tok->PR α):List Tok->PR α:=fun r=>g (hd r) r
def op1{α:Type}(c:Tok->Option Int)(g:Int->Tok->List Tok->PR α)(h:List Tok->PR α):List Tok->PR α:=fun r=>match c (hd r) with|some k=>g k (hd r) r.tail|none=>h r
def tks{α:Type}(c:Tok->Prop)[DecidablePred c](g:Tok->List Tok->PR α)(h:List Tok->PR α):List Tok->PR α:=fun r=>if c (hd r) then g (hd r) r.tail else h r
section
variable {suf:List Tok} {e:Tok}
variable (h4:e.kind=4)
include h4
omit h4 in
theorem Qde{k:Int}{s:List UInt8}{r r':List Tok}(h:acc k s r=some r'):r'=r.tail:=by
 unfold acc at h;split at h
 ·injection h with h;exact h.symm
 ·cases h
omit h4 in
theorem Qfu{k:Int}{s:List UInt8}{r r':List Tok}{u:Unit}(h:Qaf k s r=.ok u r'):r'=r.tail:=by
 unfold Qaf at h
 cases q:acc k s r with
 |some r1=>rw[q]at h;injection h with _ h;rw[<- h];exact Qde q
 |none=>rw[q]at h;cases h
omit h4 in
theorem Qhm{a:Int}{r r':List Tok}(h:Qcj r=.ok a r'):r'=r.tail:=by
 unfold Qcj at h
 cases q:acc 0 Qcx r with
 |some r1=>rw[q]at h;injection h with _ h;rw[<- h];exact Qde q
 |none=>
  rw[q]at h;simp only at h
  cases q:acc 0 QbV r with
  |some r1=>rw[q]at h;injection h with _ h;rw[<- h];exact Qde q
  |none=>
   rw[q]at h;simp only at h
   cases q:acc 0 Qcg r with
   |some r1=>rw[q]at h;injection h with _ h;rw[<- h];exact Qde q
   |none=>
    rw[q]at h;simp only at h
    cases q:acc 0 Qdj r with
    |some r1=>rw[q]at h;injection h with _ h;rw[<- h];exact Qde q
    |none=>rw[q]at h;cases h
end
def tkO:Nat->List It->List Tok
 |_,[]=>[]
 |k,.s _::l=>tkO (k+1) l
 |k,.t x::l=>⟨x.kind,x.text,x.n,(k:Nat)⟩::tkO (k+(wr x).length) l
theorem Qhd(x:Tok)(l:List It):Qae (.t x::l)=wr x++Qae l:=rfl
theorem QfK(c:UInt8)(l:List It):Qae (.s c::l)=c::Qae l:=rfl
theorem Qgv:∀ (l:List It) (k:Nat),Ch l->(tkO k l).map er=tk l
 |[],k,_=>rfl
 |.s c::l,k,h=>by
  rw[Ch]at h;rw[tkO,Qgv l (k+1) h.2,QlQ]
 |.t x::l,k,h=>by
  rw[Ch]at h;obtain⟨_,_,ho⟩:=Jlo h.1 h.2.1;rw[tkO,map_cons,Qgv l _ h.2.2,Qlf];obtain⟨a,b,d,o⟩:=x;simp only at ho;subst ho;rfl
def QiO(g:Nat)(r:List Tok):PR ClS:=(pM g .expr r).bind fun c r2=>(Qaf 0 QbJ r2).bind fun _ r3=>(Qcj r3).bind fun a r4=>(Qbp r4).bind fun s r5=>.ok ⟨c,a,s⟩ r5
def clN(g:Nat):Nat->List ClS->List Tok->PR (List ClS)
 |0,l,r=>.ok l r
 |n+1,l,r=>match acc 0 QaR r with
  |some r1=>(QiO g r1).bind fun c r2=>clN g n (l++[c]) r2
  |none=>.bad (hd r).off
theorem Qem(g:Nat):∀ (n f:Nat) (l l':List ClS) (r r':List Tok),clN g n l r=.ok l' r'->Qad g (f+n) l r=Qad g f l' r'
 |0,f,l,l',r,r',h=>by rw[clN]at h;injection h with h1 h2;rw[h1,h2];rfl
 |n+1,f,l,l',r,r',h=>by
  rw[<- Nat.add_assoc,Qad];rw[clN]at h
  cases e:acc 0 QaR r with
  |none=>rw[e]at h;cases h
  |some r1=>
   rw[e]at h;simp only at h |-;obtain⟨c,r2,h1,h2⟩:=Je h;unfold QiO at h1;obtain⟨c1,q1,g1,h1⟩:=Je h1;obtain⟨c2,q2,g2,h1⟩:=Je h1;obtain⟨c3,q3,g3,h1⟩:=Je h1;obtain⟨c4,q4,g4,h1⟩:=Je h1;injection h1 with e1 e2;subst e1 e2;rw[g1,Jj,g2,Jj,g3,Jj,g4,Jj];exact Qem g n f _ _ _ _ h2
theorem QjG:∀ (l:List UInt8) (k:Nat) (ts:List Tok),sc k l=.ok ts->∀ (i:Nat) (t:Tok),ts[i]?=some t->∃ o:Nat,t.off=((k+o:Nat):Int)/\o<=l.length/\sc k (l.take o)=.ok (ts.take i++[⟨4,[],0,((k+o:Nat):Int)⟩]):=by
 refine Jdg (P:=fun k l=>∀ ts,sc k l=.ok ts->∀ (i:Nat) (t:Tok),ts[i]?=some t->∃ o:Nat,t.off=((k+o:Nat):Int)/\o<=l.length/\sc k (l.take o)=.ok (ts.take i++[⟨4,[],0,((k+o:Nat):Int)⟩])) ?_ ?_ ?_ ?_
 ·intro k ts h i t ht;rw[Jdf]at h;injection h with h;subst h
  cases i with
  |zero=>
   simp only[List.getElem?_cons_zero,Option.some.injEq]at ht;subst ht;exact⟨0,rfl,Nat.le_refl _,rfl⟩
  |succ i=>simp at ht
 ·intro k c r hs ih ts h i t ht;rw[Jhr k r hs]at h;obtain⟨o,h1,h2,h3⟩:=ih ts h i t ht;have e:k+(o+1)=k+1+o:=by omega
  refine⟨o+1,by rw[e];exact h1,by rw[length_cons];omega,?_⟩;rw[List.take_succ_cons,Jhr k _ hs,e];exact h3
 ·intro k c r hs hn ts h;rw[JbW k r hs hn]at h
  cases h
 ·intro k c r t n hs ht h1 hn ih ts h i u hu;rw[Jak k r hs ht]at h;obtain⟨ts',h2,rfl⟩:=JeV h
  cases i with
  |zero=>
   simp only[List.getElem?_cons_zero,Option.some.injEq]at hu;subst hu;exact⟨0,rfl,Nat.zero_le _,rfl⟩
  |succ i=>
   simp only[List.getElem?_cons_succ]at hu;obtain⟨o,g1,g2,g3⟩:=ih ts' h2 i u hu;rw[List.length_drop]at g2;have e:k+(n+o)=k+n+o:=by omega
   refine⟨n+o,by rw[e];exact g1,by omega,?_⟩;have hw:=(JaP ht).1;rw[List.take_add,<- hw,QgA k hs ht _ (Stop.cut (by rw[List.length_drop];omega)),g3,e];rfl
theorem Qjd{s:Src}{r:Qaq}(h:Qcs s=(r,0,0)):Qbd s=none/\(Qac s).2=[]/\QaY (Qac s).1=[]/\QaN (Qac s).1=r:=by
 unfold Qcs at h
 cases q1:Qbd s with
 |some o=>rw[q1]at h;simp at h
 |none=>
  rw[q1]at h;simp only at h
  cases q2:QaG (Qac s).2 with
  |some o=>rw[q2]at h;simp at h
  |none=>
   rw[q2]at h;simp only at h
   cases q3:QaG (QaY (Qac s).1) with
   |some o=>rw[q3]at h;simp at h
   |none=>
    rw[q3]at h;simp only[Prod.mk.injEq]at h;exact⟨rfl,JeA q2,JeA q3,h.1⟩
theorem Qhj{fs:List FnS}{cs:List ClS}{act:Int}{r:Qaq}(h:Qcs ⟨fs,cs,act⟩=(r,0,0))(x:ClS)(hx:QaC x.cond<=40) :
  Qcs ⟨fs,cs++[x],act⟩=match QaG (resC (fs.map (·.name.1)) x).2 with
   |some o=>(Qag,16,o)
   |none=>match QaG (QcP (r.funcs.map fun f=>⟨f.params,f.result⟩) [] 1 (resC (fs.map (·.name.1)) x).1.cond) with
    |some o=>(Qag,15,o)
    |none=>(⟨r.funcs,r.clauses++[⟨Qab (resC (fs.map (·.name.1)) x).1.cond,(resC (fs.map (·.name.1)) x).1.action,(resC (fs.map (·.name.1)) x).1.reason⟩],r.action⟩,0,0):=by
 obtain⟨h1,h2,h3,h4⟩:=Qjd h
 have g1:Qbd ⟨fs,cs++[x],act⟩=none:=by
  unfold Qbd Src.roots at h1 |-;simp only[Option.map_eq_none_iff]at h1 |-;rw[map_append,<- append_assoc,List.find?_append,h1];simp only[map_cons,map_nil,Option.none_or,List.find?_cons,List.find?_nil];rw[decide_eq_false (by omega)]
 have g2:(Qac ⟨fs,cs++[x],act⟩).2=(resC (fs.map (·.name.1)) x).2:=by
  unfold Qac at h2 |-;simp only at h2 |-;rw[map_append,map_append,List.flatten_append,<- append_assoc,h2];simp
 have g3:(Qac ⟨fs,cs++[x],act⟩).1=⟨(Qac ⟨fs,cs,act⟩).1.funcs,(Qac ⟨fs,cs,act⟩).1.clauses++[(resC (fs.map (·.name.1)) x).1],act⟩:=by
  unfold Qac;simp
 have g4:QaY (Qac ⟨fs,cs++[x],act⟩).1=QcP (r.funcs.map fun f=>⟨f.params,f.result⟩) [] 1 (resC (fs.map (·.name.1)) x).1.cond:=by
  rw[g3];unfold QaY at h3 |-;simp only at h3 |-;rw[map_append,List.flatten_append,<- append_assoc,h3];rw[<- h4];unfold QaN;simp only[List.map_map,map_cons,map_nil,flatten_cons,flatten_nil,nil_append,append_nil];rfl
 have ha:(Qac ⟨fs,cs,act⟩).1.action=act:=rfl
 have g5:QaN (Qac ⟨fs,cs++[x],act⟩).1=⟨r.funcs,r.clauses++[⟨Qab (resC (fs.map (·.name.1)) x).1.cond,(resC (fs.map (·.name.1)) x).1.action,(resC (fs.map (·.name.1)) x).1.reason⟩],r.action⟩:=by
  rw[g3,<- h4];unfold QaN;simp only[map_append,map_cons,map_nil,ha]
 unfold Qcs;rw[g1];simp only[g2,g4,g5]
 cases QaG (resC (fs.map (·.name.1)) x).2 with
 |some o=>rfl
 |none=>
  simp only
  cases QaG (QcP (r.funcs.map fun f=>⟨f.params,f.result⟩) [] 1 (resC (fs.map (·.name.1)) x).1.cond)<;>rfl
def Qin:List UInt8:=[122,122,122]
def xM:Nat->List It
 |0=>[.t (tW Qin)]
 |1=>[.t (tT [120])]
 |2=>[.t (tI 1)]
 |3=>[.t (tW Qcf),.s 32,.t (tS [60]),.s 32,.t (tI 1)]
 |4=>[.t (tI 1),.s 32,.t (tS [60]),.s 32,.t (tI 2),.s 32,.t (tS [60]),.s 32,.t (tI 3)]
 |_=>[.t (tW Qin),.t (tS [40]),.t (tS [41])]
def xP:List It:=[.s 32,.t (tW QbJ),.s 32,.t (tW Qcx),.s 32,.t (tT []),.s 32]
def xD(a:Int):List It:=[.t (tW Qaj),.s 32,.t (QkA a),.s 10]
theorem x0(g k:Nat)(cs:List ClS)(o1 o2 o3 o4 o5 o6:Int)(R:List Tok):Qad (g+20) (k+2) cs (⟨0,QaR,0,o1⟩::⟨0,Qin,0,o2⟩::⟨0,QbJ,0,o3⟩::⟨0,Qcx,0,o4⟩::⟨2,[],0,o5⟩::⟨0,Qaj,0,o6⟩::R)=.ok (cs++[⟨.mk 2 0 Qin o2 [],0,[]⟩]) (⟨0,Qaj,0,o6⟩::R):=by kernel_rfl
theorem x1(g k:Nat)(cs:List ClS)(o1 o2:Int)(R:List Tok):Qad (g+20) (k+2) cs (⟨0,QaR,0,o1⟩::⟨2,[120],0,o2⟩::R)=.bad o2:=by kernel_rfl
theorem x2(g k:Nat)(cs:List ClS)(o1 o2 o3 o4 o5 o6:Int)(R:List Tok):Qad (g+20) (k+2) cs (⟨0,QaR,0,o1⟩::⟨1,[],1,o2⟩::⟨0,QbJ,0,o3⟩::⟨0,Qcx,0,o4⟩::⟨2,[],0,o5⟩::⟨0,Qaj,0,o6⟩::R)=.ok (cs++[⟨.mk 0 1 [] o2 [],0,[]⟩]) (⟨0,Qaj,0,o6⟩::R):=by kernel_rfl
theorem x3(g k:Nat)(cs:List ClS)(o1 o2 p q o3 o4 o5 o6:Int)(R:List Tok):Qad (g+20) (k+2) cs (⟨0,QaR,0,o1⟩::⟨0,Qcf,0,o2⟩::⟨3,[60],0,p⟩::⟨1,[],1,q⟩::⟨0,QbJ,0,o3⟩::⟨0,Qcx,0,o4⟩::⟨2,[],0,o5⟩::⟨0,Qaj,0,o6⟩::R)=.ok (cs++[⟨.mk 13 0 [] o2 [.mk 1 1 [] o2 [],.mk 0 1 [] q []],0,[]⟩]) (⟨0,Qaj,0,o6⟩::R):=by kernel_rfl
theorem x4(g k:Nat)(cs:List ClS)(o1 o2 p q o3:Int)(R:List Tok):Qad (g+20) (k+2) cs (⟨0,QaR,0,o1⟩::⟨1,[],1,o2⟩::⟨3,[60],0,p⟩::⟨1,[],2,q⟩::⟨3,[60],0,o3⟩::R)=.bad o3:=by kernel_rfl
theorem x5(g k:Nat)(cs:List ClS)(o1 o2 p q o3 o4 o5 o6:Int)(R:List Tok):Qad (g+20) (k+2) cs (⟨0,QaR,0,o1⟩::⟨0,Qin,0,o2⟩::⟨3,[40],0,p⟩::⟨3,[41],0,q⟩::⟨0,QbJ,0,o3⟩::⟨0,Qcx,0,o4⟩::⟨2,[],0,o5⟩::⟨0,Qaj,0,o6⟩::R)=.ok (cs++[⟨.mk 20 0 Qin o2 [],0,[]⟩]) (⟨0,Qaj,0,o6⟩::R):=by kernel_rfl
theorem y0(g k L k':Nat)(cs:List ClS)(a:Int)(E:Tok):Qad (g+20) (k+2) cs (tkO L (.t (tW QaR)::.s 32::(xM 0++xP))++(tkO k' (xD a)++[E]))=.ok (cs++[⟨.mk 2 0 Qin ((L+5:Nat):Int) [],0,[]⟩]) (tkO k' (xD a)++[E]):=x0 g k cs _ _ _ _ _ _ _
theorem y1(g k L k':Nat)(cs:List ClS)(a:Int)(E:Tok):Qad (g+20) (k+2) cs (tkO L (.t (tW QaR)::.s 32::(xM 1++xP))++(tkO k' (xD a)++[E]))=.bad ((L+5:Nat):Int):=x1 g k cs _ _ _
theorem y2(g k L k':Nat)(cs:List ClS)(a:Int)(E:Tok):Qad (g+20) (k+2) cs (tkO L (.t (tW QaR)::.s 32::(xM 2++xP))++(tkO k' (xD a)++[E]))=.ok (cs++[⟨.mk 0 1 [] ((L+5:Nat):Int) [],0,[]⟩]) (tkO k' (xD a)++[E]):=x2 g k cs _ _ _ _ _ _ _
theorem y3(g k L k':Nat)(cs:List ClS)(a:Int)(E:Tok):Qad (g+20) (k+2) cs (tkO L (.t (tW QaR)::.s 32::(xM 3++xP))++(tkO k' (xD a)++[E]))=.ok (cs++[⟨.mk 13 0 [] ((L+5:Nat):Int) [.mk 1 1 [] ((L+5:Nat):Int) [],.mk 0 1 [] ((L+12:Nat):Int) []],0,[]⟩]) (tkO k' (xD a)++[E]):=x3 g k cs _ _ _ _ _ _ _ _ _
theorem y4(g k L k':Nat)(cs:List ClS)(a:Int)(E:Tok):Qad (g+20) (k+2) cs (tkO L (.t (tW QaR)::.s 32::(xM 4++xP))++(tkO k' (xD a)++[E]))=.bad ((L+11:Nat):Int):=by
 have w1:(wr (tI 1)).length=1:=by kernel_rfl
 have w2:(wr (tI 2)).length=1:=by kernel_rfl
 unfold xM;simp only[List.cons_append,nil_append,tkO,w1,w2];exact x4 g k cs _ _ _ _ _ _
theorem y5(g k L k':Nat)(cs:List ClS)(a:Int)(E:Tok):Qad (g+20) (k+2) cs (tkO L (.t (tW QaR)::.s 32::(xM 5++xP))++(tkO k' (xD a)++[E]))=.ok (cs++[⟨.mk 20 0 Qin ((L+5:Nat):Int) [],0,[]⟩]) (tkO k' (xD a)++[E]):=x5 g k cs _ _ _ _ _ _ _ _ _
theorem Qlp(k n:Int)(s:List UInt8)(o:Int):QaC (.mk k n s o [])=1:=by rw[QaC,Qbs]
theorem Qlm(ns:List (List UInt8))(vars:List (List UInt8))(k n o:Int)(h:k=0\/k=1):Qcl ns vars (.mk k n [] o [])=(.mk k n [] o [],[]):=by
 rw[VE,if_neg (by omega),if_neg (by omega),if_neg (by omega),Jcn]
theorem QhL(sg:List Qbn)(vars:List Int)(n o:Int):ofN sg vars (.mk 1 n [] o [])=(1,[]):=by
 rw[Jlb];rfl
end Go.Proofs.YtdlkcjkjnehnkaaGreatDoor
