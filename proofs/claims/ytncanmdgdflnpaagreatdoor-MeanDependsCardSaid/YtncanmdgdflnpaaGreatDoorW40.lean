import Derived.Deep.CutBlock
import Derived.Test.YtncanmdgdflnpaaGreatDoorW39
namespace Go.Proofs.YtncanmdgdflnpaaGreatDoor
open Go.ChangeShapes Go.WideShapes Go.ChangeAt Go.RowKit Go.Lib
open _root_.Go.Proofs.Tryz
set_option linter.all false
set_option maxRecDepth 100000
set_option maxHeartbeats 32000000
theorem boxes2 (w:World) (o0 o1:Obj):Bel w ((w.alloc o0).alloc o1)∧((w.alloc o0).alloc o1).heap[w.heap.size]?=some o0∧((w.alloc o0).alloc o1).heap[w.heap.size+1]?=some o1:=by
 have h0:=zzw w o0;have h1:=zzw (w.alloc o0) o1;simp only[World.size_alloc] at h1;exact ⟨(zzb.alloc zzl _).alloc (by simp) _,Jf h0,h1⟩
inductive DK where
 | const (v:Value)
 | labs (l:List (List UInt8 × Int))
 | words (l:List (List UInt8))
 | facts (l:List (List UInt8 × Int)) (s:List (List UInt8)) (a b:Bool)
 | fresh (cs:Array Value) (t:TypeId)
def DK.rel:DK→Value→(Nat→Prop)→World→Prop
 | .const c,v,_,_=>v=c
 | .labs l,v,P,w=>∃ A C,v=.slice A l.length C∧SliceOf w P RLab l (.slice A l.length C)
 | .words l,v,P,w=>∃ A C,v=.slice A l.length C∧SliceOf w P RWrd l (.slice A l.length C)
 | .facts l s a b,v,P,w=>∃ A C A2 C2,v=.agg #[.slice A l.length C,.int .i64 0,.int .i64 0,.int .i64 0,.int .i64 0,.int .i64 0,.int .i64 0,.int .i64 0,.int .i64 0,.bool a,.bool b,.slice A2 s.length C2]∧SliceOf w P RLab l (.slice A l.length C)∧SliceOf w P RWrd s (.slice A2 s.length C2)
 | .fresh cs t,v,_,w=>∃ b,v=.pointer (some ⟨b,0,none⟩)∧w.heap[b]?=some (.cells cs t (0,0))
theorem DK.keep (k:DK) (v:Value) (P P':Nat→Prop) (w w':World) (hP:∀ q,P q→q<w.heap.size) (h:k.rel v P w) (hb:Below w.heap.size w w') (hq:∀ q,P q→P' q):k.rel v P' w':=by
 have hk:∀ b,P b→w'.heap[b]?=w.heap[b]?:=fun b h=>hb.block b (hP b h)
 cases k with
 | const c=>exact h
 | labs l=>obtain ⟨a,c,h1,h2⟩:=h; exact ⟨a,c,h1,SliceOf.keep hk hq (fun _ _ h=>h) h2⟩
 | words l=>obtain ⟨a,c,h1,h2⟩:=h; exact ⟨a,c,h1,SliceOf.keep hk hq (fun _ _ h=>h) h2⟩
 | facts l s a b=>obtain ⟨A,C,A2,C2,h1,h2,h3⟩:=h; exact ⟨A,C,A2,C2,h1,SliceOf.keep hk hq (fun _ _ h=>h) h2,SliceOf.keep hk hq (fun _ _ h=>h) h3⟩
 | fresh cs t=>obtain ⟨b,h1,h2⟩:=h; exact ⟨b,h1,(hb.block b (Jb h2)).trans h2⟩
structure DHI (r:RuleM) (F G:FactsM) (A:Option Addr) (C:Nat) (A2:Option Addr) (C2:Nat) (v5:World) (hb:Nat) (cs:Array Value) (W:World):Prop where
 row:W.heap[hb]?=some (.cells cs 25 (0,0))
 labs:SliceOf W (fun q=>q<W.heap.size∧q≠hb) RLab (labelsM r F G) (.slice A (labelsM r F G).length C)
 words:SliceOf W (fun q=>q<W.heap.size∧q≠hb) RWrd (wordsM r F G) (.slice A2 (wordsM r F G).length C2)
 bel:Bel v5 W
 lo:v5.heap.size≤hb
section
variable {r:RuleM} {F G:FactsM} {A A2:Option Addr} {C C2:Nat} {v5 W W':World} {hb:Nat} {cs:Array Value}
theorem DHI.up (h:DHI r F G A C A2 C2 v5 hb cs W) (hw:Below W.heap.size W W'):DHI r F G A C A2 C2 v5 hb cs W':=
 have hk:∀ q,(q<W.heap.size∧q≠hb)→W'.heap[q]?=W.heap[q]?:=fun q hq=>hw.block q hq.1
 have hq:∀ q,(q<W.heap.size∧q≠hb)→q<W'.heap.size∧q≠hb:=fun q hq=>⟨Nat.lt_of_lt_of_le hq.1 hw.size,hq.2⟩
 ⟨(hw.block _ (Jb h.row)).trans h.row,h.labs.keep hk hq (fun _ _ h=>h),h.words.keep hk hq (fun _ _ h=>h),Je h.bel hw,h.lo⟩
theorem DHI.set (h:DHI r F G A C A2 C2 v5 hb cs W) (j:Nat) (v:Value):DHI r F G A C A2 C2 v5 hb (cs.setIfInBounds j v) (W.setCell ⟨hb,j,none⟩ v):=by
 have hs:(W.setCell ⟨hb,j,none⟩ v).heap.size=W.heap.size:=by simp[World.setCell]
 have hk:∀ q,(q<W.heap.size∧q≠hb)→(W.setCell ⟨hb,j,none⟩ v).heap[q]?=W.heap[q]?:=fun q hq=>by
  rw[Array.getElem?_eq_getElem hq.1];exact Jh (Array.getElem?_eq_getElem hq.1) (p:=⟨hb,j,none⟩) hq.2 v
 exact ⟨JC h.row j v,h.labs.keep hk (fun q hq=>by rw[hs]; exact hq) (fun _ _ h=>h),h.words.keep hk (fun q hq=>by rw[hs]; exact hq) (fun _ _ h=>h),h.bel.setCell (p:=⟨hb,j,none⟩) h.lo v,h.lo⟩
end
def dhf (r:RuleM) (F G:FactsM) (lv wv:Value) (a b:Bool):Array Value:=#[lv,.int .i64 (chM r fLikes F.likes G.likes),.int .i64 (chM r fBoosts F.boosts G.boosts),.int .i64 (chM r fReplies F.replies G.replies),.int .i64 (chM r fReports F.reports G.reports),.int .i64 (chM r fAge F.age G.age),.int .i64 (chM r fHome F.home G.home),.int .i64 (chM r fScope F.scope G.scope),.int .i64 (chM r fLength F.length G.length),.bool a,.bool b,wv]
theorem cells12 {W:World} {b t:Nat} {a0 a1 a2 a3 a4 a5 a6 a7 a8 a9 a10 a11:Value} {fr:Nat × Nat} (h:W.heap[b]?=some (.cells #[a0,a1,a2,a3,a4,a5,a6,a7,a8,a9,a10,a11] t fr)) :
  W.cell? ⟨b,0,none⟩=some a0∧W.cell? ⟨b,1,none⟩=some a1∧W.cell? ⟨b,2,none⟩=some a2∧W.cell? ⟨b,3,none⟩=some a3∧W.cell? ⟨b,4,none⟩=some a4∧W.cell? ⟨b,5,none⟩=some a5∧W.cell? ⟨b,6,none⟩=some a6∧W.cell? ⟨b,7,none⟩=some a7∧W.cell? ⟨b,8,none⟩=some a8∧W.cell? ⟨b,9,none⟩=some a9∧W.cell? ⟨b,10,none⟩=some a10∧W.cell? ⟨b,11,none⟩=some a11:=⟨Ja h 0,Ja h 1,Ja h 2,Ja h 3,Ja h 4,Ja h 5,Ja h 6,Ja h 7,Ja h 8,Ja h 9,Ja h 10,Ja h 11⟩
theorem frozen12 {W:World} {b t:Nat} {cs:Array Value} (h:W.heap[b]?=some (.cells cs t (0,0))) :
  W.frozen? ⟨b,0,none⟩=false∧W.frozen? ⟨b,1,none⟩=false∧W.frozen? ⟨b,2,none⟩=false∧W.frozen? ⟨b,3,none⟩=false∧W.frozen? ⟨b,4,none⟩=false∧W.frozen? ⟨b,5,none⟩=false∧W.frozen? ⟨b,6,none⟩=false∧W.frozen? ⟨b,7,none⟩=false∧W.frozen? ⟨b,8,none⟩=false∧W.frozen? ⟨b,9,none⟩=false∧W.frozen? ⟨b,10,none⟩=false∧W.frozen? ⟨b,11,none⟩=false:=⟨Jc h 0,Jc h 1,Jc h 2,Jc h 3,Jc h 4,Jc h 5,Jc h 6,Jc h 7,Jc h 8,Jc h 9,Jc h 10,Jc h 11⟩
theorem wx33 {P:Prop}(h:P:=by
  go_simp
  exact hK.out _ _ zzb (fun Pr1 h1 _=>rfl) (fun h=>absurd h (by decide))):P:=h
theorem wx73 {P:Prop}(h:P:=by
  obtain ⟨⟨b0,b1,b2,b3,b4,b5,b6,b7,b8,b9,b10,b11⟩,_⟩:=HG5.out _ hb
  exact wx33):P:=h
theorem wx75 {P:Prop}(h:P:=by
  refine cl.mono ?_;rintro e w9 ⟨A,C,rfl,hs,hbb⟩
  exact hK.out _ _ hbb (fun Pr1 h1 h2=>⟨A,C,rfl,SliceOf.keep (fun _ _=>rfl) (fun q hq=>h2 (by decide) q hq.1 hq.2) (fun _ _ h=>h) hs⟩) (fun h=>absurd h (by decide))):P:=h
theorem wx92 {P:Prop}(h:P:=by
  have o4:a0.tmps[4]?.getD undef=.pointer (some ⟨fb,0,none⟩):=ho 4 (by kernel_rfl);obtain ⟨⟨b0,b1,b2,b3,b4,b5,b6,b7,b8,b9,b10,b11⟩,_⟩:=HF5.out _ hb
  exact wx33):P:=h
theorem wx115 {P:Prop}(h:P:=by
  have o8:a0.tmps[8]?.getD undef=.pointer (some ⟨rb,0,none⟩):=ho 8 (by kernel_rfl);obtain ⟨⟨q0,q1,q2⟩,_⟩:=FR5.out _ hb
  exact wx33):P:=h
theorem JbE (l:List UInt8) (F:FactsM) (la wa:Option Addr) (lc wcp:Nat) (G:FactsM) (la2 wa2:Option Addr) (lc2 wcp2:Nat) (w:World) (hl:l.length≤140737488355328) (hlab:LabsAt w (.slice la F.labels.length lc) F.labels) (hwd:WordsAt w (.slice wa F.words.length wcp) F.words) (hlab2:LabsAt w (.slice la2 G.labels.length lc2) G.labels) (hwd2:WordsAt w (.slice wa2 G.words.length wcp2) G.words) (hL:Laid w) :
  Calls prog 5 #[.string (bs l),.agg (factsC F (.slice la F.labels.length lc) (.slice wa F.words.length wcp)),.agg (factsC G (.slice la2 G.labels.length lc2) (.slice wa2 G.words.length wcp2))] w (BoolPost w true):=by
 have z1:=JP l;obtain ⟨hb1,hz0,hz1⟩:=boxes2 w (.cells (factsC F (.slice la F.labels.length lc) (.slice wa F.words.length wcp)) 25) (.cells (factsC G (.slice la2 G.labels.length lc2) (.slice wa2 G.words.length wcp2)) 25);have HF1:=Zh (FactsV.of hz0 (hlab.up hb1) (hwd.up hb1));have HG1:=Zh (FactsV.of hz1 (hlab2.up hb1) (hwd2.up hb1));have HB1:=Zh (show Bel w _ from hb1);have HL:=Zh hL;obtain ⟨n,hn⟩:∃ n,l.length=n:=⟨_,rfl⟩
 rw[hn] at z1 hl;have HN:=Zh hn;clear hb1 hz0 hz1 hlab hwd hlab2 hwd2 hL hn;unfold factsC at HF1 HG1 HB1 ⊢;go_enter func5,ntmps5;go_upto_region 1 with fail;generalize World.alloc (World.alloc w _) _=w1 at *;generalize w.heap.size+1=gb at *;generalize w.heap.size=fb at *;go_wp2_with fail;refine (Jgm w1 (HL.out.below HB1.out)).mono ?_;rintro e w2 ⟨rfl,hb2⟩;have HB2:=Zh (Je HB1.out hb2);have HF2:=Zh (HF1.out.up hb2);have HG2:=Zh (HG1.out.up hb2);clear HF1 HG1;replace HB2:Hid (Bel w w2):=HB2;clear hb2 HB1;obtain ⟨⟨_,_,_,_,_,_,_,_,_,_,_,c11⟩,_⟩:=HG2.out w2 zzb;obtain ⟨⟨c0,_⟩,_⟩:=HG2.out w2 zzb
 by_cases hn2:2000<n
 ·have d1:decide (2000<(n:Int))=true:=decide_eq_true (by omega);have d1N:decide (2000<n)=true:=decide_eq_true hn2;clear hn2;go_wp2;go_ret;exact ⟨rfl,HB2.out⟩
 have d1:decide (2000<(n:Int))=false:=decide_eq_false (by omega);have d1N:decide (2000<n)=false:=decide_eq_false hn2;clear hn2
 by_cases hg1:100<G.labels.length
 ·have d2:decide (100<(G.labels.length:Int))=true:=decide_eq_true (by omega);have d2N:decide (100<G.labels.length)=true:=decide_eq_true hg1;clear hg1;go_wp2;go_ret;exact ⟨rfl,HB2.out⟩
 have d2:decide (100<(G.labels.length:Int))=false:=decide_eq_false (by omega);have d2N:decide (100<G.labels.length)=false:=decide_eq_false hg1
 by_cases hg2:100<G.words.length
 ·have d3:decide (100<(G.words.length:Int))=true:=decide_eq_true (by omega);have d3N:decide (100<G.words.length)=true:=decide_eq_true hg2;clear hg1 hg2;go_wp2;go_ret;exact ⟨rfl,HB2.out⟩
 have d3:decide (100<(G.words.length:Int))=false:=decide_eq_false (by omega);have d3N:decide (100<G.words.length)=false:=decide_eq_false hg2;have HGS:Hid (G.labels.length≤100∧G.words.length≤100):=⟨by omega,by omega⟩
 clear hg1 hg2;have cp:=parse_any' l w2 (by rw[HN.out]; omega) (HL.out.below HB2.out);have HPF:Hid ((parseM l).2.1=0→rightM (parseM l).1=true∧RSz (parseM l).1):=fun h=>JbD h
 obtain ⟨⟨r,er,at0⟩,hpm⟩:∃ x,parseM l=x:=⟨_,rfl⟩
 rw[hpm] at cp HPF;dsimp only at HPF;clear hpm;go_wp2_with fail;refine cp.mono ?_;intro e u hps;obtain ⟨c,rfl,hx,hb⟩:=hps.inw;dsimp only at hx;dsimp only;clear cp hps d1 d1N d2 d2N d3 d3N c0 c11;obtain ⟨fa,fc,ca,cc,rfl,_,_⟩:=hx.parts;have hq:Below u.heap.size u (u.alloc (.cells #[.slice fa r.funcs.length fc,.slice ca r.clauses.length cc,.int .i64 r.action] 30)):=zzb.alloc zzl _;have HF3:=Zh ((HF2.out.up hb).up hq);have HG3:=Zh ((HG2.out.up hb).up hq);have HB3:Hid (Bel w (u.alloc (.cells #[.slice fa r.funcs.length fc,.slice ca r.clauses.length cc,.int .i64 r.action] 30))):=Je HB2.out (Je hb hq);have HRB:=Zh (zzw u (.cells #[.slice fa r.funcs.length fc,.slice ca r.clauses.length cc,.int .i64 r.action] 30));have HRX:=Zh (hx.up hq);clear hx hb hq HF2 HG2 HB2;go_upto_region 5 with fail;have HRL:=Zh (Jb HRB.out);generalize World.alloc u _=v at *;generalize u.heap.size=rb at *
 have FR:Hid (∀ W,Below v.heap.size v W→(W.cell? ⟨rb,0,none⟩=some (.slice fa r.funcs.length fc)∧W.cell? ⟨rb,1,none⟩=some (.slice ca r.clauses.length cc)∧W.cell? ⟨rb,2,none⟩=some (.int .i64 r.action))∧RuleX W (In W) r #[.slice fa r.funcs.length fc,.slice ca r.clauses.length cc,.int .i64 r.action]):=by
  intro W hW;have hf:=(hW.block _ HRL.out).trans HRB.out;refine ⟨⟨?_,?_,?_⟩,HRX.out.up hW⟩ <;> (rw[Ja hf]; rfl)
 clear HRL HRB HRX
 by_cases her:er=0
 ·subst her;obtain ⟨hrr,hrz⟩:=HPF.out rfl;have HZ:=Zh hrz;clear hrr hrz HPF;obtain ⟨⟨b0,b1,b2,b3,b4,b5,b6,b7,b8,b9,b10,b11⟩,_⟩:=HF3.out _ zzb;obtain ⟨⟨r0,r1,r2⟩,hrx⟩:=FR.out _ zzb;have cl:=Jgn r F _ la wa lc wcp v hrx ⟨HZ.out.len.1,HZ.out.len.2.1,HZ.out.len.2.2⟩;unfold factsC at cl;clear hrx;go_wp2_with fail;refine cl.mono ?_;rintro e v2 ⟨rfl,hb⟩;have HV2:Hid (Bel v v2):=hb;clear cl hb b0 b1 b2 b3 b4 b5 b6 b7 b8 b9 b10 b11 r0 r1 r2
  cases hli:lightM r F with
  | false=>
   have HFIN:Hid (Bel w v2):=Je HB3.out HV2.out;clear hli;go_wp2;go_ret;exact ⟨rfl,HFIN.out⟩
  | true=>
  have HFZ:=Zh (JhV hli)
  have HFN:Hid (F.labels.length≤100∧F.words.length≤100):=by
   unfold lightM at hli;simp only[Bool.and_eq_true,decide_eq_true_eq] at hli;exact ⟨hli.1.2,hli.2⟩
  have HGZ:Hid (FSz G):=⟨by have:=HGS.out.1; omega,by have:=HGS.out.2; omega⟩
  clear hli;obtain ⟨⟨b0,b1,b2,b3,b4,b5,b6,b7,b8,b9,b10,b11⟩,hla,hwa⟩:=HF3.out _ HV2.out;have cf:=Vi F (.slice la F.labels.length lc) (.slice wa F.words.length wcp) v2 HFZ.out hla hwa;unfold factsC at cf;clear hla hwa;go_wp2_with fail;refine cf.mono ?_;rintro e v3 ⟨rfl,hb⟩;have HV3:Hid (Bel v v3):=Je HV2.out hb;clear cf hb b0 b1 b2 b3 b4 b5 b6 b7 b8 b9 b10 b11 HV2
  cases hff:factsM F with
  | false=>
   have HFIN:Hid (Bel w v3):=Je HB3.out HV3.out;clear hff;go_wp2;go_ret;exact ⟨rfl,HFIN.out⟩
  | true=>
  have HFF:=Zh hff;clear hff;obtain ⟨⟨b0,b1,b2,b3,b4,b5,b6,b7,b8,b9,b10,b11⟩,hla,hwa⟩:=HG3.out _ HV3.out;have cf:=Vi G (.slice la2 G.labels.length lc2) (.slice wa2 G.words.length wcp2) v3 HGZ.out hla hwa;unfold factsC at cf;clear hla hwa;go_wp2_with fail;refine cf.mono ?_;rintro e v5 ⟨rfl,hb⟩;have HV5:Hid (Bel v v5):=Je HV3.out hb;clear cf hb b0 b1 b2 b3 b4 b5 b6 b7 b8 b9 b10 b11 HV3
  cases hgg:factsM G with
  | false=>
   have HFIN:Hid (Bel w v5):=Je HB3.out HV5.out;clear hgg;go_wp2;go_ret;exact ⟨rfl,HFIN.out⟩
  | true=>
  have HGG:=Zh hgg;clear hgg;have HFIN:Hid (Bel w v5):=Je HB3.out HV5.out;have FR5:Hid (∀ W,Bel v5 W→(W.cell? ⟨rb,0,none⟩=some (.slice fa r.funcs.length fc)∧W.cell? ⟨rb,1,none⟩=some (.slice ca r.clauses.length cc)∧W.cell? ⟨rb,2,none⟩=some (.int .i64 r.action))∧RuleX W (In W) r #[.slice fa r.funcs.length fc,.slice ca r.clauses.length cc,.int .i64 r.action]):=fun W hW=>FR.out W (Je HV5.out hW)
  have HF5:=Zh (HF3.out.up HV5.out);have HG5:=Zh (HG3.out.up HV5.out);clear FR HF3 HG3 HV5 HB3;go_upto_region 7 with fail;refine JdU 14 [13] (fun i=>DK.rel (match i with | 0 | 4=>.const (.agg #[.slice fa r.funcs.length fc,.slice ca r.clauses.length cc,.int .i64 r.action]) | 1 | 5=>.const (.agg #[.slice la F.labels.length lc,.int .i64 F.likes,.int .i64 F.boosts,.int .i64 F.replies,.int .i64 F.reports,.int .i64 F.age,.int .i64 F.home,.int .i64 F.scope,.int .i64 F.length,.bool F.follows,.bool F.reply,.slice wa F.words.length wcp]) | 2 | 6=>.const (.agg #[.slice la2 G.labels.length lc2,.int .i64 G.likes,.int .i64 G.boosts,.int .i64 G.replies,.int .i64 G.reports,.int .i64 G.age,.int .i64 G.home,.int .i64 G.scope,.int .i64 G.length,.bool G.follows,.bool G.reply,.slice wa2 G.words.length wcp2]) | 3=>.labs (labelsM r F G) | 7=>.words (wordsM r F G) | 8=>.const (.pointer (some ⟨gb,9,none⟩)) | 9=>.const (.bool G.follows) | 10=>.const (.pointer (some ⟨gb,10,none⟩)) | 11=>.const (.bool G.reply) | 12=>.facts (labelsM r F G) (wordsM r F G) G.follows G.reply | 13=>.fresh #[.slice none 0 0,.int .i64 0,.int .i64 0,.int .i64 0,.int .i64 0,.int .i64 0,.int .i64 0,.int .i64 0,.int .i64 0,.bool false,.bool false,.slice none 0 0] 25 | _=>.const undef)) (fun W=>Bel v5 W) zzb.drew (by decide) (fun _ _ h hb=>Je h hb) (fun i v P P1 w w1=>DK.keep _ v P P1 w w1) (allOb (n:=14) ?_) ?_
  ·refine ⟨⟨⟨⟨⟨⟨⟨⟨⟨⟨⟨⟨⟨⟨trivial,?_⟩,?_⟩,?_⟩,?_⟩,?_⟩,?_⟩,?_⟩,?_⟩,?_⟩,?_⟩,?_⟩,?_⟩,?_⟩,?_⟩
   ·refine OpOb.of 0 rfl fun a0 w0 Pr hb hP hn hd ho K hK=>?_
    exact wx115
   ·refine OpOb.of 1 rfl fun a0 w0 Pr hb hP hn hd ho K hK=>?_
    exact wx92
   ·refine OpOb.of 2 rfl fun a0 w0 Pr hb hP hn hd ho K hK=>?_
    have o5:a0.tmps[5]?.getD undef=.pointer (some ⟨gb,0,none⟩):=ho 5 (by kernel_rfl);exact wx73
   ·refine OpOb.of 3 rfl fun a0 w0 Pr hb hP hn hd ho K hK=>?_
    obtain ⟨v0,rfl,e0⟩:=hd 0 54 (by kernel_rfl) rfl;obtain ⟨v1,rfl,e1⟩:=hd 1 55 (by kernel_rfl) rfl;obtain ⟨v2,rfl,e2⟩:=hd 2 56 (by kernel_rfl) rfl;obtain ⟨_,hrx⟩:=FR5.out _ hb;obtain ⟨_,hla,hwa⟩:=HF5.out _ hb;obtain ⟨_,hla2,hwa2⟩:=HG5.out _ hb;have cl:=Jep r _ F G la wa la2 wa2 lc wcp lc2 wcp2 w0 hrx HZ.out HFN.out.1 HGS.out.1 hla hwa hla2 hwa2;unfold factsC at cl;clear hrx hla hwa hla2 hwa2;go_simp;go_at_call 17;exact wx75
   ·refine OpOb.of 4 rfl fun a0 w0 Pr hb hP hn hd ho K hK=>?_
    exact wx115
   ·refine OpOb.of 5 rfl fun a0 w0 Pr hb hP hn hd ho K hK=>?_
    exact wx92
   ·refine OpOb.of 6 rfl fun a0 w0 Pr hb hP hn hd ho K hK=>?_
    have o5:a0.tmps[5]?.getD undef=.pointer (some ⟨gb,0,none⟩):=ho 5 (by kernel_rfl);exact wx73
   ·refine OpOb.of 7 rfl fun a0 w0 Pr hb hP hn hd ho K hK=>?_
    obtain ⟨v0,rfl,e0⟩:=hd 4 58 (by kernel_rfl) rfl;obtain ⟨v1,rfl,e1⟩:=hd 5 59 (by kernel_rfl) rfl;obtain ⟨v2,rfl,e2⟩:=hd 6 60 (by kernel_rfl) rfl;obtain ⟨_,hrx⟩:=FR5.out _ hb;obtain ⟨_,hla,hwa⟩:=HF5.out _ hb;obtain ⟨_,hla2,hwa2⟩:=HG5.out _ hb;have cl:=Jgu r _ F G la wa la2 wa2 lc wcp lc2 wcp2 w0 hrx HZ.out HFN.out.2 HGS.out.2 hla hwa hla2 hwa2;unfold factsC at cl;clear hrx hla hwa hla2 hwa2;go_simp;go_at_call 18;exact wx75
   ·refine OpOb.of 8 rfl fun a0 w0 Pr hb hP hn hd ho K hK=>?_
    have o5:a0.tmps[5]?.getD undef=.pointer (some ⟨gb,0,none⟩):=ho 5 (by kernel_rfl);exact wx33
   ·refine OpOb.of 9 rfl fun a0 w0 Pr hb hP hn hd ho K hK=>?_
    obtain ⟨v0,rfl,e0⟩:=hd 8 62 (by kernel_rfl) rfl;exact wx73
   ·refine OpOb.of 10 rfl fun a0 w0 Pr hb hP hn hd ho K hK=>?_
    have o5:a0.tmps[5]?.getD undef=.pointer (some ⟨gb,0,none⟩):=ho 5 (by kernel_rfl);exact wx33
   ·refine OpOb.of 11 rfl fun a0 w0 Pr hb hP hn hd ho K hK=>?_
    obtain ⟨v0,rfl,e0⟩:=hd 10 64 (by kernel_rfl) rfl;exact wx73
   ·refine OpOb.of 12 rfl fun a0 w0 Pr hb hP hn hd ho K hK=>?_
    obtain ⟨v0,⟨A,C,rfl,hs⟩,e0⟩:=hd 3 57 (by kernel_rfl) rfl;obtain ⟨v1,⟨A2,C2,rfl,hs2⟩,e1⟩:=hd 7 61 (by kernel_rfl) rfl;obtain ⟨v2,rfl,e2⟩:=hd 9 63 (by kernel_rfl) rfl;obtain ⟨v3,rfl,e3⟩:=hd 11 65 (by kernel_rfl) rfl;go_simp;exact hK.out _ _ zzb (fun Pr1 h1 _=>⟨A,C,A2,C2,rfl,SliceOf.keep (fun _ _=>rfl) h1 (fun _ _ h=>h) hs,SliceOf.keep (fun _ _=>rfl) h1 (fun _ _ h=>h) hs2⟩) (fun h=>absurd h (by decide))
   ·refine OpOb.of 13 rfl fun a0 w0 Pr hb hP hn hd ho K hK=>?_
    go_simp;exact hK.out _ _ (zzb.alloc zzl _) (fun Pr1 h1 h2=>⟨_,rfl,zzw _ _⟩) (fun _=>⟨_,rfl,Nat.le_refl _,by simp⟩)
  intro n9 vs w9 hn9 hb9 hp9 hd9 hr9;obtain ⟨hA,hC,hA2,hC2,e12,hs1,hs2⟩:=hr9 12 (by decide);obtain ⟨p13,e13,hz13⟩:=hr9 13 (by decide);obtain ⟨q13,e131,hl13,_⟩:=hp9 13 (by decide);obtain rfl:p13=q13:=by rw[e13] at e131; injection e131 with h; injection h with h; injection h
  rw[show pairsOf _ 14 vs=[(54,vs 0),(55,vs 1),(56,vs 2),(57,vs 3),(58,vs 4),(59,vs 5),(60,vs 6),(61,vs 7),(62,vs 8),(63,vs 9),(64,vs 10),(65,vs 11),(66,vs 12),(11,vs 13)] from rfl];simp only[fillT,e12,e13,List.setIfInBounds_toArray,List.set_cons_zero,List.set_cons_succ];have hpq:∀ q,(q<w9.heap.size∧∀ j∈[13],blkOf (vs j)≠some q)→q<w9.heap.size∧q≠p13:=fun q hq=>⟨hq.1,fun e=>hq.2 13 (by decide) (by rw[e13,e]; rfl)⟩
  have h0:DHI r F G hA hC hA2 hC2 v5 p13 #[.slice none 0 0,.int .i64 0,.int .i64 0,.int .i64 0,.int .i64 0,.int .i64 0,.int .i64 0,.int .i64 0,.int .i64 0,.bool false,.bool false,.slice none 0 0] w9:=⟨hz13,SliceOf.keep (fun _ _=>rfl) hpq (fun _ _ h=>h) hs1,SliceOf.keep (fun _ _=>rfl) hpq (fun _ _ h=>h) hs2,hb9,hl13⟩
  have h1:=h0;have HH:=Zh (((((((((((((h0.set 0 (.slice hA (labelsM r F G).length hC)).set 1 (.int .i64 0)).set 2 (.int .i64 0)).set 3 (.int .i64 0)).set 4 (.int .i64 0)).set 5 (.int .i64 0)).set 6 (.int .i64 0)).set 7 (.int .i64 0)).set 8 (.int .i64 0)).set 9 (.bool G.follows)).set 10 (.bool G.reply)).set 11 (.slice hA2 (wordsM r F G).length hC2)));obtain ⟨c0,c1,c2,c3,c4,c5,c6,c7,c8,c9,c10,c11⟩:=cells12 hz13;obtain ⟨f0,f1,f2,f3,f4,f5,f6,f7,f8,f9,f10,f11⟩:=frozen12 hz13;have hl4:=Jb hz13;clear h0 h1 hpq e131 hl13 hs1 hs2 hz13 hd9 hr9 hp9 hb9 e12 e13;generalize vs 0=y0;generalize vs 1=y1;generalize vs 2=y2;generalize vs 3=y3;generalize vs 4=y4;generalize vs 5=y5;generalize vs 6=y6;generalize vs 7=y7;generalize vs 8=y8;generalize vs 9=y9;generalize vs 10=y10;generalize vs 11=y11;obtain ⟨n9,rfl⟩:∃ m,n9=m+1:=⟨n9-1,by have:(15:Nat)-14≤n9:=hn9; omega⟩
  clear hn9;refine JbR (S:=fun _=>True) (z:=14) _ _ _ _ (LZ 14 rfl fun K hK=>?_);go_simp;refine hK.out _ _ ?_;clear hK K hl4 c0 f0 c1 f1 c2 f2 c3 f3 c4 f4 c5 f5 c6 f6 c7 f7 c8 f8 c9 f9 c10 f10 c11 f11;generalize World.setCell (World.setCell (World.setCell (World.setCell (World.setCell (World.setCell (World.setCell (World.setCell (World.setCell (World.setCell (World.setCell (World.setCell w9 _ _) _ _) _ _) _ _) _ _) _ _) _ _) _ _) _ _) _ _) _ _) _ _=s0 at *;generalize p13=hb at *;simp only[List.setIfInBounds_toArray,List.set_cons_zero,List.set_cons_succ] at HH;obtain ⟨⟨r0,r1,r2⟩,hrx⟩:=FR5.out _ HH.out.bel;obtain ⟨⟨_,b1,_,_,_,_,_,_,_,_,_,_⟩,_⟩:=HF5.out _ HH.out.bel;obtain ⟨⟨_,d1,_,_,_,_,_,_,_,_,_,_⟩,_⟩:=HG5.out _ HH.out.bel;have cl:=Kh r _ fLikes F.likes G.likes s0 hrx HZ.out;rw[show bs fLikes=⟨#[108,105,107,101,115]⟩ from rfl] at cl;clear hrx;go_wp2_with fail;refine cl.mono ?_;rintro e u0 ⟨rfl,hb0⟩;have HH2:=Zh (HH.out.up hb0);clear cl hb0 r0 r1 r2 b1 d1 HH;have HH:=Zh (HH2.out.set 1 (.int .i64 (chM r fLikes F.likes G.likes)));have f1:=Jc HH2.out.row 1;have c1:=Ja HH2.out.row 1;simp only[ZD,ZE,ZF] at c1;clear HH2;go_upto_region 9 with fail;clear f1 c1;generalize World.setCell u0 _ _=s1 at *;simp only[List.setIfInBounds_toArray,List.set_cons_zero,List.set_cons_succ] at HH;obtain ⟨⟨r0,r1,r2⟩,hrx⟩:=FR5.out _ HH.out.bel;obtain ⟨⟨_,_,b2,_,_,_,_,_,_,_,_,_⟩,_⟩:=HF5.out _ HH.out.bel;obtain ⟨⟨_,_,d2,_,_,_,_,_,_,_,_,_⟩,_⟩:=HG5.out _ HH.out.bel;have cl:=Kh r _ fBoosts F.boosts G.boosts s1 hrx HZ.out;rw[show bs fBoosts=⟨#[98,111,111,115,116,115]⟩ from rfl] at cl;clear hrx;go_wp2_with fail;refine cl.mono ?_;rintro e u1 ⟨rfl,hb1⟩;have HH2:=Zh (HH.out.up hb1);clear cl hb1 r0 r1 r2 b2 d2 HH;have HH:=Zh (HH2.out.set 2 (.int .i64 (chM r fBoosts F.boosts G.boosts)));have f2:=Jc HH2.out.row 2;have c2:=Ja HH2.out.row 2;simp only[ZD,ZE,ZF] at c2;clear HH2;go_upto_region 10 with fail;clear f2 c2;generalize World.setCell u1 _ _=s2 at *;simp only[List.setIfInBounds_toArray,List.set_cons_zero,List.set_cons_succ] at HH;obtain ⟨⟨r0,r1,r2⟩,hrx⟩:=FR5.out _ HH.out.bel;obtain ⟨⟨_,_,_,b3,_,_,_,_,_,_,_,_⟩,_⟩:=HF5.out _ HH.out.bel;obtain ⟨⟨_,_,_,d3,_,_,_,_,_,_,_,_⟩,_⟩:=HG5.out _ HH.out.bel;have cl:=Kh r _ fReplies F.replies G.replies s2 hrx HZ.out;rw[show bs fReplies=⟨#[114,101,112,108,105,101,115]⟩ from rfl] at cl;clear hrx;go_wp2_with fail;refine cl.mono ?_;rintro e u2 ⟨rfl,hb2⟩;have HH2:=Zh (HH.out.up hb2);clear cl hb2 r0 r1 r2 b3 d3 HH;have HH:=Zh (HH2.out.set 3 (.int .i64 (chM r fReplies F.replies G.replies)));have f3:=Jc HH2.out.row 3;have c3:=Ja HH2.out.row 3;simp only[ZD,ZE,ZF] at c3;clear HH2;go_upto_region 11 with fail;clear f3 c3;generalize World.setCell u2 _ _=s3 at *;simp only[List.setIfInBounds_toArray,List.set_cons_zero,List.set_cons_succ] at HH;obtain ⟨⟨r0,r1,r2⟩,hrx⟩:=FR5.out _ HH.out.bel;obtain ⟨⟨_,_,_,_,b4,_,_,_,_,_,_,_⟩,_⟩:=HF5.out _ HH.out.bel;obtain ⟨⟨_,_,_,_,d4,_,_,_,_,_,_,_⟩,_⟩:=HG5.out _ HH.out.bel;have cl:=Kh r _ fReports F.reports G.reports s3 hrx HZ.out;rw[show bs fReports=⟨#[114,101,112,111,114,116,115]⟩ from rfl] at cl;clear hrx;go_wp2_with fail;refine cl.mono ?_;rintro e u3 ⟨rfl,hb3⟩;have HH2:=Zh (HH.out.up hb3);clear cl hb3 r0 r1 r2 b4 d4 HH;have HH:=Zh (HH2.out.set 4 (.int .i64 (chM r fReports F.reports G.reports)));have f4:=Jc HH2.out.row 4;have c4:=Ja HH2.out.row 4;simp only[ZD,ZE,ZF] at c4;clear HH2;go_upto_region 12 with fail;clear f4 c4;generalize World.setCell u3 _ _=s4 at *;simp only[List.setIfInBounds_toArray,List.set_cons_zero,List.set_cons_succ] at HH;obtain ⟨⟨r0,r1,r2⟩,hrx⟩:=FR5.out _ HH.out.bel;obtain ⟨⟨_,_,_,_,_,b5,_,_,_,_,_,_⟩,_⟩:=HF5.out _ HH.out.bel;obtain ⟨⟨_,_,_,_,_,d5,_,_,_,_,_,_⟩,_⟩:=HG5.out _ HH.out.bel;have cl:=Kh r _ fAge F.age G.age s4 hrx HZ.out;rw[show bs fAge=⟨#[97,103,101]⟩ from rfl] at cl;clear hrx;go_wp2_with fail;refine cl.mono ?_;rintro e u4 ⟨rfl,hb4⟩;have HH2:=Zh (HH.out.up hb4);clear cl hb4 r0 r1 r2 b5 d5 HH;have HH:=Zh (HH2.out.set 5 (.int .i64 (chM r fAge F.age G.age)));have f5:=Jc HH2.out.row 5;have c5:=Ja HH2.out.row 5;simp only[ZD,ZE,ZF] at c5;clear HH2;go_upto_region 13 with fail;clear f5 c5;generalize World.setCell u4 _ _=s5 at *;simp only[List.setIfInBounds_toArray,List.set_cons_zero,List.set_cons_succ] at HH;obtain ⟨⟨r0,r1,r2⟩,hrx⟩:=FR5.out _ HH.out.bel;obtain ⟨⟨_,_,_,_,_,_,b6,_,_,_,_,_⟩,_⟩:=HF5.out _ HH.out.bel;obtain ⟨⟨_,_,_,_,_,_,d6,_,_,_,_,_⟩,_⟩:=HG5.out _ HH.out.bel;have cl:=Kh r _ fHome F.home G.home s5 hrx HZ.out;rw[show bs fHome=⟨#[104,111,109,101]⟩ from rfl] at cl;clear hrx;go_wp2_with fail;refine cl.mono ?_;rintro e u5 ⟨rfl,hb5⟩;have HH2:=Zh (HH.out.up hb5);clear cl hb5 r0 r1 r2 b6 d6 HH;have HH:=Zh (HH2.out.set 6 (.int .i64 (chM r fHome F.home G.home)));have f6:=Jc HH2.out.row 6;have c6:=Ja HH2.out.row 6;simp only[ZD,ZE,ZF] at c6;clear HH2;go_upto_region 14 with fail;clear f6 c6;generalize World.setCell u5 _ _=s6 at *;simp only[List.setIfInBounds_toArray,List.set_cons_zero,List.set_cons_succ] at HH;obtain ⟨⟨r0,r1,r2⟩,hrx⟩:=FR5.out _ HH.out.bel;obtain ⟨⟨_,_,_,_,_,_,_,b7,_,_,_,_⟩,_⟩:=HF5.out _ HH.out.bel;obtain ⟨⟨_,_,_,_,_,_,_,d7,_,_,_,_⟩,_⟩:=HG5.out _ HH.out.bel;have cl:=Kh r _ fScope F.scope G.scope s6 hrx HZ.out;rw[show bs fScope=⟨#[115,99,111,112,101]⟩ from rfl] at cl;clear hrx;go_wp2_with fail;refine cl.mono ?_;rintro e u6 ⟨rfl,hb6⟩;have HH2:=Zh (HH.out.up hb6);clear cl hb6 r0 r1 r2 b7 d7 HH;have HH:=Zh (HH2.out.set 7 (.int .i64 (chM r fScope F.scope G.scope)));have f7:=Jc HH2.out.row 7;have c7:=Ja HH2.out.row 7;simp only[ZD,ZE,ZF] at c7;clear HH2;go_upto_region 15 with fail;clear f7 c7;generalize World.setCell u6 _ _=s7 at *;simp only[List.setIfInBounds_toArray,List.set_cons_zero,List.set_cons_succ] at HH;obtain ⟨⟨r0,r1,r2⟩,hrx⟩:=FR5.out _ HH.out.bel;obtain ⟨⟨_,_,_,_,_,_,_,_,b8,_,_,_⟩,_⟩:=HF5.out _ HH.out.bel;obtain ⟨⟨_,_,_,_,_,_,_,_,d8,_,_,_⟩,_⟩:=HG5.out _ HH.out.bel;have cl:=Kh r _ fLength F.length G.length s7 hrx HZ.out;rw[show bs fLength=⟨#[108,101,110,103,116,104]⟩ from rfl] at cl;clear hrx;go_wp2_with fail;refine cl.mono ?_;rintro e u7 ⟨rfl,hb7⟩;have HH2:=Zh (HH.out.up hb7);clear cl hb7 r0 r1 r2 b8 d8 HH;have HH:=Zh (HH2.out.set 8 (.int .i64 (chM r fLength F.length G.length)));have f8:=Jc HH2.out.row 8;have c8:=Ja HH2.out.row 8;simp only[ZD,ZE,ZF] at c8;clear HH2;go_upto_region 16 with fail;clear f8 c8;generalize World.setCell u7 _ _=s8 at *;simp only[List.setIfInBounds_toArray,List.set_cons_zero,List.set_cons_succ] at HH;obtain ⟨⟨r0,r1,r2⟩,hrx⟩:=FR5.out _ HH.out.bel;have cl:=Km r _ 3 fFollows s8 hrx HZ.out;rw[show bs fFollows=⟨#[102,111,108,108,111,119,115]⟩ from rfl] at cl;obtain ⟨q,hq⟩:∃ q,mentM r 3 fFollows=q:=⟨_,rfl⟩
  rw[hq] at cl;have HQ:Hid (chM r fFollows F.follows G.follows=if q=true then F.follows else G.follows):=by rw[← hq]; rfl
  clear hrx hq;go_wp2_with fail;refine cl.mono ?_;rintro e u8 ⟨rfl,hb9⟩;have HH2:=Zh (HH.out.up hb9);clear cl hb9 r0 r1 r2 HH;go_upto_if 124 with fail;go_cut [7] (fun v7 wx=>v7=.bool true∧Hid (DHI r F G hA hC hA2 hC2 v5 hb (dhf r F G (.slice hA (labelsM r F G).length hC) (.slice hA2 (wordsM r F G).length hC2) (chM r fFollows F.follows G.follows) G.reply) wx))
  case first=>
   cases q with
   | false=>
    have HH3:Hid (DHI r F G hA hC hA2 hC2 v5 hb (dhf r F G (.slice hA (labelsM r F G).length hC) (.slice hA2 (wordsM r F G).length hC2) (chM r fFollows F.follows G.follows) G.reply) u8):=by rw[Hid,HQ.out,if_neg (by decide)]; exact HH2.out
    clear HH2;go_wp2;go_meet;exact ⟨rfl,HH3⟩
   | true=>
    have HH3:Hid (DHI r F G hA hC hA2 hC2 v5 hb (dhf r F G (.slice hA (labelsM r F G).length hC) (.slice hA2 (wordsM r F G).length hC2) (chM r fFollows F.follows G.follows) G.reply) (u8.setCell ⟨hb,9,none⟩ (.bool F.follows))):=by rw[Hid,HQ.out,if_pos rfl]; exact HH2.out.set 9 _
    have f9:=Jc HH2.out.row 9;have c9:u8.cell? ⟨hb,9,none⟩=some (.bool G.follows):=Ja HH2.out.row 9;obtain ⟨⟨_,_,_,_,_,_,_,_,_,b9,_,_⟩,_⟩:=HF5.out _ HH2.out.bel;clear HH2;go_wp2;go_meet;exact ⟨rfl,HH3⟩
  case rest=>
  clear HQ HH2;obtain ⟨rfl,HH⟩:=hcut;obtain ⟨s9,rfl⟩:∃ s,s=wc:=⟨_,rfl⟩
  obtain ⟨⟨r0,r1,r2⟩,hrx⟩:=FR5.out _ HH.out.bel;have cl:=Km r _ 3 fReply s9 hrx HZ.out;rw[show bs fReply=⟨#[114,101,112,108,121]⟩ from rfl] at cl;obtain ⟨q,hq⟩:∃ q,mentM r 3 fReply=q:=⟨_,rfl⟩
  rw[hq] at cl;have HQ:Hid (chM r fReply F.reply G.reply=if q=true then F.reply else G.reply):=by rw[← hq]; rfl
  clear hrx hq;go_wp2_with fail;refine cl.mono ?_;rintro e u9 ⟨rfl,hb9⟩;have HH2:=Zh (HH.out.up hb9);clear cl hb9 r0 r1 r2 HH;go_upto_if 129 with fail;go_cut [7] (fun v7 wx=>v7=.bool true∧Hid (DHI r F G hA hC hA2 hC2 v5 hb (dhf r F G (.slice hA (labelsM r F G).length hC) (.slice hA2 (wordsM r F G).length hC2) (chM r fFollows F.follows G.follows) (chM r fReply F.reply G.reply)) wx))
  case first=>
   cases q with
   | false=>
    have HH3:Hid (DHI r F G hA hC hA2 hC2 v5 hb (dhf r F G (.slice hA (labelsM r F G).length hC) (.slice hA2 (wordsM r F G).length hC2) (chM r fFollows F.follows G.follows) (chM r fReply F.reply G.reply)) u9):=by rw[Hid,HQ.out,if_neg (by decide)]; exact HH2.out
    clear HH2;go_wp2;go_meet;exact ⟨rfl,HH3⟩
   | true=>
    have HH3:Hid (DHI r F G hA hC hA2 hC2 v5 hb (dhf r F G (.slice hA (labelsM r F G).length hC) (.slice hA2 (wordsM r F G).length hC2) (chM r fFollows F.follows G.follows) (chM r fReply F.reply G.reply)) (u9.setCell ⟨hb,10,none⟩ (.bool F.reply))):=by rw[Hid,HQ.out,if_pos rfl]; exact HH2.out.set 10 _
    have f10:=Jc HH2.out.row 10;have c10:u9.cell? ⟨hb,10,none⟩=some (.bool G.reply):=Ja HH2.out.row 10;obtain ⟨⟨_,_,_,_,_,_,_,_,_,_,b10,_⟩,_⟩:=HF5.out _ HH2.out.bel;clear HH2;go_wp2;go_meet;exact ⟨rfl,HH3⟩
  case rest=>
  clear HQ HH2;obtain ⟨rfl,HH⟩:=hcut;obtain ⟨s10,rfl⟩:∃ s,s=wc:=⟨_,rfl⟩
  have HRD:=Zh (JjG (r:=r) HFF.out HGG.out);have HMF:=Zh (Jbx (r:=r) HFF.out HGG.out);obtain ⟨O,hO⟩:∃ O,runM r F=O:=⟨_,rfl⟩
  have HSZ:Hid (FSz (mixM r F G)):=by
   constructor
   ·show (labelsM r F G).length≤1000000
    rw[← Jgs];have h1:=Jij r F G (F.labels.length+G.labels.length);have h2:=HFN.out.1;have h3:=HGS.out.1;omega
   ·show (wordsM r F G).length≤1000000
    rw[← Jgt];have h1:=Jik r F G (F.words.length+G.words.length);have h2:=HFN.out.2;have h3:=HGS.out.2;omega
  have HV:Hid (∀ W,Below s10.heap.size s10 W→LabsAt W (.slice hA (labelsM r F G).length hC) (labelsM r F G)∧WordsAt W (.slice hA2 (wordsM r F G).length hC2) (wordsM r F G)):=fun W hW=>
   ⟨(HH.out.up hW).labs.keep (fun _ _=>rfl) (fun q hq=>hq.1) (fun _ _ h=>h),(HH.out.up hW).words.keep (fun _ _=>rfl) (fun q hq=>hq.1) (fun _ _ h=>h)⟩
  have CF:Hid (∀ W,Below s10.heap.size s10 W→Calls prog 15 #[.agg (dhf r F G (.slice hA (labelsM r F G).length hC) (.slice hA2 (wordsM r F G).length hC2) (chM r fFollows F.follows G.follows) (chM r fReply F.reply G.reply))] W (BelP W (.bool true))):=fun W hW=>by
   have h:=Vi (mixM r F G) (.slice hA (labelsM r F G).length hC) (.slice hA2 (wordsM r F G).length hC2) W HSZ.out (HV.out W hW).1 (HV.out W hW).2;rw[HMF.out] at h;exact h
  have CR1:Hid (∀ W,Below s10.heap.size s10 W→Calls prog 13 #[.agg #[.slice fa r.funcs.length fc,.slice ca r.clauses.length cc,.int .i64 r.action],.agg #[.slice la F.labels.length lc,.int .i64 F.likes,.int .i64 F.boosts,.int .i64 F.replies,.int .i64 F.reports,.int .i64 F.age,.int .i64 F.home,.int .i64 F.scope,.int .i64 F.length,.bool F.follows,.bool F.reply,.slice wa F.words.length wcp]] W (fun e w'=>e=.returned (.agg #[.int .i64 O.action,.string (bs O.reason),.int .i64 O.used,.int .i64 O.fault])∧Below W.heap.size W w')):=fun W hW=>by
   obtain ⟨_,hla,hwa⟩:=HF5.out _ (Je HH.out.bel hW);have h:=V4 r F _ (.slice la F.labels.length lc) (.slice wa F.words.length wcp) W (FR5.out _ (Je HH.out.bel hW)).2 HZ.out HFZ.out hla hwa;rw[hO] at h;exact h
  have CR2:Hid (∀ W,Below s10.heap.size s10 W→Calls prog 13 #[.agg #[.slice fa r.funcs.length fc,.slice ca r.clauses.length cc,.int .i64 r.action],.agg (dhf r F G (.slice hA (labelsM r F G).length hC) (.slice hA2 (wordsM r F G).length hC2) (chM r fFollows F.follows G.follows) (chM r fReply F.reply G.reply))] W (fun e w'=>e=.returned (.agg #[.int .i64 O.action,.string (bs O.reason),.int .i64 O.used,.int .i64 O.fault])∧Below W.heap.size W w')):=fun W hW=>by
   have h:=V4 r (mixM r F G) _ (.slice hA (labelsM r F G).length hC) (.slice hA2 (wordsM r F G).length hC2) W (FR5.out _ (Je HH.out.bel hW)).2 HZ.out HSZ.out (HV.out W hW).1 (HV.out W hW).2;rw[← HRD.out,hO] at h;exact h
  have heq:∀ W,(binOp .eql 36 (.agg #[.int .i64 O.action,.string (bs O.reason),.int .i64 O.used,.int .i64 O.fault]) (.agg #[.int .i64 O.action,.string (bs O.reason),.int .i64 O.used,.int .i64 O.fault])).run prog W=.ok (.bool true) W:=by
   intro W;have h:=JjE O O W;rw[decide_eq_true rfl] at h;exact h
  have FF:Hid (∀ W,Below s10.heap.size s10 W→W.cell? ⟨rb,0,none⟩=some (.slice fa r.funcs.length fc)∧W.cell? ⟨rb,1,none⟩=some (.slice ca r.clauses.length cc)∧W.cell? ⟨rb,2,none⟩=some (.int .i64 r.action)∧W.cell? ⟨fb,0,none⟩=some (.slice la F.labels.length lc)∧W.cell? ⟨fb,1,none⟩=some (.int .i64 F.likes)∧W.cell? ⟨fb,2,none⟩=some (.int .i64 F.boosts)∧W.cell? ⟨fb,3,none⟩=some (.int .i64 F.replies)∧W.cell? ⟨fb,4,none⟩=some (.int .i64 F.reports)∧W.cell? ⟨fb,5,none⟩=some (.int .i64 F.age)∧W.cell? ⟨fb,6,none⟩=some (.int .i64 F.home)∧W.cell? ⟨fb,7,none⟩=some (.int .i64 F.scope)∧W.cell? ⟨fb,8,none⟩=some (.int .i64 F.length)∧W.cell? ⟨fb,9,none⟩=some (.bool F.follows)∧W.cell? ⟨fb,10,none⟩=some (.bool F.reply)∧W.cell? ⟨fb,11,none⟩=some (.slice wa F.words.length wcp)∧W.cell? ⟨hb,0,none⟩=some (.slice hA (labelsM r F G).length hC)∧W.cell? ⟨hb,1,none⟩=some (.int .i64 (chM r fLikes F.likes G.likes))∧W.cell? ⟨hb,2,none⟩=some (.int .i64 (chM r fBoosts F.boosts G.boosts))∧W.cell? ⟨hb,3,none⟩=some (.int .i64 (chM r fReplies F.replies G.replies))∧W.cell? ⟨hb,4,none⟩=some (.int .i64 (chM r fReports F.reports G.reports))∧W.cell? ⟨hb,5,none⟩=some (.int .i64 (chM r fAge F.age G.age))∧W.cell? ⟨hb,6,none⟩=some (.int .i64 (chM r fHome F.home G.home))∧W.cell? ⟨hb,7,none⟩=some (.int .i64 (chM r fScope F.scope G.scope))∧W.cell? ⟨hb,8,none⟩=some (.int .i64 (chM r fLength F.length G.length))∧W.cell? ⟨hb,9,none⟩=some (.bool (chM r fFollows F.follows G.follows))∧W.cell? ⟨hb,10,none⟩=some (.bool (chM r fReply F.reply G.reply))∧W.cell? ⟨hb,11,none⟩=some (.slice hA2 (wordsM r F G).length hC2)):=fun W hW=>by
   obtain ⟨b0,b1,b2,b3,b4,b5,b6,b7,b8,b9,b10,b11⟩:=cells12 (HH.out.up hW).row;obtain ⟨⟨d0,d1,d2,d3,d4,d5,d6,d7,d8,d9,d10,d11⟩,_⟩:=HF5.out _ (Je HH.out.bel hW);obtain ⟨⟨r0,r1,r2⟩,_⟩:=FR5.out _ (Je HH.out.bel hW);exact ⟨r0,r1,r2,d0,d1,d2,d3,d4,d5,d6,d7,d8,d9,d10,d11,b0,b1,b2,b3,b4,b5,b6,b7,b8,b9,b10,b11⟩
  have HFN2:Hid (Bel w s10):=Je HFIN.out HH.out.bel;clear hO HH HV HSZ HMF HRD FR5 HF5 HG5 HFIN;go_upto_region 20 with fail;have HB:=Zh (Below.refl s10.heap.size s10).drew;refine wp_region_held_drew (S:=(fun W=>Below s10.heap.size s10 W∧W.cell? ⟨rb,0,none⟩=some (.slice fa r.funcs.length fc)∧W.cell? ⟨rb,1,none⟩=some (.slice ca r.clauses.length cc)∧W.cell? ⟨rb,2,none⟩=some (.int .i64 r.action)∧W.cell? ⟨fb,0,none⟩=some (.slice la F.labels.length lc)∧W.cell? ⟨fb,1,none⟩=some (.int .i64 F.likes)∧W.cell? ⟨fb,2,none⟩=some (.int .i64 F.boosts)∧W.cell? ⟨fb,3,none⟩=some (.int .i64 F.replies)∧W.cell? ⟨fb,4,none⟩=some (.int .i64 F.reports)∧W.cell? ⟨fb,5,none⟩=some (.int .i64 F.age)∧W.cell? ⟨fb,6,none⟩=some (.int .i64 F.home)∧W.cell? ⟨fb,7,none⟩=some (.int .i64 F.scope)∧W.cell? ⟨fb,8,none⟩=some (.int .i64 F.length)∧W.cell? ⟨fb,9,none⟩=some (.bool F.follows)∧W.cell? ⟨fb,10,none⟩=some (.bool F.reply)∧W.cell? ⟨fb,11,none⟩=some (.slice wa F.words.length wcp)∧W.cell? ⟨hb,0,none⟩=some (.slice hA (labelsM r F G).length hC)∧W.cell? ⟨hb,1,none⟩=some (.int .i64 (chM r fLikes F.likes G.likes))∧W.cell? ⟨hb,2,none⟩=some (.int .i64 (chM r fBoosts F.boosts G.boosts))∧W.cell? ⟨hb,3,none⟩=some (.int .i64 (chM r fReplies F.replies G.replies))∧W.cell? ⟨hb,4,none⟩=some (.int .i64 (chM r fReports F.reports G.reports))∧W.cell? ⟨hb,5,none⟩=some (.int .i64 (chM r fAge F.age G.age))∧W.cell? ⟨hb,6,none⟩=some (.int .i64 (chM r fHome F.home G.home))∧W.cell? ⟨hb,7,none⟩=some (.int .i64 (chM r fScope F.scope G.scope))∧W.cell? ⟨hb,8,none⟩=some (.int .i64 (chM r fLength F.length G.length))∧W.cell? ⟨hb,9,none⟩=some (.bool (chM r fFollows F.follows G.follows))∧W.cell? ⟨hb,10,none⟩=some (.bool (chM r fReply F.reply G.reply))∧W.cell? ⟨hb,11,none⟩=some (.slice hA2 (wordsM r F G).length hC2))) (by kernel_rfl) (⟨HB.out,FF.out _ HB.out⟩) (fun hH=>?_);refine ZT (i:=0) (v:=?vT1_0) rfl (Or.inl ⟨by rfl,?yT1_0⟩) ?_
  case yT1_0=>exact ZyQ
  try simp only[Act.put,ZA,ZB,ZC]
  refine ZT (i:=1) (v:=?vT1_1) rfl (Or.inl ⟨by rfl,?yT1_1⟩) ?_
  case yT1_1=>exact ZyQ
  try simp only[Act.put,ZA,ZB,ZC]
  refine ZT (i:=2) (v:=?vT1_2) rfl (Or.inl ⟨by rfl,?yT1_2⟩) ?_
  case yT1_2=>exact ZyQ
  try simp only[Act.put,ZA,ZB,ZC]
  refine ZS 3 rfl (fun K hK=>?_)
  skip
  (go_simp; go_at_call 15; refine (CF.out _ HB.out).mono ?_; rintro e wd0 ⟨rfl,hbc⟩)
  replace HB:=Zh (HB.out.trans (hbc.mono HB.out.size));clear hbc;refine hK.out _ _ (⟨HB.out,FF.out _ HB.out⟩) (fun hH=>?_);clear hK K
  try simp only[Act.put,ZA,ZB,ZC]
  refine ZT (i:=4) (v:=?vT2_4) rfl (Or.inl ⟨by rfl,?yT2_4⟩) ?_
  case yT2_4=>exact ZyQ
  try simp only[Act.put,ZA,ZB,ZC]
  refine ZT (i:=5) (v:=?vT2_5) rfl (Or.inl ⟨by rfl,?yT2_5⟩) ?_
  case yT2_5=>exact ZyQ
  try simp only[Act.put,ZA,ZB,ZC]
  refine ZT (i:=6) (v:=?vT2_6) rfl (Or.inl ⟨by rfl,?yT2_6⟩) ?_
  case yT2_6=>exact ZyQ
  try simp only[Act.put,ZA,ZB,ZC]
  refine ZT (i:=7) (v:=?vT2_7) rfl (Or.inl ⟨by rfl,?yT2_7⟩) ?_
  case yT2_7=>exact ZyQ
  try simp only[Act.put,ZA,ZB,ZC]
  refine ZT (i:=9) (v:=?vT2_9) rfl (Or.inl ⟨by rfl,?yT2_9⟩) ?_
  case yT2_9=>exact ZyQ
  try simp only[Act.put,ZA,ZB,ZC]
  refine ZT (i:=10) (v:=?vT2_10) rfl (Or.inl ⟨by rfl,?yT2_10⟩) ?_
  case yT2_10=>exact ZyQ
  try simp only[Act.put,ZA,ZB,ZC]
  refine ZS 8 rfl (fun K hK=>?_)
  skip
  (go_simp; go_at_call 13; refine (CR1.out _ HB.out).mono ?_; rintro e wd1 ⟨rfl,hbc⟩)
  replace HB:=Zh (HB.out.trans (hbc.mono HB.out.size));clear hbc;refine hK.out _ _ (⟨HB.out,FF.out _ HB.out⟩) (fun hH=>?_);clear hK K
  try simp only[Act.put,ZA,ZB,ZC]
  refine ZS 11 rfl (fun K hK=>?_)
  skip
  (go_simp; go_at_call 13; refine (CR2.out _ HB.out).mono ?_; rintro e wd2 ⟨rfl,hbc⟩)
  replace HB:=Zh (HB.out.trans (hbc.mono HB.out.size));clear hbc;refine hK.out _ _ (⟨HB.out,FF.out _ HB.out⟩) (fun hH=>?_);clear hK K
  try simp only[Act.put,ZA,ZB,ZC]
  refine ZT (i:=12) (v:=?vT4_12) rfl (Or.inl ⟨by rfl,?yT4_12⟩) ?_
  case yT4_12=>exact ZyQ
  try simp only[Act.put,ZA,ZB,ZC]
  refine ZT (i:=13) (v:=?vT4_13) rfl (Or.inl ⟨by rfl,?yT4_13⟩) ?_
  case yT4_13=>exact ZyQ
  try simp only[Act.put,ZA,ZB,ZC]
  refine ZT (i:=14) (v:=?vT4_14) rfl (Or.inl ⟨by rfl,?yT4_14⟩) ?_
  case yT4_14=>exact ZyQ
  try simp only[Act.put,ZA,ZB,ZC]
  refine wpAnyH_done (by kernel_rfl) ?_ _;have HFE:Hid (Bel w _):=Je HFN2.out HB.out;clear hH HB FF CF CR1 CR2 HFN2;go_wp2;go_ret;exact ⟨rfl,HFE.out⟩
 ·have e0:(er==0)=false:=zzq her;have e0':(er !=0)=true:=by rw[bne,e0]; rfl
  clear her;go_wp2;go_ret;exact ⟨rfl,HB3.out⟩
end Go.Proofs.YtncanmdgdflnpaaGreatDoor
