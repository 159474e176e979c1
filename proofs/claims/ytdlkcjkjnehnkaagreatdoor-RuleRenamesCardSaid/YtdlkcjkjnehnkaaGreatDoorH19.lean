import Derived.Test.YtdlkcjkjnehnkaaGreatDoorH18
open List(getElem?_map getElem?_set map_map map_take mem_of_getElem? nil_append take_of_length_le)
open Nat(le_refl)
namespace Go.Proofs.YtdlkcjkjnehnkaaGreatDoor
open Go.ChangeShapes Go.WideShapes Go.ChangeAt Go.RowKit Go.Lib
open _root_.Go.Proofs.Tryz
set_option linter.all false
set_option maxRecDepth 100000
set_option maxHeartbeats 32000000
def Qap.names(S:Qap):List (List UInt8 × Int):=S.funcs.map fun f=>(f.name,f.off)
def Qap.fns(S:Qap):List (List UInt8):=S.funcs.map (·.name)
def Qap.upF(S:Qap):Nat->Qap
 |0=>S
 |i+1=>(S.upF i).setF i (match S.funcs[i]? with|none=>QcH 0 0 [] 0|some f=>Qbu S.fns (f.params.map (·.1)) f.body)
def Qap.upC(S:Qap)(fs:List (List UInt8)):Nat->Qap
 |0=>S
 |i+1=>(S.upC fs i).setC i (match S.clauses[i]? with|none=>QcH 0 0 [] 0|some c=>Qbu fs [] c.cond)
theorem Z9(S:Qap)(i k:Nat)(a:An)(h:i≠k):(S.setF i a).funcs[k]?=S.funcs[k]?:=by
 unfold Qap.setF
 cases hf:S.funcs[i]? with
 |none=>rfl
 |some f=>dsimp only;rw[getElem?_set,if_neg h]
theorem Jid(S:Qap)(i:Nat)(a:An):(S.setF i a).funcs.length=S.funcs.length:=by
 unfold Qap.setF
 cases hf:S.funcs[i]? with
 |none=>rfl
 |some f=>dsimp only;rw[List.length_set]
theorem Jaa(S:Qap)(i k:Nat)(a:An)(h:i≠k):(S.setC i a).clauses[k]?=S.clauses[k]?:=by
 unfold Qap.setC
 cases hf:S.clauses[i]? with
 |none=>rfl
 |some f=>dsimp only;rw[getElem?_set,if_neg h]
theorem Jie(S:Qap)(i:Nat)(a:An):(S.setC i a).clauses.length=S.clauses.length:=by
 unfold Qap.setC
 cases hf:S.clauses[i]? with
 |none=>rfl
 |some f=>dsimp only;rw[List.length_set]
theorem JcD(S:Qap):∀ i,(S.upF i).funcs.length=S.funcs.length
 |0=>rfl
 |i+1=>by unfold Qap.upF;rw[Jid,JcD S i]
theorem JcE(S:Qap):∀ i k,i<=k->(S.upF i).funcs[k]?=S.funcs[k]?
 |0,k,_=>rfl
 |i+1,k,h=>by unfold Qap.upF;rw[Z9 _ _ _ _ (by omega),JcE S i k (by omega)]
theorem JcF(S:Qap)(fs:List (List UInt8)):∀ i,(S.upC fs i).clauses.length=S.clauses.length
 |0=>rfl
 |i+1=>by unfold Qap.upC;rw[Jie,JcF S fs i]
theorem JcG(S:Qap)(fs:List (List UInt8)):∀ i k,i<=k->(S.upC fs i).clauses[k]?=S.clauses[k]?
 |0,k,_=>rfl
 |i+1,k,h=>by unfold Qap.upC;rw[Jaa _ _ _ _ (by omega),JcG S fs i k (by omega)]
theorem KW(S:Qap):∀ i,(S.upF i).clauses=S.clauses/\(S.upF i).action=S.action/\(S.upF i).fv=S.fv/\(S.upF i).cv=S.cv
 |0=>⟨rfl,rfl,rfl,rfl⟩
 |i+1=>KW S i
theorem YG(S:Qap)(fs:List (List UInt8)):∀ i,(S.upC fs i).funcs=S.funcs/\(S.upC fs i).action=S.action/\(S.upC fs i).fv=S.fv/\(S.upC fs i).cv=S.cv
 |0=>⟨rfl,rfl,rfl,rfl⟩
 |i+1=>YG S fs i
def QdR(fs:List (List UInt8))(l:List FnS):List Int:=(l.map fun f=>(resF fs f).2).flatten
def Qex(fs:List (List UInt8))(l:List ClS):List Int:=(l.map fun c=>(resC fs c).2).flatten
theorem JfQ(fs:List (List UInt8))(l:List FnS)(f:FnS):QdR fs (l++[f])=QdR fs l++(Qcr f.params []++(Qcl fs (f.params.map (·.1)) f.body).2):=by simp[QdR,resF]
theorem JfR(fs:List (List UInt8))(l:List ClS)(c:ClS):Qex fs (l++[c])=Qex fs l++(Qcl fs [] c.cond).2:=by simp[Qex,resC]
def RsP(w:World)(sb:Nat)(S:Qap)(e:Ending)(w':World):Prop:=
 match QaG (Qac S.src).2 with
 |none=>e=.returned (.tuple #[])/\Below sb w w'/\∃ S':Qap,S'.src=(Qac S.src).1/\QaL w' sb S'
 |some o=>e=.panicked [{ v:=Qgl 16 o,recovered:=false }]/\Below sb w w'
theorem VY{W:World}{sb:Nat}{S:Qap}(h:QaL W sb S){i:Nat}{f:FnA}(hf:S.funcs[i]?=some f):∀ j u,f.cells[j]?=some u->W.cell? ⟨Value.blk S.fv,i*10+j,none⟩=some u:=fun j u hj=>JZ h.fown (Kp FnA.cells_length S.funcs i j f u hf hj)
theorem JdJ{W:World}{sb:Nat}{S:Qap}(h:QaL W sb S){i:Nat}{c:ClA}(hf:S.clauses[i]?=some c):∀ j u,c.cells[j]?=some u->W.cell? ⟨Value.blk S.cv,i*7+j,none⟩=some u:=fun j u hj=>JZ h.cown (Kp ClA.cells_length S.clauses i j c u hf hj)
theorem J0{α:Type}{l:List α}{i:Nat}{x:α}(h:l[i]?=some x):l.take (i+1)=l.take i++[x]:=by rw[List.take_add_one,h];rfl
theorem JfS{S:Qap}{i:Nat}{f:FnA}(h:S.funcs[i]?=some f):S.fns[i]?=some f.name/\S.names[i]?=some (f.name,f.off):=by
 unfold Qap.fns Qap.names;rw[getElem?_map,getElem?_map,h];exact⟨rfl,rfl⟩
theorem Jbv(S:Qap)(i:Nat):(S.names.take i).map (·.1)=S.fns.take i:=by
 unfold Qap.fns Qap.names;rw[<- map_take,<- map_take,map_map];rfl
theorem Jif{S:Qap}{i:Nat}{f:FnA}(h:S.funcs[i]?=some f){k:Nat}(hk:Qai (S.fns.take i) f.name=some k):(fun s=>Qai (S.fns.take (i+1)) s)=(fun s=>Qai (S.fns.take i) s)/\Qcr (S.names.take (i+1)) []=Qcr (S.names.take i) []++[f.off]:=by
 obtain⟨h1,h2⟩:=JfS h;rw[J0 h1,J0 h2,VV]
 have hm:f.name∈S.fns.take i:=by
  have:=Zf (S.fns.take i) f.name;rw[hk]at this;simpa using this
 refine⟨funext fun s=>?_,?_⟩
 ·rw[Ze]
  cases hs:Qai (S.fns.take i) s with
  |some q=>rfl
  |none=>
   dsimp only;rw[if_neg];intro e;rw[<- e,hk]at hs
   cases hs
 ·rw[nil_append,Jbv,if_pos hm]
theorem Jig{S:Qap}{i:Nat}{f:FnA}(h:S.funcs[i]?=some f)(hk:Qai (S.fns.take i) f.name=none):(fun s=>Qai (S.fns.take (i+1)) s)=(fun s=>if s=f.name then some i else Qai (S.fns.take i) s)/\Qcr (S.names.take (i+1)) []=Qcr (S.names.take i) []:=by
 obtain⟨h1,h2⟩:=JfS h;have hlt:=(List.getElem?_eq_some_iff.1 h1).1;rw[J0 h1,J0 h2,VV]
 have hm:f.name∉S.fns.take i:=by
  have:=Zf (S.fns.take i) f.name;rw[hk]at this;simpa using this
 refine⟨funext fun s=>?_,?_⟩
 ·rw[Ze]
  by_cases e:s=f.name
  ·subst e;rw[hk,if_pos rfl,if_pos rfl,List.length_take,Nat.min_eq_left (by omega)]
  ·rw[if_neg e]
   cases hs:Qai (S.fns.take i) s with
   |some q=>rfl
   |none=>dsimp only;rw[if_neg (fun h=>e h.symm)]
 ·rw[nil_append,Jbv,if_neg hm,List.append_nil]
theorem Jih(l:List (List UInt8))(x:List UInt8):strs (l++[x])=strs l++[.string (bs x)]:=by simp[strs]
theorem Jly{a b:List UInt8}(h:bs a=bs b):a=b:=by have:=congrArg (fun x:ByteArray=>x.data.toList) h;simpa[Vy] using this
theorem Jbw(l:List (List UInt8))(x:List UInt8):Lib.containsS (l.map bs) (bs x)=decide (x∈l):=by
 rw[Bool.eq_iff_iff,Lib.containsS_iff,decide_eq_true_eq,List.mem_map]
 constructor
 ·rintro⟨a,ha,e⟩;rw[<- Jly e];exact ha
 ·intro h;exact⟨x,h,rfl⟩
theorem Ys{W:World}{base:Nat}{v:Value}{l:List (List UInt8)}{n:Nat}(hn:l.length=n)(h:W.ownsRow base 9 1 v n (strs l))(hl:n<=1000000000)(x:List UInt8):Calls prog 76 #[v,.string (bs x)] W fun e w'=>e=.returned (.bool (decide (x∈l)))/\w'=W:=by
 subst hn
 rcases h.2 with⟨rfl,h0⟩|⟨g,cap,cur,rfl,hg,hgg,r⟩
 ·obtain rfl:=List.eq_nil_of_length_eq_zero h0;exact Tryz.slices_Contains_string_empty none 0 (bs x) W
 ·refine(Tryz.slices_Contains_string g 0 l.length cap (l.map bs) (bs x) W (by simp) (by omega) fun j hj=>?_).mono fun e w' hh=>?_
  ·have hj':j<l.length:=by simpa using hj
   have h1:(strs l)[j]?=some (.string (bs l[j])):=by unfold strs;rw[getElem?_map,List.getElem?_eq_getElem hj'];rfl
   have:=JZ h h1;rw[Nat.zero_add];rw[show (l.map bs).getD j ByteArray.empty=bs l[j] by simp[hj']];exact this
  ·rw[take_of_length_le (by simp),Jbw]at hh;exact hh
theorem Jii{W:World}{base:Nat}{v:Value}{l:List (List UInt8)}{n:Nat}(hn:l.length=n)(h:W.ownsRow base 9 1 v n (strs l))(h0:n=0->v=.slice none 0 0):QcK W v l (Value.blk v):=by
 subst hn
 by_cases hl:l=[]
 ·subst hl;exact⟨none,0,h0 rfl,⟨le_refl _,fun _=>⟨rfl,rfl⟩⟩,fun hne=>absurd rfl hne⟩
 ·have hpos:0<l.length:=List.length_pos_iff.2 hl
  rcases h.2 with⟨_,e⟩|⟨g,cap,cur,rfl,hg,hgg,hc,r⟩
  ·omega
  ·refine⟨_,_,rfl,⟨hc,fun e=>absurd e hl⟩,fun _=>⟨rfl,fun i s hs=>?_⟩⟩;exact JZ h (by unfold strs;rw[getElem?_map,hs];rfl)
theorem Rz.chg{w W W':World}{sb:Nat}{S:Qap}{mb rb mn:Nat}{f:List UInt8->Option Nat}{x:Option Int}{L:List Nat}(h:Rz w W sb S mb rb mn f x)(hc:Chg L W W')(hL:∀ b∈L,rb<b):Rz w W' sb S mb rb mn f x:=by
 obtain⟨n1,n2,n3⟩:=h.num;exact⟨h.ok.far hc (fun b hb=>h.far b (by have:=hL b hb;omega)),hc.heap_some (fun hm=>by have:=hL rb hm;omega) h.flt,h.map.keep hc (fun hm=>by have:=hL mb hm;omega),Kz h.bel hc.os hc.tape hc.output hc.size (fun k hk=>hc.block k (by have:=h.sz;omega) (fun hm=>by have:=hL k hm;omega)),Nat.le_trans h.sz hc.size,h.num,h.ivs,h.rows⟩
theorem JfT{W:World}{base n:Nat}{v:Value}{l:List (List UInt8 × Int)}(h:W.ownsRow base 123 2 v n (QbI l)){j:Nat}{p:List UInt8 × Int}(hp:l[j]?=some p):W.cell? ⟨Value.blk v,j*2,none⟩=some (.string (bs p.1))/\W.cell? ⟨Value.blk v,j*2+1,none⟩=some (.int .i64 p.2):=by
 have hg:=fun k u hk=>JZ h (Kp (cells:=fun x:List UInt8 × Int=>[Value.string (bs x.1),.int .i64 x.2]) (size:=2) (fun _=>rfl) l j k p u hp hk)
 exact⟨hg 0 _ rfl,hg 1 _ rfl⟩
theorem Jkj(S:Qap){i:Nat}{f:FnA}(h:S.funcs[i]?=some f):S.src.funcs[i]?=some f.src:=by unfold Qap.src;dsimp only;rw[getElem?_map,h];rfl
theorem Jjd(S:Qap){k:Nat}{f:FnA}(hf:S.funcs[k]?=some f):∀ i,k<i->(S.upF i).funcs[k]?=some { f with body:=Qbu S.fns (f.params.map (·.1)) f.body }
 |0,h=>by omega
 |i+1,h=>by
  unfold Qap.upF
  by_cases hk:k=i
  ·subst hk;have:=JcE S k k zzl;unfold Qap.setF;rw[this,hf];dsimp only;rw[getElem?_set,if_pos rfl,if_pos (by rw[JcD];exact(List.getElem?_eq_some_iff.1 hf).1)]
  ·rw[Z9 _ _ _ _ (fun e=>hk e.symm)];exact Jjd S hf i (by omega)
theorem Jje(S:Qap)(fs:List (List UInt8)){k:Nat}{c:ClA}(hf:S.clauses[k]?=some c):∀ i,k<i->(S.upC fs i).clauses[k]?=some { c with cond:=Qbu fs [] c.cond }
 |0,h=>by omega
 |i+1,h=>by
  unfold Qap.upC
  by_cases hk:k=i
  ·subst hk;have:=JcG S fs k k zzl;unfold Qap.setC;rw[this,hf];dsimp only;rw[getElem?_set,if_pos rfl,if_pos (by rw[JcF];exact(List.getElem?_eq_some_iff.1 hf).1)]
  ·rw[Jaa _ _ _ _ (fun e=>hk e.symm)];exact Jje S fs hf i (by omega)
theorem JcH(S:Qap):S.src.funcs.map (·.name.1)=S.fns/\S.src.funcs.map (·.name)=S.names:=by
 unfold Qap.src Qap.fns Qap.names;simp only[map_map];exact⟨rfl,rfl⟩
theorem Jkk(S:Qap):((S.upF S.funcs.length).upC S.fns S.clauses.length).src=(Qac S.src).1:=by
 have hc:(S.upF S.funcs.length).clauses=S.clauses:=(KW S _).1
 have h1:((S.upF S.funcs.length).upC S.fns S.clauses.length).funcs.map FnA.src=(S.src.funcs.map (resF S.fns)).map (·.1):=by
  rw[(YG _ _ _).1];refine List.ext_getElem? fun k=>?_
  rw[getElem?_map,getElem?_map,getElem?_map]
  show _=Option.map _ (Option.map _ ((S.funcs.map FnA.src)[k]?))
  rw[getElem?_map]
  cases hk:S.funcs[k]? with
  |none=>
   rw[List.getElem?_eq_none (by rw[JcD];exact List.getElem?_eq_none_iff.1 hk)];rfl
  |some f=>
   rw[Jjd S hk _ (List.getElem?_eq_some_iff.1 hk).1];simp[FnA.src,resF,Zb]
 have h2:((S.upF S.funcs.length).upC S.fns S.clauses.length).clauses.map ClA.src=(S.src.clauses.map (resC S.fns)).map (·.1):=by
  refine List.ext_getElem? fun k=>?_
  rw[getElem?_map,getElem?_map,getElem?_map]
  show _=Option.map _ (Option.map _ ((S.clauses.map ClA.src)[k]?))
  rw[getElem?_map]
  cases hk:S.clauses[k]? with
  |none=>
   rw[List.getElem?_eq_none (by rw[JcF,hc];exact List.getElem?_eq_none_iff.1 hk)];rfl
  |some c=>
   rw[Jje _ S.fns (by rw[hc];exact hk) _ (List.getElem?_eq_some_iff.1 hk).1];simp[ClA.src,resC,Zb]
 unfold Qac;rw[(JcH S).1]
 show Src.mk _ _ _=_
 rw[h1,h2,(YG _ _ _).2.1,(KW S _).2.1];rfl
theorem Jij(S:Qap):QaK (QaK (QaK none (Qcr S.names [])) (QdR S.fns S.src.funcs)) (Qex S.fns S.src.clauses)=QaG (Qac S.src).2:=by
 rw[<- Jv,<- Jv,Z6];unfold Qac;rw[(JcH S).1,(JcH S).2];simp only[QdR,Qex,map_map,List.append_assoc];rfl
theorem Jkl(S:Qap){i:Nat}{c:ClA}(h:S.clauses[i]?=some c):S.src.clauses[i]?=some c.src:=by unfold Qap.src;dsimp only;rw[getElem?_map,h];rfl
theorem QfG:(prog.info? 9).map (fun i=>(i.zero,i.size,i.bytes))=some (some (.string ⟨#[]⟩),1,16):=by kernel_rfl
theorem QmF{P:Prop}(h:P:=by
  refine hK.out _ _ trivial (fun hH=>?_);clear hK K
  try simp only[Act.put,ZA,ZB,ZC]
  refine ZS 8 rfl (fun K hK=>?_);obtain⟨w5,hrun,hm5,hc5⟩:=HZ2.out.map.upd (by unfold maxLen;omega) hnl (v:=i) (by omega);replace HZ2:=Zh (HZ2.out.put hm5 hc5);clear hm5 hc5;go_simp;clear hrun;refine hK.out _ _ trivial (fun hH=>?_);clear hK K
  try simp only[Act.put,ZA,ZB,ZC]
  refine wpAnyH_done (by kernel_rfl) ?_ _;have HZ3:Hid (Rz w w5 sb S mb rb (mn+1) (fun s=>Qai (S.fns.take (i+1)) s) (QaK none (Qcr (S.names.take (i+1)) []))):=by rw[HQ.out.1,HQ.out.2];exact HZ2.out
  clear HZ2 HCP2;go_wp2;go_roundg (S.funcs.length-(i+1))
  case measure=>have:=HG.out;omega
  case rel=>exact⟨i+1,mn+1,by omega,by omega,by go_num,HZ3⟩):P:=h
theorem QmE{P:Prop}(h:P:=by
  intro v' w' hown' hgrow _;have HZ7:=Zh (HZ.out.chg (JR hgrow) (fun b hb=>by have:=(HOW.out.lt b (by simpa using hb)).1;have:=HWS.out.1;omega));have HO7:Hid (w'.ownsRow wm.heap.size 9 1 v' (j+1) (strs ((fn.params.take (j+1)).map (·.1)))):=by rw[Hid,HTS.out,List.map_append,List.map_cons,List.map_nil,Jih];rw[<- List.map_take]at hown';exact hown'
  have HW7:Hid (rb<wm.heap.size/\wm.heap.size<=w'.heap.size):=⟨HWS.out.1,by have h1:=HWS.out.2;have h2:=hgrow.size;rw[World.size_alloc]at h2;omega⟩
  clear hown' hgrow HZ HOW HWS n0 HCP;go_wp2;go_roundg (fn.params.length-(j+1))
  case measure=>have:=HG2.out;omega
  case rel=>exact⟨j+1,by omega,by go_num,HO7,fun e=>by omega,HZ7,HW7⟩):P:=h
theorem JcI(w:World)(sb:Nat)(S:Qap)(h:QaL w sb S)(h1:S.funcs.length<=100000000)(h2:S.clauses.length<=100000000)
  (h3:∀ f∈S.funcs,WfN f.body.nd/\siz f.body.nd<=100000000/\f.name.length<=1000000/\f.params.length<=100000000) (h4:∀ c∈S.clauses,WfN c.cond.nd/\siz c.cond.nd<=100000000):Calls prog 39 #[.pointer (some ⟨sb,0,none⟩)] w (RsP w sb S):=by
 obtain⟨R,hR⟩:∃ R,RsP w sb S=R:=⟨_,rfl⟩
 rw[hR];have HR:Hid (R=RsP w sb S):=hR.symm;obtain⟨fa,fc,hfv,hfa⟩:=Va h.fown;obtain⟨ca,cc,hcv,hca⟩:=Va h.cown;have hmm:=@run_makeMap prog
 have HRZ:Hid (Rz w ((w.alloc (.map #[] 0)).alloc (.cells #[.bool false,.int .i64 0,.map (some w.heap.size)] 142)) sb S w.heap.size (w.heap.size+1) 0 (fun s=>Qai (S.fns.take 0) s) (QaK none (Qcr (S.names.take 0) []))):=by
  have hb:Below w.heap.size w ((w.alloc (.map #[] 0)).alloc (.cells #[.bool false,.int .i64 0,.map (some w.heap.size)] 142)):=(zzb.alloc zzl _).alloc (by simp) _;have hn:=zzw (w.alloc (.map #[] 0)) (.cells #[.bool false,.int .i64 0,.map (some w.heap.size)] 142);rw[World.size_alloc]at hn;have hsb:=Jb h.box;exact⟨h.on (Chg.of_below hb []) (by simp),hn,(Qbg.new w).same (heap_alloc_old _ _ (by simp)),⟨hb.os,hb.tape,hb.output,hb.size,fun k hk=>hb.block k (by omega)⟩,hb.size,⟨le_refl _,Nat.lt_succ_self _,hsb⟩,fun iv hi=>(h.ivs iv hi).2.2,fun g hg=>(h.fown.lt g hg).2,fun g hg=>(h.cown.lt g hg).2⟩
 have HFV:=Zh hfv;have HCV:=Zh hcv;have HFA:=Zh hfa;have HCA:=Zh hca;have H3:=Zh h3;have H4:=Zh h4;have b0:((w.alloc (.map #[] 0)).alloc (.cells #[.bool false,.int .i64 0,.map (some w.heap.size)] 142)).cell? ⟨sb,0,none⟩=some (.slice fa S.funcs.length fc):=by rw[Ja HRZ.out.ok.box];rw[hfv];rfl
 clear hR hfv hcv hfa hca h h3 h4;go_enter func39,ntmps39;go_wp2_with fail;clear b0;generalize World.alloc (World.alloc w _) _=w0 at *;generalize w.heap.size+1=rb at *;generalize w.heap.size=mb at *;go_loopg [21] S.funcs.length (fun g v21 wr=>∃ i mn:Nat,g+i=S.funcs.length/\mn<=i/\v21=.int .i64 i/\Hid (Rz w wr sb S mb rb mn (fun s=>Qai (S.fns.take i) s) (QaK none (Qcr (S.names.take i) []))))
 case atStart=>exact⟨0,0,rfl,le_refl _,rfl,HRZ⟩
 case round=>
 clear HRZ;obtain⟨wl,rfl⟩:∃ wl:World,wl=wr:=⟨_,rfl⟩
 obtain⟨i,mn,hg,hmn,rfl,hz⟩:=hrel
 by_cases hi:i<S.funcs.length
 ·have hil:(i:Int)<(S.funcs.length:Int):=by omega
  obtain⟨fn,hfn⟩:∃ fn,S.funcs[i]?=some fn:=⟨S.funcs[i],List.getElem?_eq_getElem hi⟩
  have hmem:=mem_of_getElem? hfn;have had:=HFA.out (by omega);obtain⟨fo,_,_⟩:=hz.out.ok.fok fn hmem;have hnl:=(H3.out fn hmem).2.2.1;have hcl:=VY hz.out.ok hfn;have HFN:=Zh hfn;obtain⟨nm,of,ps,ts,res,b,pv,tv,flo,fhi⟩:=fn;obtain⟨pa,pn,pc,hpv⟩:=Jh fo.pown;obtain⟨ta,tn,tc,htv⟩:=Jh fo.town;dsimp only at hpv htv hnl;subst hpv htv;obtain⟨yA,yn,yc,hcg⟩:=Jf b;simp only[FnA.cells,hcg,List.cons_append,nil_append]at hcl;have c0:=hcl 0 _ rfl;have c1:=hcl 1 _ rfl;have c2:=hcl 2 _ rfl;have c3:=hcl 3 _ rfl;have c4:=hcl 4 _ rfl;have c5:=hcl 5 _ rfl;have c6:=hcl 6 _ rfl;have c7:=hcl 7 _ rfl;have c8:=hcl 8 _ rfl;have c9:=hcl 9 _ rfl;simp only[Nat.add_zero]at c0;have wk:IntKind.i64.wrap ((i:Int)+1)=(i:Int)+1:=IntWalk.i64_in _ (by omega);have HZ1:Hid (Rz w (wl.alloc (.cells ([.string (bs nm),.int .i64 of,.slice pa pn pc,.slice ta tn tc,.int .i64 res,.int .i64 b.kind,.int .i64 b.num,.string (bs b.name),.int .i64 b.off,.slice yA yn yc]).toArray 126)) sb S mb rb mn (fun s=>Qai (S.fns.take i) s) (QaK none (Qcr (S.names.take i) []))):=hz.out.up (zzb.alloc zzl _);have HCP:=Zh (zzw wl (.cells ([.string (bs nm),.int .i64 of,.slice pa pn pc,.slice ta tn tc,.int .i64 res,.int .i64 b.kind,.int .i64 b.num,.string (bs b.name),.int .i64 b.off,.slice yA yn yc]).toArray 126));have HG:=Zh hg;subst had;clear hcl hfn hmem fo hz hg hcg;go_upto_region 4 with fail;clear c0 c1 c2 c3 c4 c5 c6 c7 c8 c9;generalize World.alloc wl _=w1 at *;generalize wl.heap.size=cb at *;have n0:=Ja HCP.out 0;have r2:=Ja HZ1.out.flt 2;simp only[ZD,ZE,ZF]at n0 r2;have hlk:=HZ1.out.map.look hnl;have hlk2:=(HZ1.out.map.same (w':=w1.drew) rfl).look hnl;have hD1:Below w1.heap.size w1 w1.drew:=(Below.refl w1.heap.size w1).drew;have HZ2:=Zh (HZ1.out.up hD1);have HCP2:=Zh ((hD1.block _ (Jb HCP.out)).trans HCP.out);clear hD1 HZ1
  cases hfi:Qai (S.fns.take i) nm with
  |some kx=>
   rw[hfi]at hlk hlk2;simp only[Option.getD,Option.isSome]at hlk hlk2;obtain⟨q1,q2⟩:=Jif HFN.out hfi;have HQ:=Zh (And.intro q1 q2);clear hfi q1 q2;go_upto_region 4 with fail;go_region;go_upto_region 6 with fail;clear n0 r2 hlk hlk2;generalize w1.drew=w2 at *;refine wp_region_held_drew (S:=fun _=>True) (by kernel_rfl) (trivial) (fun hH=>?_);replace HZ2:=Zh (HZ2.out.up (Below.refl w2.heap.size w2).drew);replace HCP2:=Zh ((((Below.refl w2.heap.size w2).drew).block _ (Jb HCP2.out)).trans HCP2.out);generalize w2.drew=w3 at *;refine ZT (i:=0) (v:=?vT4_0) rfl (Or.inl ⟨by rfl,?yT4_0⟩) ?_
   case yT4_0=>exact ZyQ
   try simp only[Act.put,ZA,ZB,ZC]
   refine ZT (i:=1) (v:=?vT4_1) rfl (Or.inl ⟨by rfl,?yT4_1⟩) ?_
   case yT4_1=>exact ZyQ
   try simp only[Act.put,ZA,ZB,ZC]
   refine ZT (i:=2) (v:=?vT4_2) rfl (Or.inl ⟨by rfl,?yT4_2⟩) ?_
   case yT4_2=>exact ZyQ
   try simp only[Act.put,ZA,ZB,ZC]
   refine ZT (i:=3) (v:=?vT4_3) rfl (Or.inl ⟨by rfl,?yT4_3⟩) ?_
   case yT4_3=>exact ZyQ
   try simp only[Act.put,ZA,ZB,ZC]
   refine ZT (i:=4) (v:=?vT4_4) rfl (Or.inl ⟨by rfl,?yT4_4⟩) ?_
   case yT4_4=>exact ZyQ
   try simp only[Act.put,ZA,ZB,ZC]
   refine ZS 5 rfl (fun K hK=>?_);have n1:=Ja HCP2.out 1;simp only[ZD,ZE,ZF]at n1;go_simp;clear n1;refine hK.out _ _ trivial (fun hH=>?_);clear hK K
   try simp only[Act.put,ZA,ZB,ZC]
   refine ZS 6 rfl (fun K hK=>?_)
   (go_simp;go_at_call 75;refine(VD _ rb 142 _ (.map (some mb)) of HZ2.out.flt).mono ?_;intro e w4 h4)
   have hst:=HZ2.out.add h4;obtain rfl:=h4.1;replace HZ2:=Zh hst;clear h4 hst;refine hK.out _ _ trivial (fun hH=>?_);clear hK K
   try simp only[Act.put,ZA,ZB,ZC]
   refine wpAnyH_done (by kernel_rfl) ?_ _;have HZ3:Hid (Rz w w4 sb S mb rb mn (fun s=>Qai (S.fns.take (i+1)) s) (QaK none (Qcr (S.names.take (i+1)) []))):=by rw[HQ.out.1,HQ.out.2,Jv];exact HZ2.out
   clear HZ2 HCP2;go_wp2;go_roundg (S.funcs.length-(i+1))
   case measure=>have:=HG.out;omega
   case rel=>exact⟨i+1,mn,by omega,by omega,by go_num,HZ3⟩
  |none=>
   rw[hfi]at hlk hlk2;simp only[Option.getD,Option.isSome]at hlk hlk2;obtain⟨q1,q2⟩:=Jig HFN.out hfi;have HQ:=Zh (And.intro q1 q2);clear hfi q1 q2;go_upto_region 4 with fail;go_region;go_upto_region 7 with fail;clear n0 r2 hlk hlk2;generalize w1.drew=w2 at *;refine wp_region_held_drew (S:=fun _=>True) (by kernel_rfl) (trivial) (fun hH=>?_);replace HZ2:=Zh (HZ2.out.up (Below.refl w2.heap.size w2).drew);replace HCP2:=Zh ((((Below.refl w2.heap.size w2).drew).block _ (Jb HCP2.out)).trans HCP2.out);generalize w2.drew=w3 at *;refine ZT (i:=0) (v:=?vT7_0) rfl (Or.inl ⟨by rfl,?yT7_0⟩) ?_
   case yT7_0=>exact ZyQ
   try simp only[Act.put,ZA,ZB,ZC]
   refine ZT (i:=1) (v:=?vT7_1) rfl (Or.inl ⟨by rfl,?yT7_1⟩) ?_
   case yT7_1=>exact ZyQ
   try simp only[Act.put,ZA,ZB,ZC]
   refine ZT (i:=2) (v:=?vT7_2) rfl (Or.inl ⟨by rfl,?yT7_2⟩) ?_
   case yT7_2=>exact ZyQ
   try simp only[Act.put,ZA,ZB,ZC]
   refine ZT (i:=4) (v:=?vT7_4) rfl (Or.inl ⟨by rfl,?yT7_4⟩) ?_
   case yT7_4=>exact ZyQ
   try simp only[Act.put,ZA,ZB,ZC]
   refine ZT (i:=5) (v:=?vT7_5) rfl (Or.inl ⟨by rfl,?yT7_5⟩) ?_
   case yT7_5=>exact ZyQ
   try simp only[Act.put,ZA,ZB,ZC]
   refine ZT (i:=7) (v:=?vT7_7) rfl (Or.inl ⟨by rfl,?yT7_7⟩) ?_
   case yT7_7=>exact ZyQ
   try simp only[Act.put,ZA,ZB,ZC]
   refine ZR (rs:=[3,6]) (AllReadyH.cons rfl (fun K hK=>?_) (AllReadyH.cons rfl (fun K hK=>?_) AllReadyH.nil))
   ·have r2:=Ja HZ2.out.flt 2;simp only[ZD,ZE,ZF]at r2;go_simp;clear r2;refine hK.out _ _ trivial (fun hH=>?_);clear hK K
    try simp only[Act.put,ZA,ZB,ZC]
    refine ZS 6 rfl (fun K hK=>?_);have n0:=Ja HCP2.out 0;simp only[ZD,ZE,ZF]at n0;go_simp;clear n0;exact QmF
   ·have n0:=Ja HCP2.out 0;simp only[ZD,ZE,ZF]at n0;go_simp;clear n0;refine hK.out _ _ trivial (fun hH=>?_);clear hK K
    try simp only[Act.put,ZA,ZB,ZC]
    refine ZS 3 rfl (fun K hK=>?_);have r2:=Ja HZ2.out.flt 2;simp only[ZD,ZE,ZF]at r2;go_simp;clear r2;exact QmF
 ·have hil:¬ (i:Int)<(S.funcs.length:Int):=by omega
  obtain rfl:i=S.funcs.length:=by omega
  have ht1:S.fns.take S.funcs.length=S.fns:=take_of_length_le (by simp[Qap.fns]);have ht2:S.names.take S.funcs.length=S.names:=take_of_length_le (by simp[Qap.names]);have hz2:=hz.out;rw[ht1,ht2]at hz2;obtain⟨X0,hX0⟩:∃ X0,QaK none (Qcr S.names [])=X0:=⟨_,rfl⟩
  rw[hX0]at hz2;have HX0:=Zh hX0;have HRZ:Hid (Rz w wl sb (S.upF 0) mb rb mn (fun s=>Qai S.fns s) (QaK X0 (QdR S.fns (S.src.funcs.take 0)))):=Zh (by simpa[Qap.upF,QdR,QaK] using hz2);have b0:wl.cell? ⟨sb,0,none⟩=some (.slice fa S.funcs.length fc):=by rw[Ja hz2.ok.box,HFV.out];rfl
  clear hi hg hmn hz hz2 ht1 ht2 hX0;go_wp2_with fail;clear b0;go_loopg [59] S.funcs.length (fun g v59 wr=>∃ i:Nat,g+i=S.funcs.length/\v59=.int .i64 i/\Hid (Rz w wr sb (S.upF i) mb rb mn (fun s=>Qai S.fns s) (QaK X0 (QdR S.fns (S.src.funcs.take i)))))
  case atStart=>exact⟨0,rfl,rfl,HRZ⟩
  case round=>
  clear HRZ hil;obtain⟨wm,rfl⟩:∃ wm:World,wm=wr:=⟨_,rfl⟩
  obtain⟨i,hg,rfl,hz⟩:=hrel
  by_cases hi:i<S.funcs.length
  ·have hil:(i:Int)<(S.funcs.length:Int):=by omega
   obtain⟨fn,hfn⟩:∃ fn,S.funcs[i]?=some fn:=⟨S.funcs[i],List.getElem?_eq_getElem hi⟩
   have hfu:(S.upF i).funcs[i]?=some fn:=(JcE S i i zzl).trans hfn;obtain⟨hwf,hsz,hnl,hpl⟩:=H3.out fn (mem_of_getElem? hfn);have hbx:=hz.out.ok.box;rw[(KW S i).2.2.1,HFV.out]at hbx;have b0:=Ja hbx 0;simp only[List.getElem?_toArray,List.getElem?_cons_zero]at b0;have hcl:=VY hz.out.ok hfu;rw[(KW S i).2.2.1]at hcl;obtain⟨fo,_,_⟩:=hz.out.ok.fok fn (mem_of_getElem? hfu);obtain⟨pa,pc,hpv,hpa⟩:=Va fo.pown;have c2:=hcl 2 fn.pv rfl;rw[hpv]at c2;have had:=HFA.out (by omega);have HFU:=Zh hfu;have HFN:=Zh hfn;have HPA:=Zh hpa;have HWF:=Zh hwf;have HG:=Zh hg;have wk:IntKind.i64.wrap ((i:Int)+1)=(i:Int)+1:=IntWalk.i64_in _ (by omega);obtain⟨X1,hX1⟩:∃ X1,QaK X0 (QdR S.fns (S.src.funcs.take i))=X1:=⟨_,rfl⟩
   have HX1:=Zh hX1;have HZ:=Zh hz.out;rw[hX1]at HZ;have HRI:Hid (Rz w wm sb (S.upF i) mb rb mn (fun s=>Qai S.fns s) (QaK X1 (Qcr (fn.params.take 0) []))):=Zh (by simpa[Qcr,QaK] using HZ.out);subst had;clear hbx hcl fo hpv hpa hfu hfn hwf hg hX1 hz HZ;go_wp2_with fail;clear b0 c2;go_loopg [73,9] fn.params.length (fun g v73 v9 wr=>∃ j:Nat,g+j=fn.params.length/\v73=.int .i64 j/\Hid (wr.ownsRow wm.heap.size 9 1 v9 j (strs ((fn.params.take j).map (·.1))))/\Hid (j=0->v9=.slice none 0 0)/\Hid (Rz w wr sb (S.upF i) mb rb mn (fun s=>Qai S.fns s) (QaK X1 (Qcr (fn.params.take j) [])))/\Hid (rb<wm.heap.size/\wm.heap.size<=wr.heap.size))
   case atStart=>exact⟨0,rfl,rfl,World.ownsRow_nil _ _ _ _,fun _=>rfl,HRI,Jb HRI.out.flt,le_refl _⟩
   case round=>
   clear HRI;obtain⟨wi,rfl⟩:∃ wi:World,wi=wr:=⟨_,rfl⟩
   obtain⟨j,hg,rfl,ho,hv0,hz,hws⟩:=hrel;obtain⟨va,vn,vc,hv9⟩:=Jh ho.out;subst hv9
   by_cases hj:j<fn.params.length
   ·have hjl:(j:Int)<(fn.params.length:Int):=by omega
    obtain⟨p,hp⟩:∃ p,fn.params[j]?=some p:=⟨fn.params[j],List.getElem?_eq_getElem hj⟩
    have hpad:=HPA.out (by omega);obtain⟨fo2,_,_⟩:=hz.out.ok.fok fn (mem_of_getElem? HFU.out);obtain⟨d0,d1⟩:=JfT fo2.pown hp;have hlen:((fn.params.take j).map (·.1)).length=j:=by simp;omega
    have wk2:IntKind.i64.wrap ((j:Int)+1)=(j:Int)+1:=IntWalk.i64_in _ (by omega);have hts:fn.params.take (j+1)=fn.params.take j++[p]:=J0 hp;obtain⟨pnm,pof⟩:=p;dsimp only at d0 d1;have HTS:=Zh hts;have HG2:=Zh hg;have HOW:=Zh (ho.out.alloc (.cells #[.string (bs pnm),.int .i64 pof] 123));have HZ:=Zh (hz.out.up ((Below.refl wi.heap.size wi).alloc zzl (.cells #[.string (bs pnm),.int .i64 pof] 123)));have HCP:=Zh (zzw wi (.cells #[.string (bs pnm),.int .i64 pof] 123));have HWS:Hid (rb<wm.heap.size/\wm.heap.size<=(wi.alloc (.cells #[.string (bs pnm),.int .i64 pof] 123)).heap.size):=⟨hws.out.1,by rw[World.size_alloc];have:=hws.out.2;omega⟩
    have HBC:Hid (rb<wi.heap.size):=Nat.lt_of_lt_of_le hws.out.1 hws.out.2;subst hpad;clear hp hts hg ho hz fo2 hv0 hws HPA;go_wp2_with fail;clear d0 d1;generalize World.alloc wi _=w4 at *;generalize wi.heap.size=cb at *
    by_cases hm:pnm∈(fn.params.take j).map (·.1)
    ·have cx:=Ys hlen HOW.out (by omega) pnm;rw[decide_eq_true hm]at cx;have HD:Hid (Qcr (fn.params.take (j+1)) []=Qcr (fn.params.take j) []++[pof]):=by rw[Hid,HTS.out,VV,nil_append,if_pos hm]
     refine cx.mono ?_;rintro e w5 ⟨rfl,hw5⟩;obtain rfl:w4=w5:=hw5.symm;clear cx hm;go_upto_region 18 with fail;refine wp_region_held_drew (S:=fun _=>True) (by kernel_rfl) (trivial) (fun hH=>?_);have hD:Below w4.heap.size w4 w4.drew:=(Below.refl w4.heap.size w4).drew;replace HZ:=Zh (HZ.out.up hD);replace HCP:=Zh ((hD.block _ (Jb HCP.out)).trans HCP.out);replace HOW:=Zh (JfH HOW.out hD);replace HWS:Hid (rb<wm.heap.size/\wm.heap.size<=w4.drew.heap.size):=HWS.out;clear hD;generalize w4.drew=w6 at *;refine ZT (i:=0) (v:=?vT1_0) rfl (Or.inl ⟨by rfl,?yT1_0⟩) ?_
     case yT1_0=>exact ZyQ
     try simp only[Act.put,ZA,ZB,ZC]
     refine ZT (i:=1) (v:=?vT1_1) rfl (Or.inl ⟨by rfl,?yT1_1⟩) ?_
     case yT1_1=>exact ZyQ
     try simp only[Act.put,ZA,ZB,ZC]
     refine ZT (i:=2) (v:=?vT1_2) rfl (Or.inl ⟨by rfl,?yT1_2⟩) ?_
     case yT1_2=>exact ZyQ
     try simp only[Act.put,ZA,ZB,ZC]
     refine ZT (i:=3) (v:=?vT1_3) rfl (Or.inl ⟨by rfl,?yT1_3⟩) ?_
     case yT1_3=>exact ZyQ
     try simp only[Act.put,ZA,ZB,ZC]
     refine ZS 4 rfl (fun K hK=>?_);have n1:=Ja HCP.out 1;simp only[ZD,ZE,ZF]at n1;go_simp;clear n1;refine hK.out _ _ trivial (fun hH=>?_);clear hK K
     try simp only[Act.put,ZA,ZB,ZC]
     refine ZS 5 rfl (fun K hK=>?_)
     (go_simp;go_at_call 75;refine(VD _ rb 142 _ (.map (some mb)) pof HZ.out.flt).mono ?_;intro e w7 h7)
     have hst:=HZ.out.add h7;have hcc:=h7.2.2;obtain rfl:=h7.1;replace HCP:=Zh (hcc.heap_some (by have:=HBC.out;simp;omega) HCP.out);replace HOW:=Zh (Jz HOW.out hcc (by have:=HWS.out.1;simp;omega));replace HWS:Hid (rb<wm.heap.size/\wm.heap.size<=w7.heap.size):=⟨HWS.out.1,Nat.le_trans HWS.out.2 hcc.size⟩
     rw[<- Jv,<- HD.out]at hst;replace HZ:=Zh hst;clear h7 hst hcc;refine hK.out _ _ trivial (fun hH=>?_);clear hK K
     try simp only[Act.put,ZA,ZB,ZC]
     refine wpAnyH_done (by kernel_rfl) ?_ _;have n0:=Ja HCP.out 0;simp only[List.getElem?_toArray,List.getElem?_cons_zero]at n0;obtain⟨i0,hi,hz0,hz1,hz2⟩:=info_parts QfG;have HI:=Zh hi;clear hi;go_wp2_with (at_builtin;refine wpList_append_own _ rfl _ _ 47 rfl wm.heap.size 9 i0 (.string ⟨#[]⟩) 1 16 underlying47 HI.out hz0 hz1 hz2 rfl (by decide) _ _ _ rfl (HOW.out.alloc _) ⟨w7.heap.size,0,none⟩ 1 1 [.string (bs pnm)] rfl rfl ?c1 ?c2 ?c3 ?c4 ?c5 ?_)
     case c1=>
      intro k u hk;rw[KV];simpa using hk
     case c2=>intro u hu;simp at hu;subst hu;rfl
     case c3=>unfold maxLen;omega
     case c4=>omega
     case c5=>have:=HWS.out.2;rw[World.size_alloc];omega
     exact QmE
    ·have cx:=Ys hlen HOW.out (by omega) pnm;rw[decide_eq_false hm]at cx;have HD:Hid (Qcr (fn.params.take (j+1)) []=Qcr (fn.params.take j) []):=by rw[Hid,HTS.out,VV,nil_append,if_neg hm,List.append_nil]
     refine cx.mono ?_;rintro e w5 ⟨rfl,hw5⟩;obtain rfl:w4=w5:=hw5.symm;clear cx hm;rw[<- HD.out]at HZ;have n0:=Ja HCP.out 0;simp only[List.getElem?_toArray,List.getElem?_cons_zero]at n0;obtain⟨i0,hi,hz0,hz1,hz2⟩:=info_parts QfG;have HI:=Zh hi;clear hi;go_wp2_with (at_builtin;refine wpList_append_own _ rfl _ _ 47 rfl wm.heap.size 9 i0 (.string ⟨#[]⟩) 1 16 underlying47 HI.out hz0 hz1 hz2 rfl (by decide) _ _ _ rfl (HOW.out.alloc _) ⟨w4.heap.size,0,none⟩ 1 1 [.string (bs pnm)] rfl rfl ?c1 ?c2 ?c3 ?c4 ?c5 ?_)
     case c1=>
      intro k u hk;rw[KV];simpa using hk
     case c2=>intro u hu;simp at hu;subst hu;rfl
     case c3=>unfold maxLen;omega
     case c4=>omega
     case c5=>have:=HWS.out.2;rw[World.size_alloc];omega
     exact QmE
   ·have hjl:¬ (j:Int)<(fn.params.length:Int):=by omega
    obtain rfl:j=fn.params.length:=by omega
    have ho2:=ho.out;rw[List.take_length]at ho2;have hz3:=hz.out;rw[List.take_length]at hz3;have hv9:=Jii (l:=fn.params.map (·.1)) (by simp) ho2 hv0.out
    have hg9:fn.params.map (·.1)≠[]->rb<Value.blk (.slice va vn vc):=fun hne=>by
     have hpos:0<fn.params.length:=by have:=List.length_pos_iff.2 hne;simpa using this
     have:=(ho2.lt _ (Vh ho2 hpos)).1;have:=hws.out.1;omega
    have hp:=hz3.preF (fs:=S.fns) HFU.out hv9 hg9 HWF.out;rw[(KW S i).2.2.1]at hp;have cn:=JaD S.fns rb 142 mb mn (by simp[Qap.fns];omega) (siz fn.body.nd) fn.body (fn.params.map (·.1)) _ _ _ _ _ wi zzl (by simp;omega) hp;have HZ3:=Zh hz3;have HST:=Zh (fun e W' hr=>HZ3.out.resF (vars:=fn.params.map (·.1)) (e:=e) (W':=W') HFU.out hr);rw[(KW S i).2.2.1]at HST;clear hj hjl hg HPA ho ho2 hv0 hz hz3 hws hp hv9 hg9 HWF HZ3;go_wp2_with fail;refine cn.mono ?_;intro e w8 hr;have hst:=HST.out _ _ hr;obtain rfl:=hr.1
    have HS8:Hid (Rz w w8 sb (S.upF (i+1)) mb rb mn (fun s=>Qai S.fns s) (QaK X0 (QdR S.fns (S.src.funcs.take (i+1))))):=by
     rw[Hid,J0 (Jkj S HFN.out),JfQ,Jv,Jv,HX1.out];have e1:S.upF (i+1)=(S.upF i).setF i (Qbu S.fns (fn.params.map (·.1)) fn.body):=by show (S.upF i).setF i _=_;rw[HFN.out]
     rw[e1];exact hst
    clear hst hr cn HST HX1;go_wp2;go_roundg (S.funcs.length-(i+1))
    case measure=>have:=HG.out;omega
    case rel=>exact⟨i+1,by omega,by go_num,HS8⟩
  ·have hil:¬ (i:Int)<(S.funcs.length:Int):=by omega
   obtain rfl:i=S.funcs.length:=by omega
   have ht:S.src.funcs.take S.funcs.length=S.src.funcs:=take_of_length_le (by simp[Qap.src]);have hz2:=hz.out;rw[ht]at hz2;obtain⟨X2,hX2⟩:∃ X2,QaK X0 (QdR S.fns S.src.funcs)=X2:=⟨_,rfl⟩
   rw[hX2]at hz2;have HX2:=Zh hX2;have hr4:=KW S S.funcs.length;obtain⟨S2,hS2⟩:∃ S2,S.upF S.funcs.length=S2:=⟨_,rfl⟩
   rw[hS2]at hz2 hr4;have HS2:=Zh hS2;have HR4:=Zh hr4;have HRZ:Hid (Rz w wm sb (S2.upC S.fns 0) mb rb mn (fun s=>Qai S.fns s) (QaK X2 (Qex S.fns (S.src.clauses.take 0)))):=Zh (by simpa[Qap.upC,Qex,QaK] using hz2);have hbx:=hz2.ok.box;rw[HR4.out.2.2.2,HCV.out]at hbx;have b1:=Ja hbx 1;simp only[ZD,ZE,ZF]at b1;clear hi hg hz hz2 ht hX2 hS2 hr4 hbx H3;go_wp2_with fail;clear b1;go_loopg [105] S.clauses.length (fun g v105 wr=>∃ i:Nat,g+i=S.clauses.length/\v105=.int .i64 i/\Hid (Rz w wr sb (S2.upC S.fns i) mb rb mn (fun s=>Qai S.fns s) (QaK X2 (Qex S.fns (S.src.clauses.take i)))))
   case atStart=>exact⟨0,rfl,rfl,HRZ⟩
   case round=>
   clear HRZ hil;obtain⟨wc,rfl⟩:∃ wc:World,wc=wr:=⟨_,rfl⟩
   obtain⟨i,hg,rfl,hz⟩:=hrel
   by_cases hi:i<S.clauses.length
   ·have hil:(i:Int)<(S.clauses.length:Int):=by omega
    obtain⟨c,hcc⟩:∃ c,S.clauses[i]?=some c:=⟨S.clauses[i],List.getElem?_eq_getElem hi⟩
    have hcu:(S2.upC S.fns i).clauses[i]?=some c:=(JcG S2 S.fns i i zzl).trans (by rw[HR4.out.1];exact hcc);obtain⟨hwf,hsz⟩:=H4.out c (mem_of_getElem? hcc);have hcv3:(S2.upC S.fns i).cv=S.cv:=(YG S2 S.fns i).2.2.2.trans HR4.out.2.2.2;have hbx:=hz.out.ok.box;rw[hcv3,HCV.out]at hbx;have b1:=Ja hbx 1;simp only[ZD,ZE,ZF]at b1;have had:=HCA.out (by omega);have hp:=hz.out.preC (fs:=S.fns) hcu hwf;rw[hcv3]at hp;have cn:=JaD S.fns rb 142 mb mn (by simp[Qap.fns];omega) (siz c.cond.nd) c.cond [] (.slice none 0 0) 0 _ _ _ wc zzl (by simp;omega) hp;have HST:=Zh (fun e W' hr=>hz.out.resC (vars:=[]) (e:=e) (W':=W') hcu hr);rw[hcv3]at HST;have HCC:=Zh hcc;have HG:=Zh hg;have wk:IntKind.i64.wrap ((i:Int)+1)=(i:Int)+1:=IntWalk.i64_in _ (by omega);subst had;clear hbx hcv3 hcu hwf hsz hcc hp hg hz;go_wp2_with fail;refine cn.mono ?_;intro e w8 hr;have hst:=HST.out _ _ hr;obtain rfl:=hr.1
    have HS8:Hid (Rz w w8 sb (S2.upC S.fns (i+1)) mb rb mn (fun s=>Qai S.fns s) (QaK X2 (Qex S.fns (S.src.clauses.take (i+1))))):=by
     rw[Hid,J0 (Jkl S HCC.out),JfR,Jv];have e1:S2.upC S.fns (i+1)=(S2.upC S.fns i).setC i (Qbu S.fns [] c.cond):=by show (S2.upC S.fns i).setC i _=_;rw[HR4.out.1,HCC.out]
     rw[e1];exact hst
    clear hst hr cn HST b1;go_wp2;go_roundg (S.clauses.length-(i+1))
    case measure=>have:=HG.out;omega
    case rel=>exact⟨i+1,by omega,by go_num,HS8⟩
   ·have hil:¬ (i:Int)<(S.clauses.length:Int):=by omega
    obtain rfl:i=S.clauses.length:=by omega
    have ht:S.src.clauses.take S.clauses.length=S.src.clauses:=take_of_length_le (by simp[Qap.src]);have hz2:=hz.out;rw[ht,<- HX2.out,<- HX0.out,Jij,<- HS2.out]at hz2;have HS:=Zh (Jkk S);have HZ:=Zh hz2;have r0:=Ja HZ.out.flt 0;have r1:=Ja HZ.out.flt 1;simp only[ZD,ZE,ZF]at r0 r1;clear hi hg hz hz2 ht HX2 HX0 HS2 HR4 HCA HFA H4
    cases hL:QaG (Qac S.src).2 with
    |none=>
     rw[hL]at r0 r1;simp only[Option.isSome,Option.getD]at r0 r1;have HL:=Zh hL;clear hL;go_wp2;go_end0;rw[HR.out];unfold RsP;rw[HL.out];exact⟨rfl,HZ.out.bel,_,HS.out,HZ.out.ok⟩
    |some er=>
     rw[hL]at r0 r1;simp only[Option.isSome,Option.getD]at r0 r1;have HL:=Zh hL;clear hL;go_wp2;refine⟨rfl,?_⟩;rw[HR.out];unfold RsP;rw[HL.out];exact⟨rfl,HZ.out.bel⟩
end Go.Proofs.YtdlkcjkjnehnkaaGreatDoor
