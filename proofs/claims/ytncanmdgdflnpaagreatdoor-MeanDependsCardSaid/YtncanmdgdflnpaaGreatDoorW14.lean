import Derived.Maps.Own
import Derived.Maps.OwnSet
import Derived.Maps.Views
import Derived.Maps.Keyed
import Derived.StringKeys
import Derived.Test.YtncanmdgdflnpaaGreatDoorW13
namespace Go.Proofs.YtncanmdgdflnpaaGreatDoor
open Go.ChangeShapes Go.WideShapes Go.ChangeAt Go.RowKit Go.Lib
open _root_.Go.Proofs.Tryz
set_option linter.all false
set_option maxRecDepth 100000
set_option maxHeartbeats 32000000
theorem JeM {w w':World} {base n e size:Nat} {v:Value} {xs:List Value} (h:w.ownsRow base e size v n xs) (hb:Below w.heap.size w w'):w'.ownsRow base e size v n xs:=Jx h (Chg.of_below hb []) (by simp)
theorem JcN {w:World} {base e size n:Nat} {v:Value} {xs:List Value} (h:w.ownsRow base e size v n xs):∀ k,v.ownBlock=some k→base≤k:=fun k hk=>(h.lt k hk).1
def Value.blk (v:Value):Nat:=v.ownBlock.getD 0
theorem KU {w:World} {base e size n:Nat} {v:Value} {xs:List Value} (h:w.ownsRow base e size v n xs):∃ ad cc,v=.slice ad n cc∧(0<n→ad=some ⟨Value.blk v,0,none⟩):=by
 rcases h.2 with ⟨rfl,rfl⟩ | ⟨g,cap,cur,rfl,_⟩
 ·exact ⟨none,0,rfl,fun h=>absurd h (by omega)⟩
 ·exact ⟨_,cap,rfl,fun _=>rfl⟩
theorem KB (w:World) (cs:Array Value) (e:TypeId) (j:Nat):(w.alloc (.cells cs e)).cell? ((⟨w.heap.size,0,none⟩:Addr).add j)=cs[j]?:=by
 exact wx86
def ptrs (g size off n:Nat):List Value:=(List.range n).map fun i=>.pointer (some ⟨g,i*size+off,none⟩)
theorem JaN (g size off n:Nat):ptrs g size off (n+1)=ptrs g size off n++[.pointer (some ⟨g,n*size+off,none⟩)]:=by simp[ptrs,List.range_succ]
theorem infoPtr:(prog.info? 133).map (fun i=>(i.zero,i.size,i.bytes))=some (some (.pointer none),1,8):=by kernel_rfl
def RootsP (w:World) (S:SrcA) (e:Ending) (w':World):Prop:=
 ∃ v,e=.returned v∧w'.ownsRow w.heap.size 133 1 v (S.funcs.length+S.clauses.length) (ptrs (Value.blk S.fv) 10 5 S.funcs.length++ptrs (Value.blk S.cv) 7 0 S.clauses.length)∧Below w.heap.size w w'
theorem JeN (w:World) (sb:Nat) (S:SrcA) (h:SrcOk w sb S) (h1:S.funcs.length≤100000000) (h2:S.clauses.length≤100000000):Calls prog 71 #[.pointer (some ⟨sb,0,none⟩)] w (RootsP w S):=by
 obtain ⟨R,hR⟩:∃ R,RootsP w S=R:=⟨_,rfl⟩
 rw[hR];have HR:Hid (R=RootsP w S):=hR.symm;have HB:=Zh h.box;obtain ⟨fa,fc,hfv,hfa⟩:=KU h.fown;obtain ⟨ca,cc,hcv,hca⟩:=KU h.cown;have HFA:=Zh hfa;have HCA:=Zh hca;obtain ⟨fs,cs,act,fv,cv⟩:=S;dsimp only at hfv hcv h1 h2 HB HFA HCA;generalize hfb:Value.blk fv=fb at *;generalize hcb:Value.blk cv=cb at *;have HFB:=Zh hfb;have HCB:=Zh hcb;rw[hfv,hcv] at HB;generalize hnf:fs.length=nf at *;generalize hnc:cs.length=nc at *;have HNF:=Zh hnf;have HNC:=Zh hnc;clear h hR hfa hca hfb hcb hfv hcv hnf hnc;obtain ⟨i0,hi,hz0,hz1,hz2⟩:=info_parts infoPtr;have HI:=Zh hi;clear hi;have b0:=Ja HB.out 0;have b1:=Ja HB.out 1;simp only[ZD,ZE,ZF] at b0 b1;go_enter func71,ntmps71;go_wp2_with fail;go_loopg [3,11] nf (fun g v3 v11 wr=>∃ i:Nat,g+i=nf∧v11=.int .i64 i∧Hid (wr.ownsRow w.heap.size 133 1 v3 i (ptrs fb 10 5 i))∧Hid (Below w.heap.size w wr))
 case atStart=>exact ⟨0,rfl,rfl,World.ownsRow_nil _ _ _ _,Below.refl _ _⟩
 case round=>
 clear b0 b1;obtain ⟨wl,rfl⟩:∃ wl:World,wl=wr:=⟨_,rfl⟩
 obtain ⟨i,hg,rfl,ho,hw⟩:=hrel;have hbx:=(hw.out.block _ (Jb HB.out)).trans HB.out;have b0:=Ja hbx 0;have b1:=Ja hbx 1;simp only[ZD,ZE,ZF] at b0 b1
 by_cases hil:i<nf
 ·have hl:(i:Int)<(nf:Int):=by omega
  have had:fa=some ⟨fb,0,none⟩:=HFA.out (by omega);obtain ⟨va,vn,vc,hv3⟩:=Ji ho.out;subst hv3;have wk:IntKind.i64.wrap ((i:Int)+1)=(i:Int)+1:=IntWalk.i64_in _ (by omega);have HG:=Zh hg;subst had;clear HFA hg hbx;go_wp2_with (at_builtin; refine wpList_append_own _ rfl _ _ 131 rfl w.heap.size 133 i0 (.pointer none) 1 8 underlying131 HI.out hz0 hz1 hz2 rfl (by decide) _ _ _ rfl (ho.out.alloc _) ⟨wl.heap.size,0,none⟩ 1 1 [.pointer (some ⟨fb,i*10+5,none⟩)] rfl rfl ?c1 ?c2 ?c3 ?c4 ?c5 ?_)
  case c1=>
   intro j u hj;rw[KB];simpa using hj
  case c2=>intro u hu; simp at hu; subst hu; rfl
  case c3=>unfold maxLen; omega
  case c4=>omega
  case c5=>simp; exact Nat.le_trans hw.out.size (by omega)
  intro v' w' hown' hgrow _;have hb1:=(hw.out.alloc hw.out.size (.cells #[.pointer (some ⟨fb,i*10+5,none⟩)] 133))
  have HW:=Zh (hb1.grown hgrow (by simp; exact Nat.le_trans hw.out.size (by omega)) (JcN ho.out));rw[← JaN] at hown';have HO:=Zh hown';clear hown' hgrow hb1 ho hw;go_wp2;go_roundg (nf-(i+1))
  case measure=>have:=HG.out; omega
  case rel=>exact ⟨i+1,by omega,by go_num,HO,HW⟩
 ·have hl:¬ (i:Int)<(nf:Int):=by omega
  obtain rfl:i=nf:=by omega
  have HO:=Zh ho.out;have HW:=Zh hw.out;have wk0:True:=trivial;clear hil hbx hg ho hw b0 HFA;go_wp2_with fail;go_loopg [3,30] nc (fun g v3 v30 wr=>∃ j:Nat,g+j=nc∧v30=.int .i64 j∧Hid (wr.ownsRow w.heap.size 133 1 v3 (i+j) (ptrs fb 10 5 i++ptrs cb 7 0 j))∧Hid (Below w.heap.size w wr))
  case atStart=>exact ⟨0,rfl,rfl,by simpa[ptrs,Hid] using HO.out,HW⟩
  case round=>
  clear b1 HO HW;obtain ⟨wm,rfl⟩:∃ wm:World,wm=wr:=⟨_,rfl⟩
  obtain ⟨j,hg,rfl,ho,hw⟩:=hrel;have hbx:=(hw.out.block _ (Jb HB.out)).trans HB.out;have b1:=Ja hbx 1;simp only[ZD,ZE,ZF] at b1
  by_cases hjl:j<nc
  ·have hl:(j:Int)<(nc:Int):=by omega
   have had:ca=some ⟨cb,0,none⟩:=HCA.out (by omega);obtain ⟨va,vn,vc,hv3⟩:=Ji ho.out;subst hv3;have wk:IntKind.i64.wrap ((j:Int)+1)=(j:Int)+1:=IntWalk.i64_in _ (by omega);have HG:=Zh hg;subst had;clear HCA hg hbx;go_wp2_with (at_builtin; refine wpList_append_own _ rfl _ _ 131 rfl w.heap.size 133 i0 (.pointer none) 1 8 underlying131 HI.out hz0 hz1 hz2 rfl (by decide) _ _ _ rfl (ho.out.alloc _) ⟨wm.heap.size,0,none⟩ 1 1 [.pointer (some ⟨cb,j*7,none⟩)] rfl rfl ?c1 ?c2 ?c3 ?c4 ?c5 ?_)
   case c1=>
    intro j u hj;rw[KB];simpa using hj
   case c2=>intro u hu; simp at hu; subst hu; rfl
   case c3=>unfold maxLen; omega
   case c4=>omega
   case c5=>simp; exact Nat.le_trans hw.out.size (by omega)
   intro v' w' hown' hgrow _;have hb1:=(hw.out.alloc hw.out.size (.cells #[.pointer (some ⟨cb,j*7,none⟩)] 133))
   have HW:=Zh (hb1.grown hgrow (by simp; exact Nat.le_trans hw.out.size (by omega)) (JcN ho.out));rw[show ptrs cb 7 0 j++[Value.pointer (some ⟨cb,j*7,none⟩)]=ptrs cb 7 0 (j+1) by rw[JaN,Nat.add_zero]] at hown';have HO:=Zh hown';clear hown' hgrow hb1 ho hw;go_wp2;go_roundg (nc-(j+1))
   case measure=>have:=HG.out; omega
   case rel=>exact ⟨j+1,by omega,by go_num,HO,HW⟩
  ·have hl:¬ (j:Int)<(nc:Int):=by omega
   obtain rfl:j=nc:=by omega
   clear b1 hbx hg hjl;go_wp2;rw[HR.out];refine ⟨_,rfl,?_,hw.out⟩;simp only[HNF.out,HNC.out,HFB.out,HCB.out];exact ho.out
def rootsF (g:Nat):Nat→List FnA→List (Addr × An)
 | _,[]=>[]
 | i,f::l=>(⟨g,i*10+5,none⟩,f.body)::rootsF g (i+1) l
def rootsC (g:Nat):Nat→List ClA→List (Addr × An)
 | _,[]=>[]
 | i,c::l=>(⟨g,i*7,none⟩,c.cond)::rootsC g (i+1) l
def SrcA.rootsA (S:SrcA):List (Addr × An):=rootsF (Value.blk S.fv) 0 S.funcs++rootsC (Value.blk S.cv) 0 S.clauses
theorem VU (g:Nat):∀ (l:List FnA) (i j:Nat),(rootsF g i l)[j]?=l[j]?.map fun f=>(⟨g,(i+j)*10+5,none⟩,f.body)
 | [],i,j=>by simp[rootsF]
 | f::l,i,0=>by simp[rootsF]
 | f::l,i,j+1=>by
  simp only[rootsF,List.getElem?_cons_succ];rw[VU g l (i+1) j,show i+1+j=i+(j+1) by omega]
theorem VV (g:Nat):∀ (l:List ClA) (i j:Nat),(rootsC g i l)[j]?=l[j]?.map fun c=>(⟨g,(i+j)*7,none⟩,c.cond)
 | [],i,j=>by simp[rootsC]
 | f::l,i,0=>by simp[rootsC]
 | f::l,i,j+1=>by
  simp only[rootsC,List.getElem?_cons_succ];rw[VV g l (i+1) j,show i+1+j=i+(j+1) by omega]
theorem Vz (g:Nat):∀ (l:List FnA) (i:Nat),(rootsF g i l).length=l.length
 | [],i=>rfl
 | f::l,i=>by simp[rootsF,Vz g l]
theorem VA (g:Nat):∀ (l:List ClA) (i:Nat),(rootsC g i l).length=l.length
 | [],i=>rfl
 | f::l,i=>by simp[rootsC,VA g l]
theorem JcO (g size off n j:Nat):(ptrs g size off n)[j]?=if j<n then some (.pointer (some ⟨g,j*size+off,none⟩)) else none:=by
 unfold ptrs;rw[List.getElem?_map]
 by_cases h:j<n
 ·rw[if_pos h,List.getElem?_range h]; rfl
 ·rw[if_neg h,List.getElem?_eq_none (by simp; omega)]; rfl
theorem wx128 {P:Prop}(h:P:=by
  by_cases h:j<l.length
  ·rw[if_pos h,List.getElem?_eq_getElem h]; simp
  ·rw[if_neg h,List.getElem?_eq_none (by omega)]; rfl):P:=h
theorem JbW (g:Nat) (l:List FnA):(rootsF g 0 l).map (fun r=>Value.pointer (some r.1))=ptrs g 10 5 l.length:=by
 refine List.ext_getElem? fun j=>?_
 rw[List.getElem?_map,VU,JcO];exact wx128
theorem JbX (g:Nat) (l:List ClA):(rootsC g 0 l).map (fun r=>Value.pointer (some r.1))=ptrs g 7 0 l.length:=by
 refine List.ext_getElem? fun j=>?_
 rw[List.getElem?_map,VV,JcO];exact wx128
theorem JdL (S:SrcA):S.rootsA.map (fun r=>Value.pointer (some r.1))=ptrs (Value.blk S.fv) 10 5 S.funcs.length++ptrs (Value.blk S.cv) 7 0 S.clauses.length:=by
 unfold SrcA.rootsA;rw[List.map_append,JbW,JbX]
theorem JaO (g:Nat):∀ (l:List FnA) (i:Nat),(rootsF g i l).map (fun r=>r.2.nd)=(l.map FnA.src).map (·.body)
 | [],i=>rfl
 | f::l,i=>by simp[rootsF,JaO g l,FnA.src]
theorem JaP (g:Nat):∀ (l:List ClA) (i:Nat),(rootsC g i l).map (fun r=>r.2.nd)=(l.map ClA.src).map (·.cond)
 | [],i=>rfl
 | f::l,i=>by simp[rootsC,JaP g l,ClA.src]
theorem JcP (S:SrcA):S.rootsA.map (fun r=>r.2.nd)=S.src.roots:=by
 unfold SrcA.rootsA Src.roots SrcA.src;rw[List.map_append,JaO,JaP]
theorem Kd {α:Type} {cells:α→List Value} {size:Nat} (hs:∀ x,(cells x).length=size):∀ (l:List α) (i j:Nat) (x:α) (u:Value),l[i]?=some x→(cells x)[j]?=some u→(l.flatMap cells)[i*size+j]?=some u
 | [],i,j,x,u,h,hj=>by cases h
 | a::l,0,j,x,u,h,hj=>by
  obtain rfl:a=x:=by simpa using h
  have hlt:=(List.getElem?_eq_some_iff.1 hj).1;rw[List.flatMap_cons,Nat.zero_mul,Nat.zero_add,List.getElem?_append_left hlt];exact hj
 | a::l,i+1,j,x,u,h,hj=>by
  rw[List.flatMap_cons,List.getElem?_append_right (by rw[hs,Nat.succ_mul]; omega),hs,show (i+1)*size+j-size=i*size+j by rw[Nat.succ_mul]; omega];exact Kd hs l i j x u (by simpa using h) hj
theorem JT {W:World} {base e size n:Nat} {v:Value} {xs:List Value} (h:W.ownsRow base e size v n xs) {j:Nat} {u:Value} (hj:xs[j]?=some u):W.cell? ⟨Value.blk v,j,none⟩=some u:=by
 rcases h.2 with ⟨rfl,rfl⟩ | ⟨g,cap,cur,rfl,_⟩
 ·have:=h.1;rw[Nat.zero_mul] at this;rw[List.eq_nil_of_length_eq_zero this] at hj
  cases hj
 ·have:=h.cells (g:=g) rfl j u hj;rw[show (⟨g,0,none⟩:Addr).add j=⟨g,j,none⟩ by unfold Addr.add; split <;> simp_all] at this;exact this
theorem FnA.cells_length (f:FnA):f.cells.length=10:=by simp[FnA.cells,JV]
theorem ClA.cells_length (c:ClA):c.cells.length=7:=by simp[ClA.cells,JV]
def RootAt (W:World) (r:Addr × An):Prop:=r.1.spot=none∧(∀ j u,(cellsN r.2).toList[j]?=some u→W.cell? ⟨r.1.block,r.1.off+j,none⟩=some u)∧r.2.At W
theorem RootAt.below {W W':World} {r:Addr × An} (h:RootAt W r) (hb:Below W.heap.size W W'):RootAt W' r:=
 ⟨h.1,fun j u hj=>(hb.cell (World.block_lt_of_cell? _ _ (h.2.1 j u hj))).trans (h.2.1 j u hj),JaM h.2.2 hb⟩
theorem JgW {W:World} {sb:Nat} {S:SrcA} (h:SrcOk W sb S):∀ r∈S.rootsA,RootAt W r:=by
 intro r hr
 rcases List.mem_append.1 hr with hr | hr
 ·obtain ⟨i,hi⟩:=List.getElem?_of_mem hr;rw[VU] at hi;obtain ⟨f,hf,rfl⟩:=Option.map_eq_some_iff.1 hi;refine ⟨rfl,fun j u hj=>?_,(h.fok f (List.mem_of_getElem? hf)).1.bat⟩
  have h1:f.cells[5+j]?=some u:=by
   unfold FnA.cells;rw[List.getElem?_append_right (by simp)];simpa using hj
  have:=JT h.fown (Kd FnA.cells_length S.funcs i (5+j) f u hf h1);rw[← Nat.add_assoc] at this;simpa using this
 ·obtain ⟨i,hi⟩:=List.getElem?_of_mem hr;rw[VV] at hi;obtain ⟨c,hf,rfl⟩:=Option.map_eq_some_iff.1 hi;refine ⟨rfl,fun j u hj=>?_,(h.cok c (List.mem_of_getElem? hf)).1.at'⟩
  have h1:c.cells[j]?=some u:=by
   unfold ClA.cells;rw[List.getElem?_append_left (List.getElem?_eq_some_iff.1 hj).1];exact hj
  have:=JT h.cown (Kd ClA.cells_length S.clauses i j c u hf h1);simpa using this
def failE (er o:Int):Value:=.iface 69 (.agg #[.int .i64 er,.int .i64 o])
def EndP (w:World) (er:Int) (x:Option Int) (e:Ending) (w':World):Prop:=
 match x with
 | none=>e=.returned (.tuple #[])∧Below w.heap.size w w'
 | some o=>e=.panicked [{ v:=failE er o,recovered:=false }]∧Below w.heap.size w w'
theorem JdM {l:List (Addr × An)} {i:Nat} {r:Addr × An} (h:l[i]?=some r):(((l.drop i).map (fun r=>r.2.nd)).find? (fun n=>decide (40<nest n)))=if 40<nest r.2.nd then some r.2.nd else ((l.drop (i+1)).map (fun r=>r.2.nd)).find? (fun n=>decide (40<nest n)):=by
 rw[List.drop_eq_getElem_cons (List.getElem?_eq_some_iff.1 h).1,(List.getElem?_eq_some_iff.1 h).2,List.map_cons,List.find?_cons]
 by_cases hn:40<nest r.2.nd
 ·rw[if_pos hn]; simp[hn]
 ·rw[if_neg hn]; simp[hn]
theorem JeO (w:World) (sb:Nat) (S:SrcA) (h:SrcOk w sb S) (h1:S.funcs.length≤100000000) (h2:S.clauses.length≤100000000) (h3:∀ r∈S.rootsA,siz r.2.nd≤1000000000):Calls prog 35 #[.pointer (some ⟨sb,0,none⟩)] w (EndP w 7 (limitM S.src)):=by
 have cr:=JeN w sb S h h1 h2;obtain ⟨X,hX⟩:∃ X,limitM S.src=X:=⟨_,rfl⟩
 rw[hX];obtain ⟨R,hR⟩:∃ R,EndP w 7 X=R:=⟨_,rfl⟩
 rw[hR];have HR:Hid (R=EndP w 7 X):=hR.symm;have hra:=JgW h;unfold RootsP at cr;rw[← JdL] at cr;have hlen:S.funcs.length+S.clauses.length=S.rootsA.length:=by unfold SrcA.rootsA; rw[List.length_append,Vz,VA]
 have hln:S.rootsA.length≤200000000:=by omega
 rw[hlen] at cr;unfold limitM at hX;rw[← JcP] at hX;generalize S.rootsA=L at *;have HX:=Zh hX;have HRA:=Zh hra;have HSZ:=Zh h3;clear h hR hX hra h1 h2 h3 hlen;go_enter func35,ntmps35;go_wp2_with fail;refine cr.mono ?_;rintro e w1 ⟨v,rfl,hown,hb1⟩;obtain ⟨ad,cc,hv,had⟩:=KU hown;have HOW:=Zh hown;have HAD:=Zh had;have HBV:Hid (∃ b,b=Value.blk v):=⟨_,rfl⟩
 generalize hvb:Value.blk v=vb at *;have HVB:=Zh hvb;subst hv;have HB1:=Zh hb1;clear cr hown had hvb hb1 HBV;go_wp2_with fail;go_loopg [7] L.length (fun g v7 wr=>∃ i:Nat,g+i=L.length∧v7=.int .i64 i∧Hid ((((L.drop i).map (fun r=>r.2.nd)).find? (fun n=>decide (40<nest n))).map Nd.off=X)∧Hid (Below w.heap.size w wr)∧Hid (Below w1.heap.size w1 wr))
 case atStart=>exact ⟨0,rfl,rfl,HX.out,HB1,Below.refl _ _⟩
 case round=>
 clear HX HB1;obtain ⟨wl,rfl⟩:∃ wl:World,wl=wr:=⟨_,rfl⟩
 obtain ⟨i,hg,rfl,hx,hw,hw1⟩:=hrel
 by_cases hil:i<L.length
 ·have hl:(i:Int)<(L.length:Int):=by omega
  obtain ⟨r,hr⟩:∃ r,L[i]?=some r:=⟨L[i],List.getElem?_eq_getElem hil⟩
  have had:ad=some ⟨vb,0,none⟩:=HAD.out (by omega);have hc:=JT HOW.out (j:=i) (u:=.pointer (some r.1)) (by rw[List.getElem?_map,hr]; rfl);rw[HVB.out] at hc;have c0:=(hw1.out.cell (World.block_lt_of_cell? _ _ hc)).trans hc;have hrt:=(HRA.out r (List.mem_of_getElem? hr)).below hw.out;have hsz:=HSZ.out r (List.mem_of_getElem? hr);have hst:=JdM hr;have wk:IntKind.i64.wrap ((i:Int)+1)=(i:Int)+1:=IntWalk.i64_in _ (by omega);obtain ⟨⟨rb,ro,rp⟩,x⟩:=r;obtain ⟨hrp,hrc,hxa⟩:=hrt;dsimp only at hrp hrc hxa hsz hst c0;subst hrp;obtain ⟨xA,xn,xc,hcf⟩:=Jg x;rw[hcf] at hrc;have d0:=hrc 0 _ rfl;have d1:=hrc 1 _ rfl;have d2:=hrc 2 _ rfl;have d3:=hrc 3 _ rfl;have d4:=hrc 4 _ rfl;simp only[Nat.add_zero] at d0;have cx:=YL 1000000000 x wl hsz zzl hxa;rw[hcf] at cx;have HG:=Zh hg;have HX:=Zh hx.out;rw[hst] at HX;have HW:=Zh hw.out;have HW1:=Zh hw1.out;have hnb:nest x.nd≤1000000000:=Nat.le_trans (JcL _) hsz;subst had;clear hc hr hst hsz hcf hrc hxa hg hx hw hw1 HAD;go_wp2_with fail;refine cx.mono ?_;rintro e w2 ⟨rfl,hb2⟩;have d3':=(hb2.cell (World.block_lt_of_cell? _ _ d3)).trans d3;have HW3:=Zh (HW.out.trans (hb2.mono HW.out.size));have HW4:=Zh (HW1.out.trans (hb2.mono HW1.out.size));clear cx hb2 d0 d1 d2 d3 d4 HW HW1 c0
  by_cases hn:40<nest x.nd
  ·have dn:(40:Int)<(nest x.nd:Int):=by omega
   rw[if_pos hn] at HX;clear hn;go_wp2;refine ⟨rfl,?_⟩;rw[HR.out,← HX.out];exact ⟨by rw[YC]; rfl,HW3.out⟩
  ·have dn:¬ (40:Int)<(nest x.nd:Int):=by omega
   rw[if_neg hn] at HX;clear hn d3';go_wp2;go_roundg (L.length-(i+1))
   case measure=>have:=HG.out; omega
   case rel=>exact ⟨i+1,by omega,by go_num,HX,HW3,HW4⟩
 ·have hl:¬ (i:Int)<(L.length:Int):=by omega
  obtain rfl:i=L.length:=by omega
  have HX:=Zh hx.out;rw[List.drop_length] at HX;clear hil hg hx HAD;go_wp2;go_end0;rw[HR.out,← HX.out];exact ⟨rfl,hw.out⟩
theorem strKeyed:Go.Maps.Keyed prog 9:=Go.Maps.string_keyed underlying9
theorem Yi {s:List UInt8} (hs:s.length≤1000000):keyOf prog 9 (.string (bs s))=some (.string s):=by
 rw[Go.WideMaps.keyOf_string_mk underlying9 (by rw[JP]; unfold maxLen; omega),Vm]
theorem JgX {a:Int} (h:0≤a∧a≤1000000000):(Lit.int .i64 a).wf=true:=by
 simp[Lit.wf,IntKind.min,IntKind.max,IntKind.signed,IntKind.bits]; omega
def SMapAt (w:World) (b n:Nat) (f:List UInt8→Option Nat):Prop:=
 ∃ D:DataW Unit,w.ownsMap prog 9 (plainElem prog 3) b n D∧Go.Maps.IsMap D∧
  ∀ s:List UInt8,s.length≤1000000→Go.Maps.has D (.string s)=(f s).isSome∧D.atKey (.string s) (.lit (.int .i64 0))=.lit (.int .i64 ((f s).getD 0:Nat))
theorem zeroInt (w:World):(zeroValue 3).run prog w=.ok (.int .i64 0) w:=by kernel_rfl
theorem SMapAt.look {w:World} {b n:Nat} {f:List UInt8→Option Nat} (h:SMapAt w b n f) {s:List UInt8} (hs:s.length≤1000000) :
  (Instr.lookup 136 (.map (some b)) (.string (bs s)) true).run prog w=.ok (.tuple #[.int .i64 ((f s).getD 0:Nat),.bool (f s).isSome]) w:=by
 obtain ⟨D,ho,hm,hf⟩:=h;obtain ⟨h1,h2⟩:=hf s hs;obtain ⟨v,ps,hrun,hv⟩:=ho.look_ok strKeyed underlying136 (zeroInt w) (plainElem_int underlying3 (by decide)) (Yi hs);rw[hrun];rw[h2] at hv;obtain ⟨c,rfl,hc,hw⟩:=plainElem_int_inv underlying3 hv;simp only[Prod.mk.injEq,DataW.lit.injEq,Lit.int.injEq] at hc;rw[h1,← hc.1.2]
theorem SMapAt.upd {w:World} {b n:Nat} {f:List UInt8→Option Nat} (h:SMapAt w b n f) (hn:n<maxLen) {s:List UInt8} (hs:s.length≤1000000) {v:Nat} (hv:v≤1000000000) :
  ∃ w',(Instr.mapUpdate 136 (.map (some b)) (.string (bs s)) (.int .i64 v)).run prog w=.ok () w'∧SMapAt w' b (n+1) (fun x=>if x=s then some v else f x)∧Chg [b] w w':=by
 obtain ⟨D,ho,hm,hf⟩:=h;have hk:=Yi hs;obtain ⟨w',hrun,ho',hg⟩:=ho.update strKeyed underlying136 hn hk (plainElem_int underlying3 (JgX (a:=(v:Nat)) (by omega)));refine ⟨w',hrun,⟨_,ho',hm.put _ _,fun x hx=>?_⟩,Chg.of_grownBy hg⟩;dsimp only
 by_cases e:x=s
 ·subst e;rw[if_pos rfl,Go.Maps.has_put_same hm (strKeyed.key hk),Go.Maps.atKey_put_same hm (strKeyed.key hk)];exact ⟨rfl,rfl⟩
 ·rw[if_neg e];have hne:(Lit.string x)≠Lit.string s:=fun h=>e (by injection h)
  rw[Go.Maps.has_put_other hne,Go.Maps.atKey_put_other hne];exact hf x hx
theorem SMapAt.new (w:World):SMapAt (w.alloc (.map #[] 0)) w.heap.size 0 (fun _=>none):=
 ⟨.map [],World.ownsMap_made w _ _ _,Go.Maps.isMap_empty,fun _ _=>⟨rfl,rfl⟩⟩
theorem SMapAt.lt {w:World} {b n:Nat} {f:List UInt8→Option Nat} (h:SMapAt w b n f):b<w.heap.size:=h.choose_spec.1.lt
theorem SMapAt.same {w w':World} {b n:Nat} {f:List UInt8→Option Nat} (h:SMapAt w b n f) (hc:w'.heap[b]?=w.heap[b]?):SMapAt w' b n f:=by
 obtain ⟨D,⟨es,clock,hb,r⟩,q⟩:=h;exact ⟨D,⟨es,clock,hc.trans hb,r⟩,q⟩
theorem SMapAt.keep {S:List Nat} {w w':World} {b n:Nat} {f:List UInt8→Option Nat} (h:SMapAt w b n f) (hc:Chg S w w') (hn:b∉S):SMapAt w' b n f:=h.same (hc.block b h.lt hn)
def addF (x:Option Int) (o:Int):Option Int:=some (match x with | none=>o | some b=>if o<b then o else b)
def addL (x:Option Int) (l:List Int):Option Int:=l.foldl addF x
theorem Jt (x:Option Int) (a b:List Int):addL x (a++b)=addL (addL x a) b:=List.foldl_append
theorem JcQ (x:Option Int):addL x []=x:=rfl
theorem JeP (o:Int):addF none o=some o:=rfl
theorem YM (b o:Int):addF (some b) o=some (if o<b then o else b):=rfl
theorem Zk (a:Int) (l:List Int):least (a::l)=some (match least l with | none=>a | some b=>min a b):=rfl
theorem wx82 {P:Prop}(h:P:=by
  cases least l with
  | none=>
   dsimp only
   congr 1
   simp only[Int.min_def]
   repeat' split
   all_goals omega
  | some c=>
   dsimp only
   congr 1
   simp only[Int.min_def]
   repeat' split
   all_goals omega):P:=h
theorem JaQ (b:Int):∀ l:List Int,addL (some b) l=some (match least l with | none=>b | some c=>min b c)
 | []=>rfl
 | a::l=>by
  show addL (addF (some b) a) l=_
  rw[YM,JaQ _ l,Zk]
  by_cases h:a<b
  ·rw[if_pos h];exact wx82
  ·rw[if_neg h];exact wx82
theorem Zl (l:List Int):addL none l=least l:=by
 cases l with
 | nil=>rfl
 | cons a l=>
  show addL (addF none a) l=_
  rw[JeP,JaQ,Zk]
def FltAt (W:World) (rb:Nat) (t:TypeId) (x:Option Int) (M:Value):Prop:=W.heap[rb]?=some (.cells #[.bool x.isSome,.int .i64 (x.getD 0),M] t (0,0))
def AddP (w:World) (rb:Nat) (t:TypeId) (x:Option Int) (M:Value) (e:Ending) (w':World):Prop:=e=.returned (.tuple #[])∧FltAt w' rb t x M∧Chg [rb] w w'
theorem Vo (w:World) (rb:Nat) (t:TypeId) (x:Option Int) (M:Value) (o:Int) (h:FltAt w rb t x M):Calls prog 73 #[.pointer (some ⟨rb,0,none⟩),.int .i64 o] w (AddP w rb t (addF x o) M):=by
 unfold FltAt at h;obtain ⟨R,hR⟩:∃ R,AddP w rb t (addF x o) M=R:=⟨_,rfl⟩
 rw[hR];have HR:Hid (R=AddP w rb t (addF x o) M):=hR.symm;have b0:=Ja h 0;have b1:=Ja h 1;simp only[ZD,ZE,ZF] at b0 b1;have f0:=Jc h 0;have f1:=Jc h 1;have hl:=Jb h;have H:=Zh h;clear hR h
 have HP:Hid (FltAt ((w.setCell ⟨rb,0,none⟩ (.bool true)).setCell ⟨rb,1,none⟩ (.int .i64 o)) rb t (some o) M∧Chg [rb] w ((w.setCell ⟨rb,0,none⟩ (.bool true)).setCell ⟨rb,1,none⟩ (.int .i64 o))):=by
  have h0:=JC H.out 0 (.bool true);have h1:=JC h0 1 (.int .i64 o);exact ⟨h1,((Chg.refl [rb] w).setCell (.inl (by simp)) (p:=⟨rb,0,none⟩) _).setCell (.inl (by simp)) (p:=⟨rb,1,none⟩) _⟩
 cases x with
 | none=>
  simp only[Option.isSome,Option.getD] at b0 b1;clear H;go_enter func73,ntmps73;go_wp2;go_end0;rw[HR.out];exact ⟨rfl,HP.out⟩
 | some b=>
  simp only[Option.isSome,Option.getD] at b0 b1
  by_cases hlt:o<b
  ·have e:addF (some b) o=some o:=by rw[YM,if_pos hlt]
   have HE:=Zh e;clear H e;go_enter func73,ntmps73;go_wp2;go_end0;rw[HR.out,HE.out];exact ⟨rfl,HP.out⟩
  ·have e:addF (some b) o=some b:=by rw[YM,if_neg hlt]
   have HE:=Zh e;clear HP e;go_enter func73,ntmps73;go_wp2;go_end0;rw[HR.out,HE.out];exact ⟨rfl,H.out,Chg.refl _ _⟩
structure ChgC (P:Nat→Nat→Prop) (W W':World):Prop where
 os:W'.os=W.os
 tape:W'.tape=W.tape
 output:W'.output=W.output
 size:W.heap.size≤W'.heap.size
 block:∀ b,b<W.heap.size→(∀ j,¬ P b j)→W'.heap[b]?=W.heap[b]?
 cell:∀ b j,b<W.heap.size→¬ P b j→W'.cell? ⟨b,j,none⟩=W.cell? ⟨b,j,none⟩
 frz:∀ b j,b<W.heap.size→W'.frozen? ⟨b,j,none⟩=W.frozen? ⟨b,j,none⟩
 shape:∀ (b:Nat) (cs:Array Value) (t:TypeId) (fr:Nat × Nat),W.heap[b]?=some (.cells cs t fr)→∃ cs':Array Value,W'.heap[b]?=some (.cells cs' t fr)∧cs'.size=cs.size
theorem ChgC.refl (P:Nat→Nat→Prop) (W:World):ChgC P W W:=⟨rfl,rfl,rfl,Nat.le_refl _,fun _ _ _=>rfl,fun _ _ _ _=>rfl,fun _ _ _=>rfl,fun b cs t fr h=>⟨cs,h,rfl⟩⟩
theorem ChgC.trans {P:Nat→Nat→Prop} {W W1 W2:World} (h:ChgC P W W1) (k:ChgC P W1 W2):ChgC P W W2:=
 ⟨k.os.trans h.os,k.tape.trans h.tape,k.output.trans h.output,Nat.le_trans h.size k.size,fun b hb hp=>(k.block b (Nat.lt_of_lt_of_le hb h.size) hp).trans (h.block b hb hp),fun b j hb hp=>(k.cell b j (Nat.lt_of_lt_of_le hb h.size) hp).trans (h.cell b j hb hp),fun b j hb=>(k.frz b j (Nat.lt_of_lt_of_le hb h.size)).trans (h.frz b j hb),fun b cs t fr hb=>by
  obtain ⟨c1,h1,e1⟩:=h.shape b cs t fr hb;obtain ⟨c2,h2,e2⟩:=k.shape b c1 t fr h1
  exact ⟨c2,h2,e2.trans e1⟩⟩
theorem ChgC.mono {P Q:Nat→Nat→Prop} {W W':World} (h:ChgC P W W') (hpq:∀ b j,b<W.heap.size→P b j→Q b j):ChgC Q W W':=
 ⟨h.os,h.tape,h.output,h.size,fun b hb hq=>h.block b hb (fun j hp=>hq j (hpq b j hb hp)),fun b j hb hq=>h.cell b j hb (fun hp=>hq (hpq b j hb hp)),h.frz,h.shape⟩
theorem ChgC.of_below {P:Nat→Nat→Prop} {W W':World} (h:Below W.heap.size W W'):ChgC P W W':=
 ⟨h.os,h.tape,h.output,h.size,fun b hb _=>h.block b hb,fun b j hb _=>World.cell?_of_block (a:=⟨b,j,none⟩) (h.block b hb),fun b j hb=>World.frozen?_of_block (a:=⟨b,j,none⟩) (h.block b hb),fun b cs t fr hb=>⟨cs,(h.block b (Jb hb)).trans hb,rfl⟩⟩
theorem ChgC.step {P Q:Nat→Nat→Prop} {W W1 W2:World} (h:ChgC P W W1) (k:ChgC Q W1 W2) (hq:∀ b j,Q b j→P b j∨W.heap.size≤b):ChgC P W W2:=
 ⟨k.os.trans h.os,k.tape.trans h.tape,k.output.trans h.output,Nat.le_trans h.size k.size,fun b hb hp=>(k.block b (Nat.lt_of_lt_of_le hb h.size) (fun j hj=>by rcases hq b j hj with h1 | h1; exact hp j h1; omega)).trans (h.block b hb hp),fun b j hb hp=>(k.cell b j (Nat.lt_of_lt_of_le hb h.size) (fun hj=>by rcases hq b j hj with h1 | h1; exact hp h1; omega)).trans (h.cell b j hb hp),fun b j hb=>(k.frz b j (Nat.lt_of_lt_of_le hb h.size)).trans (h.frz b j hb),fun b cs t fr hb=>by
  obtain ⟨c1,h1,e1⟩:=h.shape b cs t fr hb;obtain ⟨c2,h2,e2⟩:=k.shape b c1 t fr h1
  exact ⟨c2,h2,e2.trans e1⟩⟩
theorem Z8 (W:World) (q j:Nat) (u:Value) {b:Nat} {cs:Array Value} {t:TypeId} {fr:Nat × Nat} (h:W.heap[b]?=some (.cells cs t fr)):∃ cs':Array Value,(W.setCell ⟨q,j,none⟩ u).heap[b]?=some (.cells cs' t fr)∧cs'.size=cs.size:=by
 by_cases e:b=q
 ·subst e;exact ⟨cs.setIfInBounds j u,JC h j u,by simp⟩
 ·exact ⟨cs,(Below.heap_setCell _ _ _ _ e).trans h,rfl⟩
theorem ChgC.set {P:Nat→Nat→Prop} {W:World} {b j:Nat} {cs:Array Value} {t:TypeId} {fr:Nat × Nat} (hb:W.heap[b]?=some (.cells cs t fr)) (hp:P b j) (u:Value):ChgC P W (W.setCell ⟨b,j,none⟩ u):=by
 refine ⟨rfl,rfl,rfl,by simp[World.setCell],fun q _ hq=>Below.heap_setCell _ _ _ _ (fun e=>?_),fun q i _ hq=>World.cell?_setCell_other _ _ _ _ (fun e=>?_),fun q i _=>?_,fun q cs t fr hq=>Z8 W _ _ u hq⟩
 ·subst e; exact hq j hp
 ·injection e with e1 e2;subst e1 e2;exact hq hp
 ·by_cases e:q=b
  ·subst e;have h1:=JC hb j u;simp[World.frozen?,h1,hb]
  ·exact World.frozen?_of_block (a:=⟨q,i,none⟩) (Below.heap_setCell _ _ _ _ e)
theorem FltAt.chgC {P:Nat→Nat→Prop} {W W':World} {rb:Nat} {t:TypeId} {x:Option Int} {M:Value} (h:FltAt W rb t x M) (hc:ChgC P W W') (hp:∀ j,¬ P rb j):FltAt W' rb t x M:=(hc.block rb (Jb h) hp).trans h
theorem JbY {rb:Nat} {t:TypeId} {x x':Option Int} {M:Value} {W W':World} (h:FltAt W rb t x M) (h':FltAt W' rb t x' M) (hc:Chg [rb] W W'):ChgC (fun b j=>b=rb∧j<2) W W':=by
 refine ⟨hc.os,hc.tape,hc.output,hc.size,fun b hb hp=>hc.block b hb (fun hm=>?_),fun b j hb hp=>?_,fun b j hb=>?_,fun b cs t' fr hb=>?_⟩
 ·obtain rfl:b=rb:=by simpa using hm
  exact hp 0 ⟨rfl,by omega⟩
 ·by_cases e:b=rb
  ·subst e;rw[Ja h,Ja h'];have hj:¬ j<2:=fun hj=>hp ⟨rfl,hj⟩
   obtain ⟨j,rfl⟩:∃ i,j=i+2:=⟨j-2,by omega⟩
   simp
  ·exact World.cell?_of_block (a:=⟨b,j,none⟩) (hc.block b hb (by simpa using e))
 ·by_cases e:b=rb
  ·subst e;rw[Jc h,Jc h']
  ·exact World.frozen?_of_block (a:=⟨b,j,none⟩) (hc.block b hb (by simpa using e))
 ·by_cases e:b=rb
  ·subst e;rw[show W.heap[b]?=_ from h] at hb;injection hb with hb;injection hb with e1 e2 e3;subst e1 e2 e3;exact ⟨_,h',rfl⟩
  ·exact ⟨cs,(hc.block b (Jb hb) (by simpa using e)).trans hb,rfl⟩
structure NodeAt (W:World) (q o:Nat) (a:An):Prop where
 cells:∀ j u,(cellsN a).toList[j]?=some u→W.cell? ⟨q,o+j,none⟩=some u
 frz:∀ j,W.frozen? ⟨q,j,none⟩=false
 at':a.At W
theorem VB {W:World} {q j:Nat} {u:Value} (h:W.cell? ⟨q,j,none⟩=some u) (hf:True):∃ (cs:Array Value) (t:TypeId) (fr:Nat × Nat),W.heap[q]?=some (.cells cs t fr):=by
 unfold World.cell? at h;split at h
 ·rename_i cs t fr he;exact ⟨_,_,_,he⟩
 ·cases h
mutual
theorem VW {P:Nat→Nat→Prop} {W W':World} (hc:ChgC P W W'):∀ (a:An),a.At W→(∀ b∈foot a,∀ j,¬ P b j)→a.At W'
 | a,h,hp=>JE a h fun b hb=>hc.block b (JaL a h b hb) (hp b hb)
end
mutual
def resA (fs:List (List UInt8)):List (List UInt8)→An→An
 | vars,.mk k n s o b c l=>
  if k=2 then .mk k (lastIx vars s) [] o b c (resAL fs vars l)
  else if k=20 then .mk k ((firstIx fs s).getD 0:Nat) [] o b c (resAL fs vars l)
  else if k=19 then
   match l with
   | [x,y]=>.mk k vars.length [] o b c [resA fs vars x,resA fs (vars++[s]) y]
   | l=>.mk k n s o b c l
  else .mk k n s o b c (resAL fs vars l)
def resAL (fs:List (List UInt8)):List (List UInt8)→List An→List An
 | _,[]=>[]
 | vars,a::l=>resA fs vars a::resAL fs vars l
end
theorem JaR (fs vars:List (List UInt8)) (l:List An):resAL fs vars l=l.map (resA fs vars):=by
 induction l with
 | nil=>simp[resAL]
 | cons a l ih=>simp[resAL,ih]
theorem K2 (fs vars:List (List UInt8)) (k n:Int) (s:List UInt8) (o:Int) (l:List Nd):resN fs vars (.mk k n s o l) =
  if k=2 then (.mk k (lastIx vars s) [] o (resL fs vars l).1,(if lastIx vars s<0 then [o] else [])++(resL fs vars l).2)
  else if k=20 then (.mk k ((firstIx fs s).getD 0:Nat) [] o (resL fs vars l).1,(if (firstIx fs s).isNone then [o] else [])++(resL fs vars l).2)
  else if k=19 then
   match l with
   | [a,b]=>(.mk k vars.length [] o [(resN fs vars a).1,(resN fs (vars++[s]) b).1],(resN fs vars a).2++(resN fs (vars++[s]) b).2)
   | l=>(.mk k n s o l,[])
  else (.mk k n s o (resL fs vars l).1,(resL fs vars l).2):=by
 conv=>lhs; unfold resN
 rfl
mutual
theorem YN (fs:List (List UInt8)):∀ (vars:List (List UInt8)) (a:An),(resA fs vars a).nd=(resN fs vars a.nd).1
 | vars,.mk k n s o b c l=>by
  rw[An.nd,K2];unfold resA;split
  ·rw[An.nd,Yj]
  ·split
   ·rw[An.nd,Yj]
   ·split
    ·match l with
     | []=>simp[An.nd,ndL]
     | [x]=>simp[An.nd,ndL]
     | [x,y]=>simp only[An.nd,ndL,YN fs vars x,YN fs (vars++[s]) y]
     | x::y::z::r=>simp[An.nd,ndL]
    ·rw[An.nd,Yj]
theorem Yj (fs:List (List UInt8)):∀ (vars:List (List UInt8)) (l:List An),ndL (resAL fs vars l)=(resL fs vars (ndL l)).1
 | vars,[]=>by simp[resAL,ndL,resL]
 | vars,a::l=>by simp only[resAL,ndL,resL,YN fs vars a,Yj fs vars l]
end
mutual
theorem JY (fs:List (List UInt8)):∀ (vars:List (List UInt8)) (a:An),foot (resA fs vars a)=foot a
 | vars,.mk k n s o b c l=>by
  unfold resA;split
  ·cases l with
   | nil=>simp[resAL,foot]
   | cons x r=>simp only[resAL,foot,JY fs vars x,Vg fs vars r]
  ·split
   ·cases l with
    | nil=>simp[resAL,foot]
    | cons x r=>simp only[resAL,foot,JY fs vars x,Vg fs vars r]
   ·split
    ·match l with
     | []=>rfl
     | [x]=>rfl
     | [x,y]=>simp only[foot,footL,JY fs vars x,JY fs (vars++[s]) y]
     | x::y::z::r=>rfl
    ·cases l with
     | nil=>simp[resAL,foot]
     | cons x r=>simp only[resAL,foot,JY fs vars x,Vg fs vars r]
theorem Vg (fs:List (List UInt8)):∀ (vars:List (List UInt8)) (l:List An),footL (resAL fs vars l)=footL l
 | vars,[]=>by simp[resAL,footL]
 | vars,a::l=>by simp only[resAL,footL,JY fs vars a,Vg fs vars l]
end
theorem JcR (fs vars:List (List UInt8)):∀ (l:List Nd) (a:Nd),(resL fs vars (l++[a])).2=(resL fs vars l).2++(resN fs vars a).2
 | [],a=>by simp[resL]
 | x::l,a=>by simp only[List.cons_append,resL,JcR fs vars l a,List.append_assoc]
def VarsAt (W:World) (vv:Value) (vars:List (List UInt8)) (g:Nat):Prop:=
 ∃ ad cc,vv=.slice ad vars.length cc∧(vars.length≤cc∧(vars=[]→ad=none∧cc=0))∧(vars≠[]→ad=some ⟨g,0,none⟩∧∀ i s,vars[i]?=some s→W.cell? ⟨g,i,none⟩=some (.string (bs s)))
theorem VarsAt.chgC {P:Nat→Nat→Prop} {W W':World} {vv:Value} {vars:List (List UInt8)} {g:Nat} (h:VarsAt W vv vars g) (hc:ChgC P W W') (hp:vars≠[]→∀ j,¬ P g j):VarsAt W' vv vars g:=by
 obtain ⟨ad,cc,h1,h2,h3⟩:=h;refine ⟨ad,cc,h1,h2,fun hne=>⟨(h3 hne).1,fun i s hs=>?_⟩⟩;have:=(h3 hne).2 i s hs;exact (hc.cell g i (World.block_lt_of_cell? W ⟨g,i,none⟩ this) (hp hne i)).trans this
theorem Zm (s:List UInt8):∀ (l:List (List UInt8)) (p:Int × Int),(l.foldl (fun (p:Int × Int) v=>(p.1+1,if v=s then p.1 else p.2)) p).1=p.1+l.length
 | [],p=>by simp
 | v::l,p=>by
  rw[List.foldl_cons,Zm s l];simp;omega
theorem YO (l:List (List UInt8)) (v s:List UInt8):lastIx (l++[v]) s=if v=s then (l.length:Int) else lastIx l s:=by
 unfold lastIx;rw[List.foldl_append];simp only[List.foldl_cons,List.foldl_nil];rw[Zm];simp
theorem Zn (s:List UInt8):lastIx [] s = -1:=rfl
theorem JbZ {vars:List (List UInt8)} {m:Nat} {v:List UInt8} (s:List UInt8) (h:vars[m]?=some v):lastIx (vars.take (m+1)) s=if v=s then (m:Int) else lastIx (vars.take m) s:=by
 have hlt:=(List.getElem?_eq_some_iff.1 h).1;rw[List.take_add_one,h];simp only[Option.toList_some];rw[YO,List.length_take,Nat.min_eq_left (by omega)]
theorem VC (s:List UInt8):∀ (n:Nat) (l:List (List UInt8)),l.length=n→-1≤lastIx l s∧lastIx l s<n
 | 0,l,h=>by
  obtain rfl:=List.eq_nil_of_length_eq_zero h;exact ⟨by rw[Zn]; omega,by rw[Zn]; omega⟩
 | n+1,l,h=>by
  rcases List.eq_nil_or_concat l with rfl | ⟨l',v,rfl⟩
  ·simp at h
  ·have hl:l'.length=n:=by simpa using h
   have:=VC s n l' hl;rw[List.concat_eq_append,YO];split <;> omega
mutual
def WfN:Nd→Prop
 | .mk k n s o l=>(k=19→l.length=2)∧(k=15→l.length=2)∧(k=18→l.length=3)∧s.length≤1000000∧WfL l
def WfL:List Nd→Prop
 | []=>True
 | a::l=>WfN a∧WfL l
end
theorem wx102 {P:Prop}(h:P:=by
  intro a ha
  rcases List.mem_cons.1 ha with rfl | ha
  ·exact h.1
  ·exact ih h.2 a ha):P:=h
theorem Z9 {l:List Nd} (h:WfL l):∀ a∈l,WfN a:=by
 induction l with
 | nil=>intro a ha; cases ha
 | cons x r ih=>
  unfold WfL at h;exact wx102
theorem JaS {W:World} {b:Nat}:∀ (l:List An) (i:Nat),(∀ m z,l[m]?=some z→(∀ j u,(cellsN z).toList[j]?=some u→W.cell? ⟨b,(i+m)*5+j,none⟩=some u)∧z.At W)→AtL W b i l
 | [],i,h=>by unfold AtL; trivial
 | a::l,i,h=>by
  unfold AtL;have h0:=h 0 a rfl;refine ⟨h0.1,h0.2,JaS l (i+1) fun m z hz=>?_⟩;have:=h (m+1) z (by simpa using hz);rw[show i+1+m=i+(m+1) by omega];exact this
theorem VX:∀ {l:List An} {i m:Nat} {y z:An} {q:Nat},(footL l).Nodup→l[i]?=some y→l[m]?=some z→i≠m→q∈foot z→q∉foot y
 | [],i,m,y,z,q,_,hy,_,_,_=>by cases hy
 | a::l,0,0,y,z,q,_,_,_,hne,_=>absurd rfl hne
 | a::l,0,m+1,y,z,q,hn,hy,hz,_,hq=>by
  unfold footL at hn;obtain rfl:a=y:=by simpa using hy
  have hz':q∈footL l:=Jz (List.mem_of_getElem? (by simpa using hz:l[m]?=some z)) q hq;intro h;exact (List.nodup_append.1 hn).2.2 q h q hz' rfl
 | a::l,i+1,0,y,z,q,hn,hy,hz,_,hq=>by
  unfold footL at hn;obtain rfl:a=z:=by simpa using hz
  intro h;have hy':q∈footL l:=Jz (List.mem_of_getElem? (by simpa using hy:l[i]?=some y)) q h;exact (List.nodup_append.1 hn).2.2 q hq q hy' rfl
 | a::l,i+1,m+1,y,z,q,hn,hy,hz,hne,hq=>by
  unfold footL at hn;exact VX (List.nodup_append.1 hn).2.1 (by simpa using hy:l[i]?=some y) (by simpa using hz:l[m]?=some z) (by omega) hq
def ResC (q o rb:Nat) (F:List Nat) (b j:Nat):Prop:=(b=q∧o≤j∧j<o+5)∨b∈F∨b=rb
structure ResPre (fs:List (List UInt8)) (rb:Nat) (t:TypeId) (mb mn:Nat) (W:World) (q o:Nat) (x:Option Int) (vv:Value) (vars:List (List UInt8)) (g:Nat) (a:An):Prop where
 node:NodeAt W q o a
 nod:(foot a).Nodup
 qf:q∉foot a
 rf:rb∉foot a∧rb≠q
 gf:vars≠[]→g∉foot a∧g≠q∧g≠rb
 mf:mb∉foot a∧mb≠q∧mb≠rb
 flt:FltAt W rb t x (.map (some mb))
 map:SMapAt W mb mn (fun s=>firstIx fs s)
 vars:VarsAt W vv vars g
 wf:WfN a.nd
def ResP (fs:List (List UInt8)) (rb:Nat) (t:TypeId) (mb:Nat) (w:World) (q o:Nat) (x:Option Int) (vars:List (List UInt8)) (a:An) (e:Ending) (w':World):Prop:=
 e=.returned (.tuple #[])∧NodeAt w' q o (resA fs vars a)∧FltAt w' rb t (addL x (resN fs vars a.nd).2) (.map (some mb))∧ChgC (ResC q o rb (foot a)) w w'
structure KidI (fs:List (List UInt8)) (rb:Nat) (t:TypeId) (mb mn:Nat) (w W:World) (q o:Nat) (x1:Option Int) (vv:Value) (vars:List (List UInt8)) (g b:Nat) (l:List An) (pc:Array Value) (i:Nat):Prop where
 par:∀ j u,pc.toList[j]?=some u→W.cell? ⟨q,o+j,none⟩=some u
 pfr:∀ j,W.frozen? ⟨q,j,none⟩=false
 kids:AtL W b 0 ((l.take i).map (resA fs vars)++l.drop i)
 kfr:l≠[]→∀ j,W.frozen? ⟨b,j,none⟩=false
 flt:FltAt W rb t (addL x1 (resL fs vars (ndL (l.take i))).2) (.map (some mb))
 map:SMapAt W mb mn (fun s=>firstIx fs s)
 vars:VarsAt W vv vars g
 chg:ChgC (ResC q o rb (if l=[] then [] else b::footL l)) w W
 lts:q<W.heap.size∧(l≠[]→b<W.heap.size)
structure Apart (q rb g mb b:Nat) (vars:List (List UInt8)) (l:List An):Prop where
 nod:(footL l).Nodup∧(l≠[]→b∉footL l)
 qa:q∉footL l∧(l≠[]→q≠b)
 ra:rb∉footL l∧(l≠[]→rb≠b)∧rb≠q
 ga:vars≠[]→g∉footL l∧(l≠[]→g≠b)∧g≠q∧g≠rb
 ma:mb∉footL l∧(l≠[]→mb≠b)∧mb≠q∧mb≠rb
theorem Kt (k n:Int) (s:List UInt8) (o:Int) (b c:Nat) (l:List An):foot (.mk k n s o b c l)=if l=[] then [] else b::footL l:=by
 cases l with
 | nil=>simp[foot]
 | cons x r=>simp[foot,footL]
theorem Yk {fs:List (List UInt8)} {rb:Nat} {t:TypeId} {mb mn:Nat} {W:World} {q o:Nat} {x:Option Int} {vv:Value} {vars:List (List UInt8)} {g:Nat} {k n:Int} {s:List UInt8} {off:Int} {b c:Nat} {l:List An} (h:ResPre fs rb t mb mn W q o x vv vars g (.mk k n s off b c l)):Apart q rb g mb b vars l:=by
 have h1:=h.nod; have h2:=h.qf; have h3:=h.rf; have h4:=h.gf; have h5:=h.mf;rw[Kt] at h1 h2 h3 h4 h5
 by_cases e:l=[]
 ·subst e;exact ⟨by simp[footL],by simp[footL],by simpa[footL] using h3,fun hv=>by simpa[footL] using h4 hv,by simpa[footL] using h5⟩
 ·rw[if_neg e] at h1 h2 h3 h4 h5;simp only[List.nodup_cons,List.mem_cons,not_or] at h1 h2 h3 h4 h5;exact ⟨⟨h1.2,fun _=>h1.1⟩,⟨h2.2,fun _=>h2.1⟩,⟨h3.1.2,fun _=>h3.1.1,h3.2⟩,fun hv=>⟨(h4 hv).1.2,fun _=>(h4 hv).1.1,(h4 hv).2⟩,⟨h5.1.2,fun _=>h5.1.1,h5.2⟩⟩
section
variable {fs:List (List UInt8)} {rb:Nat} {t:TypeId} {mb mn:Nat} {w W W':World} {q o:Nat} {x1:Option Int} {vv:Value} {vars:List (List UInt8)} {g b:Nat} {l:List An} {pc:Array Value} {i:Nat}
theorem KidI.pre {y:An} (h:KidI fs rb t mb mn w W q o x1 vv vars g b l pc i) (hA:Apart q rb g mb b vars l) (hy:l[i]?=some y) (hw:WfL (ndL l)):ResPre fs rb t mb mn W b (i*5) (addL x1 (resL fs vars (ndL (l.take i))).2) vv vars g y:=by
 have hne:l≠[]:=by intro e; rw[e] at hy; cases hy
 have hlt:=(List.getElem?_eq_some_iff.1 hy).1;have hmem:=List.mem_of_getElem? hy;have hsub:=fun q hq=>Jz hmem q hq
 have hget:((l.take i).map (resA fs vars)++l.drop i)[i]?=some y:=by
  rw[List.getElem?_append_right (by simp; omega)];simp[Nat.min_eq_left (Nat.le_of_lt hlt),hy]
 obtain ⟨k1,k2⟩:=JO h.kids hget;rw[Nat.zero_add] at k1;refine ⟨⟨k1,h.kfr hne,k2⟩,?_,fun hm=>hA.nod.2 hne (hsub _ hm),⟨fun hm=>hA.ra.1 (hsub _ hm),hA.ra.2.1 hne⟩,fun hv=>⟨fun hm=>(hA.ga hv).1 (hsub _ hm),(hA.ga hv).2.1 hne,(hA.ga hv).2.2.2⟩,⟨fun hm=>hA.ma.1 (hsub _ hm),hA.ma.2.1 hne,hA.ma.2.2.2⟩,h.flt,h.map,h.vars,Z9 hw _ (by rw[J7]; exact List.mem_map.2 ⟨y,hmem,rfl⟩)⟩;have hnd:=hA.nod.1;clear h hA hw hne hlt hsub hget k1 k2
 induction l generalizing i with
 | nil=>cases hmem
 | cons a r ih=>
  unfold footL at hnd
  rcases List.mem_cons.1 hmem with rfl | hm
  ·exact (List.nodup_append.1 hnd).1
  ·obtain ⟨m,hm'⟩:=List.getElem?_of_mem hm;exact ih hm' hm (List.nodup_append.1 hnd).2.1
theorem wx106 {P:Prop}(h:P:=by
  rcases hj with ⟨e,_⟩ | hj | e
  ·exact .inr (.inl (by rw[e]; simp))
  ·exact .inr (.inl (List.mem_cons_of_mem _ (hsub _ hj)))
  ·exact .inr (.inr e)):P:=h
theorem KidI.step {y:An} {e:Ending} (h:KidI fs rb t mb mn w W q o x1 vv vars g b l pc i) (hA:Apart q rb g mb b vars l) (hy:l[i]?=some y) (hr:ResP fs rb t mb W b (i*5) (addL x1 (resL fs vars (ndL (l.take i))).2) vars y e W'):KidI fs rb t mb mn w W' q o x1 vv vars g b l pc (i+1):=by
 obtain ⟨_,hn,hf,hc⟩:=hr;have hne:l≠[]:=by intro e; rw[e] at hy; cases hy
 have hlt:=(List.getElem?_eq_some_iff.1 hy).1;have hmem:=List.mem_of_getElem? hy;have hsub:=fun q hq=>Jz hmem q hq
 have hq:∀ j,¬ ResC b (i*5) rb (foot y) q j:=fun j hj=>by
  rcases hj with ⟨e,_⟩ | hj | e
  ·exact hA.qa.2 hne e
  ·exact hA.qa.1 (hsub _ hj)
  ·exact hA.ra.2.2 e.symm
 have htk:l.take (i+1)=l.take i++[y]:=by rw[List.take_add_one,hy]; rfl
 have hget:∀ m z,((l.take (i+1)).map (resA fs vars)++l.drop (i+1))[m]?=some z→(m=i∧z=resA fs vars y)∨(m≠i∧((l.take i).map (resA fs vars)++l.drop i)[m]?=some z∧∃ z0,l[m]?=some z0∧foot z=foot z0):=by
  intro m z hz
  by_cases hm:m<i
  ·rw[List.getElem?_append_left (by simp; omega),List.getElem?_map,List.getElem?_take_of_lt (by omega)] at hz;obtain ⟨z0,h0,rfl⟩:=Option.map_eq_some_iff.1 hz;refine .inr ⟨by omega,?_,z0,h0,JY fs vars z0⟩;rw[List.getElem?_append_left (by simp; omega),List.getElem?_map,List.getElem?_take_of_lt hm,h0];rfl
  ·by_cases he:m=i
   ·subst he;rw[List.getElem?_append_left (by simp; omega),List.getElem?_map,List.getElem?_take_of_lt (by omega),hy] at hz;exact .inl ⟨rfl,by simpa using hz.symm⟩
   ·rw[List.getElem?_append_right (by simp; omega)] at hz;simp only[List.length_map,List.length_take,Nat.min_eq_left (show i+1≤l.length by omega),List.getElem?_drop] at hz;rw[show i+1+(m-(i+1))=m by omega] at hz;refine .inr ⟨he,?_,z,hz,rfl⟩;rw[List.getElem?_append_right (by simp; omega)];simp only[List.length_map,List.length_take,Nat.min_eq_left (Nat.le_of_lt hlt),List.getElem?_drop];rw[show i+(m-i)=m by omega];exact hz
 have hbl:=h.lts.2 hne;refine ⟨fun j u hj=>?_,fun j=>(hc.frz q j h.lts.1).trans (h.pfr j),?_,fun _ j=>(hc.frz b j hbl).trans (h.kfr hne j),?_,h.map.same (hc.block mb h.map.lt fun j hj=>?_),h.vars.chgC hc (fun hv j hj=>?_),h.chg.step hc (fun c j hj=>.inl ?_),⟨Nat.lt_of_lt_of_le h.lts.1 hc.size,fun _=>Nat.lt_of_lt_of_le hbl hc.size⟩⟩
 ·exact (hc.cell q (o+j) h.lts.1 (hq _)).trans (h.par j u hj)
 ·refine JaS _ 0 fun m z hz=>?_
  rw[Nat.zero_add]
  rcases hget m z hz with ⟨rfl,rfl⟩ | ⟨hmi,hz',z0,hz0,hfz⟩
  ·exact ⟨hn.cells,hn.at'⟩
  ·obtain ⟨k1,k2⟩:=JO h.kids hz';rw[Nat.zero_add] at k1;refine ⟨fun j u hj=>?_,VW hc z k2 fun c hcf j hj=>?_⟩
   ·have hj5:j<5:=by have:=(List.getElem?_eq_some_iff.1 hj).1; rw[Array.length_toList,JV] at this; exact this
    refine (hc.cell b (m*5+j) hbl fun hp=>?_).trans (k1 j u hj)
    rcases hp with ⟨_,h1,h2⟩ | h1 | h1
    ·rcases Nat.lt_or_gt_of_ne hmi with h3 | h3
     ·have:(m+1)*5≤i*5:=Nat.mul_le_mul_right 5 h3;omega
     ·have:(i+1)*5≤m*5:=Nat.mul_le_mul_right 5 h3;omega
    ·exact hA.nod.2 hne (hsub _ h1)
    ·exact hA.ra.2.1 hne h1.symm
   ·rw[hfz] at hcf;have hcl:c∈footL l:=Jz (List.mem_of_getElem? hz0) c hcf
    rcases hj with ⟨e,_⟩ | hj | e
    ·subst e; exact hA.nod.2 hne hcl
    ·exact VX hA.nod.1 hy hz0 (Ne.symm hmi) hcf hj
    ·subst e; exact hA.ra.1 hcl
 ·rw[htk,KL,JcR,Jt];exact hf
 ·rcases hj with ⟨e,_⟩ | hj | e
  ·exact hA.ma.2.1 hne e
  ·exact hA.ma.1 (hsub _ hj)
  ·exact hA.ma.2.2.2 e
 ·rcases hj with ⟨e,_⟩ | hj | e
  ·exact (hA.ga hv).2.1 hne e
  ·exact (hA.ga hv).1 (hsub _ hj)
  ·exact (hA.ga hv).2.2.2 e
 ·rw[if_neg hne];exact wx106
theorem KidI.done {k n:Int} {s:List UInt8} {off:Int} {c:Nat} (h:KidI fs rb t mb mn w W q o x1 vv vars g b l pc l.length) (hp:pc=cellsN (.mk k n s off b c (resAL fs vars l))):NodeAt W q o (.mk k n s off b c (resAL fs vars l))∧FltAt W rb t (addL x1 (resL fs vars (ndL l)).2) (.map (some mb))∧ChgC (ResC q o rb (if l=[] then [] else b::footL l)) w W:=by
 refine ⟨⟨by rw[← hp]; exact h.par,h.pfr,?_⟩,?_,h.chg⟩
 ·have:=h.kids;rw[List.take_length,List.drop_length,List.append_nil,← JaR] at this;unfold An.At;refine ⟨fun hne j=>h.kfr (fun e=>hne (by rw[e]; rfl)) j,this⟩
 ·have:=h.flt;rw[List.take_length] at this;exact this
theorem KidI.start {k n:Int} {s:List UInt8} {off:Int} {c:Nat} (hn:NodeAt W q o (.mk k n s off b c l)) (hp:pc=cellsN (.mk k n s off b c l)) (hf:FltAt W rb t x1 (.map (some mb))) (hm:SMapAt W mb mn (fun s=>firstIx fs s)) (hv:VarsAt W vv vars g) (hc:ChgC (ResC q o rb (if l=[] then [] else b::footL l)) w W):KidI fs rb t mb mn w W q o x1 vv vars g b l pc 0:=by
 have hat:=hn.at';unfold An.At at hat;have hq:q<W.heap.size:=World.block_lt_of_cell? (a:=⟨q,o+0,none⟩) W (hn.cells 0 (.int .i64 k) rfl);refine ⟨by rw[hp]; exact hn.cells,hn.frz,by simpa using hat.2,hat.1,by simpa[ndL,resL,addL] using hf,hm,hv,hc,hq,fun hne=>?_⟩
 cases l with
 | nil=>exact absurd rfl hne
 | cons x r=>
  have h2:=hat.2;unfold AtL at h2;obtain ⟨xA,xn,xc,hcf⟩:=Jg x;exact World.block_lt_of_cell? (a:=⟨b,0*5+0,none⟩) W (h2.1 0 (.int .i64 x.kind) (by rw[hcf]; rfl))
theorem NodeAt.head {k n:Int} {s:List UInt8} {off:Int} {c:Nat} (h:NodeAt W q o (.mk k n s off b c l)) (hq:q∉(if l=[] then [] else b::footL l)) (n':Int) (s':List UInt8) (hc:∀ j u,(#[.int .i64 k,.int .i64 n',.string (bs s'),.int .i64 off,kidsV b c l]:Array Value).toList[j]?=some u→W'.cell? ⟨q,o+j,none⟩=some u) (hg:ChgC (fun c j=>c=q) W W'):NodeAt W' q o (.mk k n' s' off b c l):=by
 have hql:q<W.heap.size:=World.block_lt_of_cell? (a:=⟨q,o+0,none⟩) W (h.cells 0 (.int .i64 k) rfl)
 have hat:(An.mk k n s off b c l).At W':=VW hg _ h.at' fun d hd j e=>by
  rw[Kt] at hd;rw[e] at hd;exact hq hd
 exact ⟨hc,fun j=>(hg.frz q j hql).trans (h.frz j),hat⟩
end
end Go.Proofs.YtncanmdgdflnpaaGreatDoor
