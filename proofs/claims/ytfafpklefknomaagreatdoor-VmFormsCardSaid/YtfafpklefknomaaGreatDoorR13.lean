import Derived.Maps.Own
import Derived.Maps.OwnSet
import Derived.Maps.Views
import Derived.Maps.Keyed
import Derived.StringKeys
import Derived.Test.YtfafpklefknomaaGreatDoorR02
import Derived.Test.YtfafpklefknomaaGreatDoorR12
open List(getElem?_map mem_of_getElem?)
open Nat(le_trans lt_of_lt_of_le)
namespace Go.Proofs.YtfafpklefknomaaGreatDoor
open Go.ChangeShapes Go.WideShapes Go.ChangeAt Go.RowKit Go.Lib
open _root_.Go.Proofs.Tryz
set_option linter.all false
set_option maxRecDepth 100000
set_option maxHeartbeats 32000000
def Jhe{w w':World}{base n e size:Nat}{v:Value}{xs:List Value}(h:w.ownsRow base e size v n xs)(hb:Below w.heap.size w w'):w'.ownsRow base e size v n xs:=JA h (Chg.of_below hb []) zq
def JeP{w:World}{base e size n:Nat}{v:Value}{xs:List Value}(h:w.ownsRow base e size v n xs):∀k,v.ownBlock=some k->base<=k:=λk hk=>(h.lt k hk).1
def Value.blk(v:Value):Nat:=v.ownBlock.getD 0
def Vr{w:World}{base e size n:Nat}{v:Value}{xs:List Value}(h:w.ownsRow base e size v n xs):∃ad cc,v=.slice ad n cc/\(0<n->ad=some ⟨Value.blk v,0,none⟩):=by
 rcases h.2 with⟨rfl,rfl⟩|⟨g,cap,cur,rfl,_⟩
 ·exact⟨none,0,rfl,λh=>absurd h zo⟩
 ·exact⟨_,cap,rfl,λ_=>rfl⟩
def K3(w:World)(cs:Array Value)(e:TypeId)(j:Nat):(w.alloc (.cells cs e)).cell? ((⟨w.heap.size,0,none⟩:Addr).add j)=cs[j]?:=by
 exact Qib
def Qem(g size off n:Nat):List Value:=(List.range n).map λi=>.pointer (some ⟨g,i*size+off,none⟩)
def Jcu(g size off n:Nat):Qem g size off (n+1)=Qem g size off n++[.pointer (some ⟨g,n*size+off,none⟩)]:=by simp[Qem,List.range_succ]
def QgD:(prog.info? 158).map (λi=>(i.zero,i.size,i.bytes))=some (some (.pointer none),1,8):=zk
def QeW(w:World)(S:Qap)(e:Ending)(w':World):Prop:=
 ∃v,e=.returned v/\w'.ownsRow w.heap.size 158 1 v (S.funcs.length+S.clauses.length) (Qem (Value.blk S.fv) 10 5 S.funcs.length++Qem (Value.blk S.cv) 7 0 S.clauses.length)/\Below w.heap.size w w'
def Jhf(w:World)(sb:Nat)(S:Qap)(h:QaH w sb S)(h1:S.funcs.length<=100000000)(h2:S.clauses.length<=100000000):Calls prog 94 #[Pt sb] w (QeW w S):=by
 obtain⟨R,hR⟩:∃R,QeW w S=R:=⟨_,rfl⟩
 rw[hR];have HR:Hi (R=QeW w S):=hR.symm;have HB:=Zh h.box;obtain⟨fa,fc,yA,bA⟩:=Vr h.fown;obtain⟨ca,cc,vA,dA⟩:=Vr h.cown;have xA:=Zh bA;have uA:=Zh dA;obtain⟨fs,cs,act,fv,cv⟩:=S;dsimp only at yA vA h1 h2 HB xA uA;generalize cA:Value.blk fv=fb at *;generalize hcb:Value.blk cv=cb at *;have HFB:=Zh cA;have HCB:=Zh hcb;rw[yA,vA]at HB;generalize gA:fs.length=nf at *;generalize jA:cs.length=nc at *;have mA:=Zh gA;have kA:=Zh jA;clear h hR bA dA cA hcb yA vA gA jA;obtain⟨i0,hi,eA,hA,iA⟩:=info_parts QgD;have HI:=Zh hi;clear hi;have b0:=Ja HB.o 0;have b1:=Ja HB.o 1;simp only[zW]at b0 b1;go_enter func94,ntmps94;go_wp2_with fail;go_loopg [3,11] nf λg v3 v11 wr=>∃i:Nat,g+i=nf/\v11=Iv i/\Hi (wr.ownsRow w.heap.size 158 1 v3 i (Qem fb 10 5 i))/\Hi (Below w.heap.size w wr)
 case atStart=>exact⟨0,rfl,rfl,World.ownsRow_nil _ _ _ _,zO⟩
 case round=>
 clear b0 b1;obtain⟨wl,rfl⟩:=zJ wr;obtain⟨i,hg,rfl,ho,hw⟩:=hrel;have hbx:=(hw.o.block _ (Jb HB.o)).trans HB.o;have b0:=Ja hbx 0;have b1:=Ja hbx 1;simp only[zW]at b0 b1
 by_cases hil:i<nf
 ·have hl:(i:Int)<(nf:Int):=zo;have aA:fa=some ⟨fb,0,none⟩:=xA.o zo;obtain⟨va,vn,vc,zA⟩:=Jk ho.o;subst zA;have wk:=zI i;have HG:=Zh hg;subst aA;clear xA hg hbx;go_wp2_with (at_builtin;refine wpList_append_own _ rfl _ _ 156 rfl w.heap.size 158 i0 (.pointer none) 1 8 underlying156 HI.o eA hA iA rfl zp _ _ _ rfl (ho.o.alloc _) ⟨wl.heap.size,0,none⟩ 1 1 [.pointer (some ⟨fb,i*10+5,none⟩)] rfl rfl ?c1 ?c2 ?c3 ?c4 ?c5 ?_)
  case c1=>
   intro j u hj;rw[K3];simpa using hj
  case c2=>intro u hu;simp at hu;subst hu;rfl
  case c3=>unfold maxLen;omega
  case c4=>omega
  case c5=>simp;exact le_trans hw.o.size zo
  intro v' w' hown' hgrow _;have hb1:=(hw.o.alloc hw.o.size (.cells #[.pointer (some ⟨fb,i*10+5,none⟩)] 158))
  have HW:=Zh (hb1.grown hgrow (by simp;exact le_trans hw.o.size zo) (JeP ho.o));rw[<- Jcu]at hown';have HO:=Zh hown';clear hown' hgrow hb1 ho hw;go_wp2;go_roundg (nf-(i+1))
  case measure=>have:=HG.o;omega
  case rel=>exact⟨i+1,by omega,by go_num,HO,HW⟩
 ·have hl:¬(i:Int)<(nf:Int):=zo;obtain rfl:i=nf:=zo;have HO:=Zh ho.o;have HW:=Zh hw.o;have nA:True:=trivial;clear hil hbx hg ho hw b0 xA;go_wp2_with fail;go_loopg [3,30] nc λg v3 v30 wr=>∃j:Nat,g+j=nc/\v30=Iv j/\Hi (wr.ownsRow w.heap.size 158 1 v3 (i+j) (Qem fb 10 5 i++Qem cb 7 0 j))/\Hi (Below w.heap.size w wr)
  case atStart=>exact⟨0,rfl,rfl,by simpa[Qem,Hi] using HO.o,HW⟩
  case round=>
  clear b1 HO HW;obtain⟨wm,rfl⟩:=zJ wr;obtain⟨j,hg,rfl,ho,hw⟩:=hrel;have hbx:=(hw.o.block _ (Jb HB.o)).trans HB.o;have b1:=Ja hbx 1;simp only[zW]at b1
  by_cases hjl:j<nc
  ·have hl:(j:Int)<(nc:Int):=zo;have aA:ca=some ⟨cb,0,none⟩:=uA.o zo;obtain⟨va,vn,vc,zA⟩:=Jk ho.o;subst zA;have wk:=zI j;have HG:=Zh hg;subst aA;clear uA hg hbx;go_wp2_with (at_builtin;refine wpList_append_own _ rfl _ _ 156 rfl w.heap.size 158 i0 (.pointer none) 1 8 underlying156 HI.o eA hA iA rfl zp _ _ _ rfl (ho.o.alloc _) ⟨wm.heap.size,0,none⟩ 1 1 [.pointer (some ⟨cb,j*7,none⟩)] rfl rfl ?c1 ?c2 ?c3 ?c4 ?c5 ?_)
   case c1=>
    intro j u hj;rw[K3];simpa using hj
   case c2=>intro u hu;simp at hu;subst hu;rfl
   case c3=>unfold maxLen;omega
   case c4=>omega
   case c5=>simp;exact le_trans hw.o.size zo
   intro v' w' hown' hgrow _;have hb1:=(hw.o.alloc hw.o.size (.cells #[.pointer (some ⟨cb,j*7,none⟩)] 158))
   have HW:=Zh (hb1.grown hgrow (by simp;exact le_trans hw.o.size zo) (JeP ho.o));rw[show Qem cb 7 0 j++[Value.pointer (some ⟨cb,j*7,none⟩)]=Qem cb 7 0 (j+1) by rw[Jcu,Nat.add_zero]]at hown';have HO:=Zh hown';clear hown' hgrow hb1 ho hw;go_wp2;go_roundg (nc-(j+1))
   case measure=>have:=HG.o;omega
   case rel=>exact⟨j+1,by omega,by go_num,HO,HW⟩
  ·have hl:¬(j:Int)<(nc:Int):=zo;obtain rfl:j=nc:=zo;clear b1 hbx hg hjl;go_wp2;rw[HR.o];refine⟨_,rfl,?_,hw.o⟩;simp only[mA.o,kA.o,HFB.o,HCB.o];exact ho.o
def QcI(g:Nat):Nat->List FnA->List (Addr × An)
 |_,[]=>[]
 |i,f::l=>(⟨g,i*10+5,none⟩,f.body)::QcI g (i+1) l
def QcJ(g:Nat):Nat->List ClA->List (Addr × An)
 |_,[]=>[]
 |i,c::l=>(⟨g,i*7,none⟩,c.cond)::QcJ g (i+1) l
def Qap.rootsA(S:Qap):List (Addr × An):=QcI (Value.blk S.fv) 0 S.funcs++QcJ (Value.blk S.cv) 0 S.clauses
def YO(g:Nat):∀(l:List FnA) (i j:Nat),(QcI g i l)[j]?=l[j]?.map λf=>(⟨g,(i+j)*10+5,none⟩,f.body)
 |[],i,j=>by simp[QcI]
 |f::l,i,0=>by simp[QcI]
 |f::l,i,j+1=>by
  simp only[QcI,List.getElem?_cons_succ];rw[YO g l (i+1) j,show i+1+j=i+(j+1) by omega]
def YP(g:Nat):∀(l:List ClA) (i j:Nat),(QcJ g i l)[j]?=l[j]?.map λc=>(⟨g,(i+j)*7,none⟩,c.cond)
 |[],i,j=>by simp[QcJ]
 |f::l,i,0=>by simp[QcJ]
 |f::l,i,j+1=>by
  simp only[QcJ,List.getElem?_cons_succ];rw[YP g l (i+1) j,show i+1+j=i+(j+1) by omega]
def Yo(g:Nat):∀(l:List FnA) (i:Nat),(QcI g i l).length=l.length
 |[],i=>rfl
 |f::l,i=>by simp[QcI,Yo g l]
def Yp(g:Nat):∀(l:List ClA) (i:Nat),(QcJ g i l).length=l.length
 |[],i=>rfl
 |f::l,i=>by simp[QcJ,Yp g l]
def JeQ(g size off n j:Nat):(Qem g size off n)[j]?=if j<n then some (.pointer (some ⟨g,j*size+off,none⟩)) else none:=by
 unfold Qem;rw[getElem?_map]
 by_cases h:j<n
 ·rw[if_pos h,List.getElem?_range h];rfl
 ·rw[if_neg h,List.getElem?_eq_none zr];rfl
theorem Qho{P:Prop}(h:P:=by
  by_cases h:j<l.length
  ·rw[if_pos h,List.getElem?_eq_getElem h];simp
  ·rw[if_neg h,List.getElem?_eq_none (by omega)];rfl):P:=h
def JdL(g:Nat)(l:List FnA):(QcI g 0 l).map (λr=>Value.pointer (some r.1))=Qem g 10 5 l.length:=by
 refine List.ext_getElem? λj=>?_
 rw[getElem?_map,YO,JeQ];exact Qho
def JdM(g:Nat)(l:List ClA):(QcJ g 0 l).map (λr=>Value.pointer (some r.1))=Qem g 7 0 l.length:=by
 refine List.ext_getElem? λj=>?_
 rw[getElem?_map,YP,JeQ];exact Qho
def JfU(S:Qap):S.rootsA.map (λr=>Value.pointer (some r.1))=Qem (Value.blk S.fv) 10 5 S.funcs.length++Qem (Value.blk S.cv) 7 0 S.clauses.length:=by
 unfold Qap.rootsA;rw[List.map_append,JdL,JdM]
def Jcv(g:Nat):∀(l:List FnA) (i:Nat),(QcI g i l).map (λr=>r.2.nd)=(l.map FnA.src).map (·.body)
 |[],i=>rfl
 |f::l,i=>by simp[QcI,Jcv g l,FnA.src]
def Jcw(g:Nat):∀(l:List ClA) (i:Nat),(QcJ g i l).map (λr=>r.2.nd)=(l.map ClA.src).map (·.cond)
 |[],i=>rfl
 |f::l,i=>by simp[QcJ,Jcw g l,ClA.src]
def JeR(S:Qap):S.rootsA.map (λr=>r.2.nd)=S.src.roots:=by
 unfold Qap.rootsA Src.roots Qap.src;rw[List.map_append,Jcv,Jcw]
def Kq{α:Type}{cells:α->List Value}{size:Nat}(hs:∀x,(cells x).length=size):∀(l:List α) (i j:Nat) (x:α) (u:Value),l[i]?=some x->(cells x)[j]?=some u->(l.flatMap cells)[i*size+j]?=some u
 |[],i,j,x,u,h,hj=>by cases h
 |a::l,0,j,x,u,h,hj=>by
  obtain rfl:a=x:=by simpa using h
  have hlt:=(List.getElem?_eq_some_iff.1 hj).1;rw[List.flatMap_cons,Nat.zero_mul,Nat.zero_add,List.getElem?_append_left hlt];exact hj
 |a::l,i+1,j,x,u,h,hj=>by
  rw[List.flatMap_cons,List.getElem?_append_right (by rw[hs,Nat.succ_mul];omega),hs,show (i+1)*size+j-size=i*size+j by rw[Nat.succ_mul];omega];exact Kq hs l i j x u (by simpa using h) hj
def J0{W:World}{base e size n:Nat}{v:Value}{xs:List Value}(h:W.ownsRow base e size v n xs){j:Nat}{u:Value}(hj:xs[j]?=some u):W.cell? ⟨Value.blk v,j,none⟩=some u:=by
 rcases h.2 with⟨rfl,rfl⟩|⟨g,cap,cur,rfl,_⟩
 ·have:=h.1;rw[Nat.zero_mul]at this;rw[List.eq_nil_of_length_eq_zero this]at hj
  cases hj
 ·have:=h.cells (g:=g) rfl j u hj;rw[show (⟨g,0,none⟩:Addr).add j=⟨g,j,none⟩ by unfold Addr.add;split<;>simp_all]at this;exact this
def FnA.cells_length(f:FnA):f.cells.length=10:=by simp[FnA.cells,J3]
def ClA.cells_length(c:ClA):c.cells.length=7:=by simp[ClA.cells,J3]
def QeX(W:World)(r:Addr × An):Prop:=r.1.spot=none/\(∀j u,(Qaa r.2).toList[j]?=some u->W.cell? ⟨r.1.block,r.1.off+j,none⟩=some u)/\r.2.At W
def QeX.below{W W':World}{r:Addr × An}(h:QeX W r)(hb:Below W.heap.size W W'):QeX W' r:=
 ⟨h.1,λj u hj=>(hb.cell (World.block_lt_of_cell? _ _ (h.2.1 j u hj))).trans (h.2.1 j u hj),Jct h.2.2 hb⟩
def JjI{W:World}{sb:Nat}{S:Qap}(h:QaH W sb S):∀r∈S.rootsA,QeX W r:=by
 intro r hr
 rcases List.mem_append.1 hr with hr|hr
 ·obtain⟨i,hi⟩:=List.getElem?_of_mem hr;rw[YO]at hi;obtain⟨f,hf,rfl⟩:=Option.map_eq_some_iff.1 hi;refine⟨rfl,λj u hj=>?_,(h.fok f (List.mem_of_getElem? hf)).1.bat⟩
  have h1:f.cells[5+j]?=some u:=by
   unfold FnA.cells;rw[List.getElem?_append_right zq];simpa using hj
  have:=J0 h.fown (Kq FnA.cells_length S.funcs i (5+j) f u hf h1);rw[<- Nat.add_assoc]at this;simpa using this
 ·obtain⟨i,hi⟩:=List.getElem?_of_mem hr;rw[YP]at hi;obtain⟨c,hf,rfl⟩:=Option.map_eq_some_iff.1 hi;refine⟨rfl,λj u hj=>?_,(h.cok c (List.mem_of_getElem? hf)).1.at'⟩
  have h1:c.cells[j]?=some u:=by
   unfold ClA.cells;rw[List.getElem?_append_left (List.getElem?_eq_some_iff.1 hj).1];exact hj
  have:=J0 h.cown (Kq ClA.cells_length S.clauses i j c u hf h1);simpa using this
def Qff(er o:Int):Value:=.iface 88 (.agg #[Iv er,Iv o])
def Qgn(w:World)(er:Int)(x:Option Int)(e:Ending)(w':World):Prop:=
 match x with
 |none=>e=.returned (.tuple #[])/\Below w.heap.size w w'
 |some o=>e=.panicked [{ v:=Qff er o,recovered:=false }]/\Below w.heap.size w w'
def JfV{l:List (Addr × An)}{i:Nat}{r:Addr × An}(h:l[i]?=some r):(((l.drop i).map λr=>r.2.nd).find? λn=>decide (40<Qag n))=if 40<Qag r.2.nd then some r.2.nd else ((l.drop (i+1)).map λr=>r.2.nd).find? (λn=>decide (40<Qag n)):=by
 rw[List.drop_eq_getElem_cons (List.getElem?_eq_some_iff.1 h).1,(List.getElem?_eq_some_iff.1 h).2,List.map_cons,List.find?_cons]
 by_cases hn:40<Qag r.2.nd
 ·rw[if_pos hn];simp[hn]
 ·rw[if_neg hn];simp[hn]
def Jhg(w:World)(sb:Nat)(S:Qap)(h:QaH w sb S)(h1:S.funcs.length<=100000000)(h2:S.clauses.length<=100000000)(h3:∀r∈S.rootsA,siz r.2.nd<=1000000000):Calls prog 35 #[Pt sb] w (Qgn w 7 (QbN S.src)):=by
 have cr:=Jhf w sb S h h1 h2;obtain⟨X,hX⟩:∃X,QbN S.src=X:=⟨_,rfl⟩
 rw[hX];obtain⟨R,hR⟩:∃R,Qgn w 7 X=R:=⟨_,rfl⟩
 rw[hR];have HR:Hi (R=Qgn w 7 X):=hR.symm;have gA:=JjI h;unfold QeW at cr;rw[<- JfU]at cr;have uA:S.funcs.length+S.clauses.length=S.rootsA.length:=by unfold Qap.rootsA;rw[List.length_append,Yo,Yp]
 have pA:S.rootsA.length<=200000000:=zo;rw[uA]at cr;unfold QbN at hX;rw[<- JeR]at hX;generalize S.rootsA=L at *;have HX:=Zh hX;have mA:=Zh gA;have HSZ:=Zh h3;clear h hR hX gA h1 h2 h3 uA;go_enter func35,ntmps35;go_wp2_with fail;refine cr.mono ?_;rintro e w1 ⟨v,rfl,zA,hb1⟩;obtain⟨ad,cc,hv,vA⟩:=Vr zA;have HOW:=Zh zA;have HAD:=Zh vA;have kA:Hi (∃b,b=Value.blk v):=⟨_,rfl⟩
 generalize eA:Value.blk v=vb at *;have jA:=Zh eA;subst hv;have hA:=Zh hb1;clear cr zA vA eA hb1 kA;go_wp2_with fail;go_loopg [7] L.length λg v7 wr=>∃i:Nat,g+i=L.length/\v7=Iv i/\Hi ((((L.drop i).map λr=>r.2.nd).find? λn=>decide (40<Qag n)).map Nd.off=X)/\Hi (Below w.heap.size w wr)/\Hi (Below w1.heap.size w1 wr)
 case atStart=>exact⟨0,rfl,rfl,HX.o,hA,zO⟩
 case round=>
 clear HX hA;obtain⟨wl,rfl⟩:=zJ wr;obtain⟨i,hg,rfl,hx,hw,aA⟩:=hrel
 by_cases hil:i<L.length
 ·have hl:(i:Int)<(L.length:Int):=zo;obtain⟨r,hr⟩:∃r,L[i]?=some r:=⟨L[i],List.getElem?_eq_getElem hil⟩
  have vA:ad=some ⟨vb,0,none⟩:=HAD.o zo;have hc:=J0 HOW.o (j:=i) (u:=.pointer (some r.1)) (by rw[getElem?_map,hr];rfl);rw[jA.o]at hc;have c0:=(aA.o.cell (World.block_lt_of_cell? _ _ hc)).trans hc;have nA:=(mA.o r (List.mem_of_getElem? hr)).below hw.o;have hsz:=HSZ.o r (List.mem_of_getElem? hr);have hst:=JfV hr;have wk:=zI i;obtain⟨⟨rb,ro,rp⟩,x⟩:=r;obtain⟨dA,yA,bA⟩:=nA;dsimp only at dA yA bA hsz hst c0;subst dA;obtain⟨xA,xn,xc,hcf⟩:=Jg x;rw[hcf]at yA;have d0:=yA 0 _ rfl;have d1:=yA 1 _ rfl;have d2:=yA 2 _ rfl;have d3:=yA 3 _ rfl;have d4:=yA 4 _ rfl;simp only[Nat.add_zero]at d0;have cx:=ZW 1000000000 x wl hsz (Nat.le_refl _) bA;rw[hcf]at cx;have HG:=Zh hg;have HX:=Zh hx.o;rw[hst]at HX;have HW:=Zh hw.o;have cA:=Zh aA.o;have qA:Qag x.nd<=1000000000:=le_trans (JeM _) hsz;subst vA;clear hc hr hst hsz hcf yA bA hg hx hw aA HAD;go_wp2_with fail;refine cx.mono ?_;rintro e w2 ⟨rfl,hb2⟩;have iA:=(hb2.cell (World.block_lt_of_cell? _ _ d3)).trans d3;have HW3:=Zh (HW.o.trans (hb2.mono HW.o.size));have HW4:=Zh (cA.o.trans (hb2.mono cA.o.size));clear cx hb2 d0 d1 d2 d3 d4 HW cA c0
  by_cases hn:40<Qag x.nd
  ·have dn:(40:Int)<(Qag x.nd:Int):=zo;rw[if_pos hn]at HX;clear hn;go_wp2;refine⟨rfl,?_⟩;rw[HR.o,<- HX.o];exact⟨by rw[ZK];rfl,HW3.o⟩
  ·have dn:¬(40:Int)<(Qag x.nd:Int):=zo;rw[if_neg hn]at HX;clear hn iA;go_wp2;go_roundg (L.length-(i+1))
   case measure=>have:=HG.o;omega
   case rel=>exact⟨i+1,by omega,by go_num,HX,HW3,HW4⟩
 ·have hl:¬(i:Int)<(L.length:Int):=zo;obtain rfl:i=L.length:=zo;have HX:=Zh hx.o;rw[List.drop_length]at HX;clear hil hg hx HAD;go_wp2;go_end0;rw[HR.o,<- HX.o];exact⟨rfl,hw.o⟩
def Qcu:Go.Maps.Keyed prog 9:=Go.Maps.string_keyed underlying9
def Zm{s:By}(hs:s.length<=1000000):keyOf prog 9 (Sv s)=some (.string s):=by
 rw[Go.WideMaps.keyOf_string_mk underlying9 (by rw[JJ];unfold maxLen;omega),V5]
def JjJ{a:Int}(h:0<=a/\a<=1000000000):(Lit.int .i64 a).wf=true:=by
 simp[Lit.wf,IntKind.min,IntKind.max,IntKind.signed,IntKind.bits];omega
def Qbh(w:World)(b n:Nat)(f:By->Option Nat):Prop:=
 ∃D:DataW Unit,w.ownsMap prog 9 (plainElem prog 3) b n D/\Go.Maps.IsMap D/\
  ∀s:By,s.length<=1000000->Go.Maps.has D (.string s)=(f s).isSome/\D.atKey (.string s) (.lit (.int .i64 0))=.lit (.int .i64 ((f s).getD 0:Nat))
def Qgo(w:World):(zeroValue 3).run prog w=.ok (Iv 0) w:=zk
def Qbh.look{w:World}{b n:Nat}{f:By->Option Nat}(h:Qbh w b n f){s:By}(hs:s.length<=1000000) :
  (Instr.lookup 161 (.map (some b)) (Sv s) true).run prog w=.ok (.tuple #[Iv ((f s).getD 0:Nat),.bool (f s).isSome]) w:=by
 obtain⟨D,ho,hm,hf⟩:=h;obtain⟨h1,h2⟩:=hf s hs;obtain⟨v,ps,hrun,hv⟩:=ho.look_ok Qcu underlying161 (Qgo w) (plainElem_int underlying3 zp) (Zm hs);rw[hrun];rw[h2]at hv;obtain⟨c,rfl,hc,hw⟩:=plainElem_int_inv underlying3 hv;simp only[Prod.mk.injEq,DataW.lit.injEq,Lit.int.injEq]at hc;rw[h1,<- hc.1.2]
def Qbh.upd{w:World}{b n:Nat}{f:By->Option Nat}(h:Qbh w b n f)(hn:n<maxLen){s:By}(hs:s.length<=1000000){v:Nat}(hv:v<=1000000000) :
  ∃w',(Instr.mapUpdate 161 (.map (some b)) (Sv s) (Iv v)).run prog w=.ok () w'/\Qbh w' b (n+1) (λx=>if x=s then some v else f x)/\Chg [b] w w':=by
 obtain⟨D,ho,hm,hf⟩:=h;have hk:=Zm hs;obtain⟨w',hrun,yA,hg⟩:=ho.update Qcu underlying161 hn hk (plainElem_int underlying3 (JjJ (a:=(v:Nat)) zo));refine⟨w',hrun,⟨_,yA,hm.put _ _,λx hx=>?_⟩,Chg.of_grownBy hg⟩;dsimp only
 by_cases e:x=s
 ·subst e;rw[if_pos rfl,Go.Maps.has_put_same hm (Qcu.key hk),Go.Maps.atKey_put_same hm (Qcu.key hk)];exact⟨rfl,rfl⟩
 ·rw[if_neg e];have xA:(Lit.string x)≠Lit.string s:=λh=>e (by injection h)
  rw[Go.Maps.has_put_other xA,Go.Maps.atKey_put_other xA];exact hf x hx
def Qbh.new(w:World):Qbh (w.alloc (.map #[] 0)) w.heap.size 0 (λ_=>none):=
 ⟨.map [],World.ownsMap_made w _ _ _,Go.Maps.isMap_empty,λ_ _=>⟨rfl,rfl⟩⟩
def Qbh.lt{w:World}{b n:Nat}{f:By->Option Nat}(h:Qbh w b n f):b<w.heap.size:=h.choose_spec.1.lt
def Qbh.same{w w':World}{b n:Nat}{f:By->Option Nat}(h:Qbh w b n f)(hc:w'.heap[b]?=w.heap[b]?):Qbh w' b n f:=by
 obtain⟨D,⟨es,xA,hb,r⟩,q⟩:=h;exact⟨D,⟨es,xA,hc.trans hb,r⟩,q⟩
def Qbh.keep{S:List Nat}{w w':World}{b n:Nat}{f:By->Option Nat}(h:Qbh w b n f)(hc:Chg S w w')(hn:b∉S):Qbh w' b n f:=h.same (hc.block b h.lt hn)
def addF(x:Option Int)(o:Int):Option Int:=some (match x with|none=>o|some b=>if o<b then o else b)
def QaG(x:Option Int)(l:List Int):Option Int:=l.foldl addF x
def Jw(x:Option Int)(a b:List Int):QaG x (a++b)=QaG (QaG x a) b:=List.foldl_append
def JeS(x:Option Int):QaG x []=x:=rfl
def Jhh(o:Int):addF none o=some o:=rfl
def ZX(b o:Int):addF (some b) o=some (if o<b then o else b):=rfl
def JaI(a:Int)(l:List Int):QaZ (a::l)=some (match QaZ l with|none=>a|some b=>min a b):=rfl
theorem Qie{P:Prop}(h:P:=by
  cases QaZ l with
  |none=>
   dsimp only
   congr 1
   simp only[Int.min_def]
   repeat' split
   all_goals omega
  |some c=>
   dsimp only
   congr 1
   simp only[Int.min_def]
   repeat' split
   all_goals omega):P:=h
def Jcx(b:Int):∀l:List Int,QaG (some b) l=some (match QaZ l with|none=>b|some c=>min b c)
 |[]=>rfl
 |a::l=>by
  show QaG (addF (some b) a) l=_
  rw[ZX,Jcx _ l,JaI]
  by_cases h:a<b
  ·rw[if_pos h];exact Qie
  ·rw[if_neg h];exact Qie
def JaJ(l:List Int):QaG none l=QaZ l:=by
 cases l with
 |nil=>rfl
 |cons a l=>
  show QaG (addF none a) l=_
  rw[Jhh,Jcx,JaI]
def QaW(W:World)(rb:Nat)(t:TypeId)(x:Option Int)(M:Value):Prop:=W.heap[rb]?=some (.cells #[.bool x.isSome,Iv (x.getD 0),M] t (0,0))
def Qir(w:World)(rb:Nat)(t:TypeId)(x:Option Int)(M:Value)(e:Ending)(w':World):Prop:=e=.returned (.tuple #[])/\QaW w' rb t x M/\Chg [rb] w w'
def V7(w:World)(rb:Nat)(t:TypeId)(x:Option Int)(M:Value)(o:Int)(h:QaW w rb t x M):Calls prog 96 #[Pt rb,Iv o] w (Qir w rb t (addF x o) M):=by
 unfold QaW at h;obtain⟨R,hR⟩:∃R,Qir w rb t (addF x o) M=R:=⟨_,rfl⟩
 rw[hR];have HR:Hi (R=Qir w rb t (addF x o) M):=hR.symm;have b0:=Ja h 0;have b1:=Ja h 1;simp only[zW]at b0 b1;have f0:=Jc h 0;have f1:=Jc h 1;have hl:=Jb h;have H:=Zh h;clear hR h
 have HP:Hi (QaW ((w.setCell ⟨rb,0,none⟩ (.bool true)).setCell ⟨rb,1,none⟩ (Iv o)) rb t (some o) M/\Chg [rb] w ((w.setCell ⟨rb,0,none⟩ (.bool true)).setCell ⟨rb,1,none⟩ (Iv o))):=by
  have h0:=Jm H.o 0 (.bool true);have h1:=Jm h0 1 (Iv o);exact⟨h1,((Chg.refl [rb] w).setCell (.inl zq) (p:=⟨rb,0,none⟩) _).setCell (.inl zq) (p:=⟨rb,1,none⟩) _⟩
 cases x with
 |none=>
  simp only[Option.isSome,Option.getD]at b0 b1;clear H;go_enter func96,ntmps96;go_wp2;go_end0;rw[HR.o];exact⟨rfl,HP.o⟩
 |some b=>
  simp only[Option.isSome,Option.getD]at b0 b1
  by_cases hlt:o<b
  ·have e:addF (some b) o=some o:=by rw[ZX,if_pos hlt]
   have HE:=Zh e;clear H e;go_enter func96,ntmps96;go_wp2;go_end0;rw[HR.o,HE.o];exact⟨rfl,HP.o⟩
  ·have e:addF (some b) o=some b:=by rw[ZX,if_neg hlt]
   have HE:=Zh e;clear HP e;go_enter func96,ntmps96;go_wp2;go_end0;rw[HR.o,HE.o];exact⟨rfl,H.o,Chg.refl _ _⟩
structure Qcj(P:Nat->Nat->Prop)(W W':World):Prop where
 os:W'.os=W.os
 tape:W'.tape=W.tape
 output:W'.output=W.output
 size:W.heap.size<=W'.heap.size
 block:∀b,b<W.heap.size->(∀j,¬P b j)->W'.heap[b]?=W.heap[b]?
 cell:∀b j,b<W.heap.size->¬P b j->W'.cell? ⟨b,j,none⟩=W.cell? ⟨b,j,none⟩
 frz:∀b j,b<W.heap.size->W'.frozen? ⟨b,j,none⟩=W.frozen? ⟨b,j,none⟩
 shape:∀(b:Nat) (cs:Array Value) (t:TypeId) (fr:Nat × Nat),W.heap[b]?=some (.cells cs t fr)->∃cs':Array Value,W'.heap[b]?=some (.cells cs' t fr)/\cs'.size=cs.size
def Qcj.refl(P:Nat->Nat->Prop)(W:World):Qcj P W W:=⟨rfl,rfl,rfl,Nat.le_refl _,λ_ _ _=>rfl,λ_ _ _ _=>rfl,λ_ _ _=>rfl,λb cs t fr h=>⟨cs,h,rfl⟩⟩
def Qcj.trans{P:Nat->Nat->Prop}{W W1 W2:World}(h:Qcj P W W1)(k:Qcj P W1 W2):Qcj P W W2:=
 ⟨k.os.trans h.os,k.tape.trans h.tape,k.output.trans h.output,Nat.le_trans h.size k.size,λb hb hp=>(k.block b (lt_of_lt_of_le hb h.size) hp).trans (h.block b hb hp),λb j hb hp=>(k.cell b j (lt_of_lt_of_le hb h.size) hp).trans (h.cell b j hb hp),λb j hb=>(k.frz b j (lt_of_lt_of_le hb h.size)).trans (h.frz b j hb),λb cs t fr hb=>by
  obtain⟨c1,h1,e1⟩:=h.shape b cs t fr hb;obtain⟨c2,h2,e2⟩:=k.shape b c1 t fr h1
  exact⟨c2,h2,e2.trans e1⟩⟩
def Qcj.mono{P Q:Nat->Nat->Prop}{W W':World}(h:Qcj P W W')(hpq:∀b j,b<W.heap.size->P b j->Q b j):Qcj Q W W':=
 ⟨h.os,h.tape,h.output,h.size,λb hb hq=>h.block b hb λj hp=>hq j (hpq b j hb hp),λb j hb hq=>h.cell b j hb λhp=>hq (hpq b j hb hp),h.frz,h.shape⟩
def Qcj.of_below{P:Nat->Nat->Prop}{W W':World}(h:Below W.heap.size W W'):Qcj P W W':=
 ⟨h.os,h.tape,h.output,h.size,λb hb _=>h.block b hb,λb j hb _=>World.cell?_of_block (a:=⟨b,j,none⟩) (h.block b hb),λb j hb=>World.frozen?_of_block (a:=⟨b,j,none⟩) (h.block b hb),λb cs t fr hb=>⟨cs,(h.block b (Jb hb)).trans hb,rfl⟩⟩
def Qcj.step{P Q:Nat->Nat->Prop}{W W1 W2:World}(h:Qcj P W W1)(k:Qcj Q W1 W2)(hq:∀b j,Q b j->P b j\/W.heap.size<=b):Qcj P W W2:=
 ⟨k.os.trans h.os,k.tape.trans h.tape,k.output.trans h.output,Nat.le_trans h.size k.size,λb hb hp=>(k.block b (lt_of_lt_of_le hb h.size) λj hj=>by rcases hq b j hj with h1|h1;exact hp j h1;omega).trans (h.block b hb hp),λb j hb hp=>(k.cell b j (lt_of_lt_of_le hb h.size) λhj=>by rcases hq b j hj with h1|h1;exact hp h1;omega).trans (h.cell b j hb hp),λb j hb=>(k.frz b j (lt_of_lt_of_le hb h.size)).trans (h.frz b j hb),λb cs t fr hb=>by
  obtain⟨c1,h1,e1⟩:=h.shape b cs t fr hb;obtain⟨c2,h2,e2⟩:=k.shape b c1 t fr h1
  exact⟨c2,h2,e2.trans e1⟩⟩
def Jbw(W:World)(q j:Nat)(u:Value){b:Nat}{cs:Array Value}{t:TypeId}{fr:Nat × Nat}(h:W.heap[b]?=some (.cells cs t fr)):∃cs':Array Value,(W.setCell ⟨q,j,none⟩ u).heap[b]?=some (.cells cs' t fr)/\cs'.size=cs.size:=by
 by_cases e:b=q
 ·subst e;exact⟨cs.setIfInBounds j u,Jm h j u,by simp⟩
 ·exact⟨cs,(Below.heap_setCell _ _ _ _ e).trans h,rfl⟩
def Qcj.set{P:Nat->Nat->Prop}{W:World}{b j:Nat}{cs:Array Value}{t:TypeId}{fr:Nat × Nat}(hb:W.heap[b]?=some (.cells cs t fr))(hp:P b j)(u:Value):Qcj P W (W.setCell ⟨b,j,none⟩ u):=by
 refine⟨rfl,rfl,rfl,by simp[World.setCell],λq _ hq=>Below.heap_setCell _ _ _ _ λe=>?_,λq i _ hq=>World.cell?_setCell_other _ _ _ _ λe=>?_,λq i _=>?_,λq cs t fr hq=>Jbw W _ _ u hq⟩
 ·subst e;exact hq j hp
 ·injection e with e1 e2;subst e1 e2;exact hq hp
 ·by_cases e:q=b
  ·subst e;have h1:=Jm hb j u;simp[World.frozen?,h1,hb]
  ·exact World.frozen?_of_block (a:=⟨q,i,none⟩) (Below.heap_setCell _ _ _ _ e)
def QaW.chgC{P:Nat->Nat->Prop}{W W':World}{rb:Nat}{t:TypeId}{x:Option Int}{M:Value}(h:QaW W rb t x M)(hc:Qcj P W W')(hp:∀j,¬P rb j):QaW W' rb t x M:=(hc.block rb (Jb h) hp).trans h
def JdN{rb:Nat}{t:TypeId}{x x':Option Int}{M:Value}{W W':World}(h:QaW W rb t x M)(h':QaW W' rb t x' M)(hc:Chg [rb] W W'):Qcj (λb j=>b=rb/\j<2) W W':=by
 refine⟨hc.os,hc.tape,hc.output,hc.size,λb hb hp=>hc.block b hb λhm=>?_,λb j hb hp=>?_,λb j hb=>?_,λb cs t' fr hb=>?_⟩
 ·obtain rfl:b=rb:=by simpa using hm
  exact hp 0 ⟨rfl,by omega⟩
 ·by_cases e:b=rb
  ·subst e;rw[Ja h,Ja h'];have hj:¬j<2:=λhj=>hp ⟨rfl,hj⟩
   obtain⟨j,rfl⟩:∃i,j=i+2:=⟨j-2,by omega⟩
   simp
  ·exact World.cell?_of_block (a:=⟨b,j,none⟩) (hc.block b hb (by simpa using e))
 ·by_cases e:b=rb
  ·subst e;rw[Jc h,Jc h']
  ·exact World.frozen?_of_block (a:=⟨b,j,none⟩) (hc.block b hb (by simpa using e))
 ·by_cases e:b=rb
  ·subst e;rw[show W.heap[b]?=_ from h]at hb;injection hb with hb;injection hb with e1 e2 e3;subst e1 e2 e3;exact⟨_,h',rfl⟩
  ·exact⟨cs,(hc.block b (Jb hb) (by simpa using e)).trans hb,rfl⟩
structure Qcd(W:World)(q o:Nat)(a:An):Prop where
 cells:∀j u,(Qaa a).toList[j]?=some u->W.cell? ⟨q,o+j,none⟩=some u
 frz:∀j,W.frozen? ⟨q,j,none⟩=false
 at':a.At W
def Yq{W:World}{q j:Nat}{u:Value}(h:W.cell? ⟨q,j,none⟩=some u)(hf:True):∃(cs:Array Value) (t:TypeId) (fr:Nat × Nat),W.heap[q]?=some (.cells cs t fr):=by
 unfold World.cell? at h;split at h
 ·rename_i cs t fr he;exact⟨_,_,_,he⟩
 ·cases h
mutual
def YQ{P:Nat->Nat->Prop}{W W':World}(hc:Qcj P W W'):∀(a:An),a.At W->(∀b∈foot a,∀j,¬P b j)->a.At W'
 |a,h,hp=>JK a h λb hb=>hc.block b (Jcs a h b hb) (hp b hb)
end
mutual
def QbA(fs:List By):List By->An->An
 |vars,.mk k n s o b c l=>
  if k=2 then .mk k (QaY vars s) [] o b c (QaX fs vars l)
  else if k=20 then .mk k ((Qal fs s).getD 0:Nat) [] o b c (QaX fs vars l)
  else if k=19 then
   match l with
   |[x,y]=>.mk k vars.length [] o b c [QbA fs vars x,QbA fs (vars++[s]) y]
   |l=>.mk k n s o b c l
  else .mk k n s o b c (QaX fs vars l)
def QaX(fs:List By):List By->List An->List An
 |_,[]=>[]
 |vars,a::l=>QbA fs vars a::QaX fs vars l
end
def Jcy(fs vars:List By)(l:List An):QaX fs vars l=l.map (QbA fs vars):=by
 induction l with
 |nil=>simp[QaX]
 |cons a l ih=>simp[QaX,ih]
def Vx(fs vars:List By)(k n:Int)(s:By)(o:Int)(l:List Nd):QcQ fs vars (.mk k n s o l) =
  if k=2 then (.mk k (QaY vars s) [] o (QbS fs vars l).1,(if QaY vars s<0 then [o] else [])++(QbS fs vars l).2)
  else if k=20 then (.mk k ((Qal fs s).getD 0:Nat) [] o (QbS fs vars l).1,(if (Qal fs s).isNone then [o] else [])++(QbS fs vars l).2)
  else if k=19 then
   match l with
   |[a,b]=>(.mk k vars.length [] o [(QcQ fs vars a).1,(QcQ fs (vars++[s]) b).1],(QcQ fs vars a).2++(QcQ fs (vars++[s]) b).2)
   |l=>(.mk k n s o l,[])
  else (.mk k n s o (QbS fs vars l).1,(QbS fs vars l).2):=by
 conv=>lhs;unfold QcQ
 rfl
mutual
def ZY(fs:List By):∀(vars:List By) (a:An),(QbA fs vars a).nd=(QcQ fs vars a.nd).1
 |vars,.mk k n s o b c l=>by
  rw[An.nd,Vx];unfold QbA;split
  ·rw[An.nd,Zn]
  ·split
   ·rw[An.nd,Zn]
   ·split
    ·match l with
     |[]=>simp[An.nd,ndL]
     |[x]=>simp[An.nd,ndL]
     |[x,y]=>simp only[An.nd,ndL,ZY fs vars x,ZY fs (vars++[s]) y]
     |x::y::z::r=>simp[An.nd,ndL]
    ·rw[An.nd,Zn]
def Zn(fs:List By):∀(vars:List By) (l:List An),ndL (QaX fs vars l)=(QbS fs vars (ndL l)).1
 |vars,[]=>by simp[QaX,ndL,QbS]
 |vars,a::l=>by simp only[QaX,ndL,QbS,ZY fs vars a,Zn fs vars l]
end
mutual
def J7(fs:List By):∀(vars:List By) (a:An),foot (QbA fs vars a)=foot a
 |vars,.mk k n s o b c l=>by
  unfold QbA;split
  ·cases l with
   |nil=>simp[QaX,foot]
   |cons x r=>simp only[QaX,foot,J7 fs vars x,VS fs vars r]
  ·split
   ·cases l with
    |nil=>simp[QaX,foot]
    |cons x r=>simp only[QaX,foot,J7 fs vars x,VS fs vars r]
   ·split
    ·match l with
     |[]=>rfl
     |[x]=>rfl
     |[x,y]=>simp only[foot,Qak,J7 fs vars x,J7 fs (vars++[s]) y]
     |x::y::z::r=>rfl
    ·cases l with
     |nil=>simp[QaX,foot]
     |cons x r=>simp only[QaX,foot,J7 fs vars x,VS fs vars r]
def VS(fs:List By):∀(vars:List By) (l:List An),Qak (QaX fs vars l)=Qak l
 |vars,[]=>by simp[QaX,Qak]
 |vars,a::l=>by simp only[QaX,Qak,J7 fs vars a,VS fs vars l]
end
def JeT(fs vars:List By):∀(l:List Nd) (a:Nd),(QbS fs vars (l++[a])).2=(QbS fs vars l).2++(QcQ fs vars a).2
 |[],a=>by simp[QbS]
 |x::l,a=>by simp only[List.cons_append,QbS,JeT fs vars l a,List.append_assoc]
def QcO(W:World)(vv:Value)(vars:List By)(g:Nat):Prop:=
 ∃ad cc,vv=.slice ad vars.length cc/\(vars.length<=cc/\(vars=[]->ad=none/\cc=0))/\(vars≠[]->ad=some ⟨g,0,none⟩/\∀i s,vars[i]?=some s->W.cell? ⟨g,i,none⟩=some (Sv s))
def QcO.chgC{P:Nat->Nat->Prop}{W W':World}{vv:Value}{vars:List By}{g:Nat}(h:QcO W vv vars g)(hc:Qcj P W W')(hp:vars≠[]->∀j,¬P g j):QcO W' vv vars g:=by
 obtain⟨ad,cc,h1,h2,h3⟩:=h;refine⟨ad,cc,h1,h2,λhne=>⟨(h3 hne).1,λi s hs=>?_⟩⟩;have:=(h3 hne).2 i s hs;exact(hc.cell g i (World.block_lt_of_cell? W ⟨g,i,none⟩ this) (hp hne i)).trans this
def JaK(s:By):∀(l:List By) (p:Int × Int),(l.foldl (λ(p:Int × Int) v=>(p.1+1,if v=s then p.1 else p.2)) p).1=p.1+l.length
 |[],p=>by simp
 |v::l,p=>by
  rw[List.foldl_cons,JaK s l];simp;omega
def ZZ(l:List By)(v s:By):QaY (l++[v]) s=if v=s then (l.length:Int) else QaY l s:=by
 unfold QaY;rw[List.foldl_append];simp only[List.foldl_cons,List.foldl_nil];rw[JaK];simp
def JaL(s:By):QaY [] s = -1:=rfl
def JdO{vars:List By}{m:Nat}{v:By}(s:By)(h:vars[m]?=some v):QaY (vars.take (m+1)) s=if v=s then (m:Int) else QaY (vars.take m) s:=by
 have hlt:=(List.getElem?_eq_some_iff.1 h).1;rw[List.take_add_one,h];simp only[Option.toList_some];rw[ZZ,List.length_take,Nat.min_eq_left zo]
def Yr(s:By):∀(n:Nat) (l:List By),l.length=n->-1<=QaY l s/\QaY l s<n
 |0,l,h=>by
  obtain rfl:=List.eq_nil_of_length_eq_zero h;exact⟨by rw[JaL];omega,by rw[JaL];omega⟩
 |n+1,l,h=>by
  rcases List.eq_nil_or_concat l with rfl|⟨l',v,rfl⟩
  ·simp at h
  ·have hl:l'.length=n:=by simpa using h
   have:=Yr s n l' hl;rw[List.concat_eq_append,ZZ];split<;>omega
mutual
def WfN:Nd->Prop
 |.mk k n s o l=>(k=19->l.length=2)/\(k=15->l.length=2)/\(k=18->l.length=3)/\s.length<=1000000/\WfL l
def WfL:List Nd->Prop
 |[]=>True
 |a::l=>WfN a/\WfL l
end
theorem Qgt{P:Prop}(h:P:=by
  intro a ha
  rcases List.mem_cons.1 ha with rfl|ha
  ·exact h.1
  ·exact ih h.2 a ha):P:=h
def Jbx{l:List Nd}(h:WfL l):∀a∈l,WfN a:=by
 induction l with
 |nil=>intro a ha;cases ha
 |cons x r ih=>
  unfold WfL at h;exact Qgt
def Jcz{W:World}{b:Nat}:∀(l:List An) (i:Nat),(∀m z,l[m]?=some z->(∀j u,(Qaa z).toList[j]?=some u->W.cell? ⟨b,(i+m)*5+j,none⟩=some u)/\z.At W)->AtL W b i l
 |[],i,h=>by unfold AtL;trivial
 |a::l,i,h=>by
  unfold AtL;have h0:=h 0 a rfl;refine⟨h0.1,h0.2,Jcz l (i+1) λm z hz=>?_⟩;have:=h (m+1) z (by simpa using hz);rw[show i+1+m=i+(m+1) by omega];exact this
def YR:∀{l:List An} {i m:Nat} {y z:An} {q:Nat},(Qak l).Nodup->l[i]?=some y->l[m]?=some z->i≠m->q∈foot z->q∉foot y
 |[],i,m,y,z,q,_,hy,_,_,_=>by cases hy
 |a::l,0,0,y,z,q,_,_,_,hne,_=>absurd rfl hne
 |a::l,0,m+1,y,z,q,hn,hy,hz,_,hq=>by
  unfold Qak at hn;obtain rfl:a=y:=by simpa using hy
  have xA:q∈Qak l:=JC (mem_of_getElem? (by simpa using hz:l[m]?=some z)) q hq;intro h;exact(List.nodup_append.1 hn).2.2 q h q xA rfl
 |a::l,i+1,0,y,z,q,hn,hy,hz,_,hq=>by
  unfold Qak at hn;obtain rfl:a=z:=by simpa using hz
  intro h;have yA:q∈Qak l:=JC (mem_of_getElem? (by simpa using hy:l[i]?=some y)) q h;exact(List.nodup_append.1 hn).2.2 q hq q yA rfl
 |a::l,i+1,m+1,y,z,q,hn,hy,hz,hne,hq=>by
  unfold Qak at hn;exact YR (List.nodup_append.1 hn).2.1 (by simpa using hy:l[i]?=some y) (by simpa using hz:l[m]?=some z) zo hq
def Qej(q o rb:Nat)(F:List Nat)(b j:Nat):Prop:=(b=q/\o<=j/\j<o+5)\/b∈F\/b=rb
structure QbW(fs:List By)(rb:Nat)(t:TypeId)(mb mn:Nat)(W:World)(q o:Nat)(x:Option Int)(vv:Value)(vars:List By)(g:Nat)(a:An):Prop where
 node:Qcd W q o a
 nod:(foot a).Nodup
 qf:q∉foot a
 rf:rb∉foot a/\rb≠q
 gf:vars≠[]->g∉foot a/\g≠q/\g≠rb
 mf:mb∉foot a/\mb≠q/\mb≠rb
 flt:QaW W rb t x (.map (some mb))
 map:Qbh W mb mn λs=>Qal fs s
 vars:QcO W vv vars g
 wf:WfN a.nd
def Qdp(fs:List By)(rb:Nat)(t:TypeId)(mb:Nat)(w:World)(q o:Nat)(x:Option Int)(vars:List By)(a:An)(e:Ending)(w':World):Prop:=
 e=.returned (.tuple #[])/\Qcd w' q o (QbA fs vars a)/\QaW w' rb t (QaG x (QcQ fs vars a.nd).2) (.map (some mb))/\Qcj (Qej q o rb (foot a)) w w'
structure Qdl(fs:List By)(rb:Nat)(t:TypeId)(mb mn:Nat)(w W:World)(q o:Nat)(x1:Option Int)(vv:Value)(vars:List By)(g b:Nat)(l:List An)(pc:Array Value)(i:Nat):Prop where
 par:∀j u,pc.toList[j]?=some u->W.cell? ⟨q,o+j,none⟩=some u
 pfr:∀j,W.frozen? ⟨q,j,none⟩=false
 kids:AtL W b 0 ((l.take i).map (QbA fs vars)++l.drop i)
 kfr:l≠[]->∀j,W.frozen? ⟨b,j,none⟩=false
 flt:QaW W rb t (QaG x1 (QbS fs vars (ndL (l.take i))).2) (.map (some mb))
 map:Qbh W mb mn λs=>Qal fs s
 vars:QcO W vv vars g
 chg:Qcj (Qej q o rb (if l=[] then [] else b::Qak l)) w W
 lts:q<W.heap.size/\(l≠[]->b<W.heap.size)
structure QdT(q rb g mb b:Nat)(vars:List By)(l:List An):Prop where
 nod:(Qak l).Nodup/\(l≠[]->b∉Qak l)
 qa:q∉Qak l/\(l≠[]->q≠b)
 ra:rb∉Qak l/\(l≠[]->rb≠b)/\rb≠q
 ga:vars≠[]->g∉Qak l/\(l≠[]->g≠b)/\g≠q/\g≠rb
 ma:mb∉Qak l/\(l≠[]->mb≠b)/\mb≠q/\mb≠rb
def KQ(k n:Int)(s:By)(o:Int)(b c:Nat)(l:List An):foot (.mk k n s o b c l)=if l=[] then [] else b::Qak l:=by
 cases l with
 |nil=>simp[foot]
 |cons x r=>simp[foot,Qak]
def Zo{fs:List By}{rb:Nat}{t:TypeId}{mb mn:Nat}{W:World}{q o:Nat}{x:Option Int}{vv:Value}{vars:List By}{g:Nat}{k n:Int}{s:By}{off:Int}{b c:Nat}{l:List An}(h:QbW fs rb t mb mn W q o x vv vars g (.mk k n s off b c l)):QdT q rb g mb b vars l:=by
 have h1:=h.nod;have h2:=h.qf;have h3:=h.rf;have h4:=h.gf;have h5:=h.mf;rw[KQ]at h1 h2 h3 h4 h5
 by_cases e:l=[]
 ·subst e;exact⟨by simp[Qak],by simp[Qak],by simpa[Qak] using h3,λhv=>by simpa[Qak] using h4 hv,by simpa[Qak] using h5⟩
 ·rw[if_neg e]at h1 h2 h3 h4 h5;simp only[List.nodup_cons,List.mem_cons,not_or]at h1 h2 h3 h4 h5;exact⟨⟨h1.2,λ_=>h1.1⟩,⟨h2.2,λ_=>h2.1⟩,⟨h3.1.2,λ_=>h3.1.1,h3.2⟩,λhv=>⟨(h4 hv).1.2,λ_=>(h4 hv).1.1,(h4 hv).2⟩,⟨h5.1.2,λ_=>h5.1.1,h5.2⟩⟩
section
variable {fs:List By} {rb:Nat} {t:TypeId} {mb mn:Nat} {w W W':World} {q o:Nat} {x1:Option Int} {vv:Value} {vars:List By} {g b:Nat} {l:List An} {pc:Array Value} {i:Nat}
def Qdl.pre{y:An}(h:Qdl fs rb t mb mn w W q o x1 vv vars g b l pc i)(hA:QdT q rb g mb b vars l)(hy:l[i]?=some y)(hw:WfL (ndL l)):QbW fs rb t mb mn W b (i*5) (QaG x1 (QbS fs vars (ndL (l.take i))).2) vv vars g y:=by
 have xA:l≠[]:=by intro e;rw[e]at hy;cases hy
 have hlt:=(List.getElem?_eq_some_iff.1 hy).1;have hmem:=mem_of_getElem? hy;have hsub:=λq hq=>JC hmem q hq
 have yA:((l.take i).map (QbA fs vars)++l.drop i)[i]?=some y:=by
  rw[List.getElem?_append_right zr];simp[Nat.min_eq_left (Nat.le_of_lt hlt),hy]
 obtain⟨k1,k2⟩:=JW h.kids yA;rw[Nat.zero_add]at k1;refine⟨⟨k1,h.kfr xA,k2⟩,?_,λhm=>hA.nod.2 xA (hsub _ hm),⟨λhm=>hA.ra.1 (hsub _ hm),hA.ra.2.1 xA⟩,λhv=>⟨λhm=>(hA.ga hv).1 (hsub _ hm),(hA.ga hv).2.1 xA,(hA.ga hv).2.2.2⟩,⟨λhm=>hA.ma.1 (hsub _ hm),hA.ma.2.1 xA,hA.ma.2.2.2⟩,h.flt,h.map,h.vars,Jbx hw _ (by rw[Kk];exact List.mem_map.2 ⟨y,hmem,rfl⟩)⟩;have zA:=hA.nod.1;clear h hA hw xA hlt hsub yA k1 k2
 induction l generalizing i with
 |nil=>cases hmem
 |cons a r ih=>
  unfold Qak at zA
  rcases List.mem_cons.1 hmem with rfl|hm
  ·exact(List.nodup_append.1 zA).1
  ·obtain⟨m,uA⟩:=List.getElem?_of_mem hm;exact ih uA hm (List.nodup_append.1 zA).2.1
theorem QhD{P:Prop}(h:P:=by
  rcases hj with⟨e,_⟩|hj|e
  ·exact .inr (.inl (by rw[e];simp))
  ·exact .inr (.inl (List.mem_cons_of_mem _ (hsub _ hj)))
  ·exact .inr (.inr e)):P:=h
def Qdl.step{y:An}{e:Ending}(h:Qdl fs rb t mb mn w W q o x1 vv vars g b l pc i)(hA:QdT q rb g mb b vars l)(hy:l[i]?=some y)(hr:Qdp fs rb t mb W b (i*5) (QaG x1 (QbS fs vars (ndL (l.take i))).2) vars y e W'):Qdl fs rb t mb mn w W' q o x1 vv vars g b l pc (i+1):=by
 obtain⟨_,hn,hf,hc⟩:=hr;have xA:l≠[]:=by intro e;rw[e]at hy;cases hy
 have hlt:=(List.getElem?_eq_some_iff.1 hy).1;have hmem:=mem_of_getElem? hy;have hsub:=λq hq=>JC hmem q hq
 have hq:∀j,¬Qej b (i*5) rb (foot y) q j:=λj hj=>by
  rcases hj with⟨e,_⟩|hj|e
  ·exact hA.qa.2 xA e
  ·exact hA.qa.1 (hsub _ hj)
  ·exact hA.ra.2.2 e.symm
 have zA:l.take (i+1)=l.take i++[y]:=by rw[List.take_add_one,hy];rfl
 have yA:∀m z,((l.take (i+1)).map (QbA fs vars)++l.drop (i+1))[m]?=some z->(m=i/\z=QbA fs vars y)\/(m≠i/\((l.take i).map (QbA fs vars)++l.drop i)[m]?=some z/\∃z0,l[m]?=some z0/\foot z=foot z0):=by
  intro m z hz
  by_cases hm:m<i
  ·rw[List.getElem?_append_left zr,List.getElem?_map,List.getElem?_take_of_lt zo]at hz;obtain⟨z0,h0,rfl⟩:=Option.map_eq_some_iff.1 hz;refine .inr ⟨by omega,?_,z0,h0,J7 fs vars z0⟩;rw[List.getElem?_append_left zr,List.getElem?_map,List.getElem?_take_of_lt hm,h0];rfl
  ·by_cases he:m=i
   ·subst he;rw[List.getElem?_append_left zr,List.getElem?_map,List.getElem?_take_of_lt zo,hy]at hz;exact .inl ⟨rfl,by simpa using hz.symm⟩
   ·rw[List.getElem?_append_right zr]at hz;simp only[List.length_map,List.length_take,Nat.min_eq_left (show i+1<=l.length by omega),List.getElem?_drop]at hz;rw[show i+1+(m-(i+1))=m by omega]at hz;refine .inr ⟨he,?_,z,hz,rfl⟩;rw[List.getElem?_append_right zr];simp only[List.length_map,List.length_take,Nat.min_eq_left (Nat.le_of_lt hlt),List.getElem?_drop];rw[show i+(m-i)=m by omega];exact hz
 have hbl:=h.lts.2 xA;refine⟨λj u hj=>?_,λj=>(hc.frz q j h.lts.1).trans (h.pfr j),?_,λ_ j=>(hc.frz b j hbl).trans (h.kfr xA j),?_,h.map.same (hc.block mb h.map.lt λj hj=>?_),h.vars.chgC hc λhv j hj=>?_,h.chg.step hc λc j hj=>.inl ?_,⟨Nat.lt_of_lt_of_le h.lts.1 hc.size,λ_=>Nat.lt_of_lt_of_le hbl hc.size⟩⟩
 ·exact(hc.cell q (o+j) h.lts.1 (hq _)).trans (h.par j u hj)
 ·refine Jcz _ 0 λm z hz=>?_
  rw[Nat.zero_add]
  rcases yA m z hz with⟨rfl,rfl⟩|⟨hmi,hz',z0,hz0,hfz⟩
  ·exact⟨hn.cells,hn.at'⟩
  ·obtain⟨k1,k2⟩:=JW h.kids hz';rw[Nat.zero_add]at k1;refine⟨λj u hj=>?_,YQ hc z k2 λc hcf j hj=>?_⟩
   ·have uA:j<5:=by have:=(List.getElem?_eq_some_iff.1 hj).1;rw[Array.length_toList,J3]at this;exact this
    refine(hc.cell b (m*5+j) hbl λhp=>?_).trans (k1 j u hj)
    rcases hp with⟨_,h1,h2⟩|h1|h1
    ·rcases Nat.lt_or_gt_of_ne hmi with h3|h3
     ·have:(m+1)*5<=i*5:=Nat.mul_le_mul_right 5 h3;omega
     ·have:(i+1)*5<=m*5:=Nat.mul_le_mul_right 5 h3;omega
    ·exact hA.nod.2 xA (hsub _ h1)
    ·exact hA.ra.2.1 xA h1.symm
   ·rw[hfz]at hcf;have hcl:c∈Qak l:=JC (mem_of_getElem? hz0) c hcf
    rcases hj with⟨e,_⟩|hj|e
    ·subst e;exact hA.nod.2 xA hcl
    ·exact YR hA.nod.1 hy hz0 (Ne.symm hmi) hcf hj
    ·subst e;exact hA.ra.1 hcl
 ·rw[zA,Vf,JeT,Jw];exact hf
 ·rcases hj with⟨e,_⟩|hj|e
  ·exact hA.ma.2.1 xA e
  ·exact hA.ma.1 (hsub _ hj)
  ·exact hA.ma.2.2.2 e
 ·rcases hj with⟨e,_⟩|hj|e
  ·exact(hA.ga hv).2.1 xA e
  ·exact(hA.ga hv).1 (hsub _ hj)
  ·exact(hA.ga hv).2.2.2 e
 ·rw[if_neg xA];exact QhD
def Qdl.done{k n:Int}{s:By}{off:Int}{c:Nat}(h:Qdl fs rb t mb mn w W q o x1 vv vars g b l pc l.length)(hp:pc=Qaa (.mk k n s off b c (QaX fs vars l))):Qcd W q o (.mk k n s off b c (QaX fs vars l))/\QaW W rb t (QaG x1 (QbS fs vars (ndL l)).2) (.map (some mb))/\Qcj (Qej q o rb (if l=[] then [] else b::Qak l)) w W:=by
 refine⟨⟨by rw[<- hp];exact h.par,h.pfr,?_⟩,?_,h.chg⟩
 ·have:=h.kids;rw[List.take_length,List.drop_length,List.append_nil,<- Jcy]at this;unfold An.At;refine⟨λhne j=>h.kfr (λe=>hne (by rw[e];rfl)) j,this⟩
 ·have:=h.flt;rw[List.take_length]at this;exact this
def Qdl.start{k n:Int}{s:By}{off:Int}{c:Nat}(hn:Qcd W q o (.mk k n s off b c l))(hp:pc=Qaa (.mk k n s off b c l))(hf:QaW W rb t x1 (.map (some mb)))(hm:Qbh W mb mn λs=>Qal fs s)(hv:QcO W vv vars g)(hc:Qcj (Qej q o rb (if l=[] then [] else b::Qak l)) w W):Qdl fs rb t mb mn w W q o x1 vv vars g b l pc 0:=by
 have hat:=hn.at';unfold An.At at hat;have hq:q<W.heap.size:=World.block_lt_of_cell? (a:=⟨q,o+0,none⟩) W (hn.cells 0 (Iv k) rfl);refine⟨by rw[hp];exact hn.cells,hn.frz,by simpa using hat.2,hat.1,by simpa[ndL,QbS,QaG] using hf,hm,hv,hc,hq,λhne=>?_⟩
 cases l with
 |nil=>exact absurd rfl hne
 |cons x r=>
  have h2:=hat.2;unfold AtL at h2;obtain⟨xA,xn,xc,hcf⟩:=Jg x;exact World.block_lt_of_cell? (a:=⟨b,0*5+0,none⟩) W (h2.1 0 (Iv x.kind) (by rw[hcf];rfl))
def Qcd.head{k n:Int}{s:By}{off:Int}{c:Nat}(h:Qcd W q o (.mk k n s off b c l))(hq:q∉(if l=[] then [] else b::Qak l))(n':Int)(s':By)(hc:∀j u,(#[Iv k,Iv n',Sv s',Iv off,Qaz b c l]:Array Value).toList[j]?=some u->W'.cell? ⟨q,o+j,none⟩=some u)(hg:Qcj (λc j=>c=q) W W'):Qcd W' q o (.mk k n' s' off b c l):=by
 have xA:q<W.heap.size:=World.block_lt_of_cell? (a:=⟨q,o+0,none⟩) W (h.cells 0 (Iv k) rfl)
 have hat:(An.mk k n s off b c l).At W':=YQ hg _ h.at' λd hd j e=>by
  rw[KQ]at hd;rw[e]at hd;exact hq hd
 exact⟨hc,λj=>(hg.frz q j xA).trans (h.frz j),hat⟩
end
end Go.Proofs.YtfafpklefknomaaGreatDoor
