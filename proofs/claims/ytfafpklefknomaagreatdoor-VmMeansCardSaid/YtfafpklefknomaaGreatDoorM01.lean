import Derived.Deep.RegionHeld3
import Derived.Deep.LoopGhost
import Derived.Deep.DeepCutAuto
import Derived.Test.YtfafpklefknomaaGreatDoorM00
open List(mem_cons)
open Nat(le_refl)
namespace Go.Proofs.YtfafpklefknomaaGreatDoor
open Go.ChangeShapes Go.WideShapes Go.ChangeAt Go.RowKit Go.Lib
open _root_.Go.Proofs.Tryz
set_option linter.all false
set_option maxRecDepth 100000
set_option maxHeartbeats 32000000
inductive An where
 |mk (kind n:Int) (name:By) (off:Int) (blk cap:Nat) (kids:List An)
def An.kind:An->Int|.mk k _ _ _ _ _ _=>k
def An.num:An->Int|.mk _ n _ _ _ _ _=>n
def An.name:An->By|.mk _ _ s _ _ _ _=>s
def An.off:An->Int|.mk _ _ _ o _ _ _=>o
def An.blk:An->Nat|.mk _ _ _ _ b _ _=>b
def An.cap:An->Nat|.mk _ _ _ _ _ c _=>c
def An.kids:An->List An|.mk _ _ _ _ _ _ l=>l
def Qaz(b c:Nat)(l:List An):Value:=if l=[] then Nl else .slice (some ⟨b,0,none⟩) l.length c
def Qaa:An->Array Value|.mk k n s o b c l=>#[Iv k,Iv n,Sv s,Iv o,Qaz b c l]
mutual
def An.nd:An->Nd
 |.mk k n s o _ _ l=>.mk k n s o (ndL l)
def ndL:List An->List Nd
 |[]=>[]
 |a::l=>a.nd::ndL l
end
mutual
def foot:An->List Nat
 |.mk _ _ _ _ b _ l=>match l with|[]=>[]|x::r=>b::(foot x++Qak r)
def Qak:List An->List Nat
 |[]=>[]
 |a::l=>foot a++Qak l
end
mutual
def An.At(W:World):An->Prop
 |.mk _ _ _ _ b _ l=>(l≠[]->∀j,W.frozen? ⟨b,j,none⟩=false)/\AtL W b 0 l
def AtL(W:World)(b:Nat):Nat->List An->Prop
 |_,[]=>True
 |i,a::l=>(∀j u,(Qaa a).toList[j]?=some u->W.cell? ⟨b,i*5+j,none⟩=some u)/\a.At W/\AtL W b (i+1) l
end
def J3(a:An):(Qaa a).size=5:=by cases a;rfl
mutual
def JK{W W':World}:∀(a:An),a.At W->(∀b,b∈foot a->W'.heap[b]?=W.heap[b]?)->a.At W'
 |.mk k n s o b c l,h,hk=>by
  unfold An.At at*
  refine⟨λhne j=>?_,Jbq b l 0 h.2 (λhne=>hk b (by
   unfold foot
   cases l with
   |nil=>exact absurd rfl hne
   |cons x r=>simp)) (λq hq=>hk q (by
   unfold foot
   cases l with
   |nil=>simp[Qak]at hq
   |cons x r=>unfold Qak at hq;simp only[List.mem_cons];exact .inr hq))⟩
  have hb:W'.heap[b]?=W.heap[b]?:=hk b (by
   unfold foot
   cases l with
   |nil=>exact absurd rfl hne
   |cons x r=>simp)
  exact(World.frozen?_of_block (a:=⟨b,j,none⟩) hb).trans (h.1 hne j)
def Jbq{W W':World}(b:Nat):∀(l:List An)(i:Nat),AtL W b i l->(l≠[]->W'.heap[b]?=W.heap[b]?)->(∀q,q∈Qak l->W'.heap[q]?=W.heap[q]?)->AtL W' b i l
 |[],_,_,_,_=>by unfold AtL;trivial
 |a::l,i,h,hb,hk=>by
  unfold AtL at*;refine⟨λj u hu=>?_,JK a h.2.1 λq hq=>hk q (by unfold Qak;exact List.mem_append_left _ hq),Jbq b l (i+1) h.2.2 (λ_=>hb (by simp)) λq hq=>hk q (by unfold Qak;exact List.mem_append_right _ hq)⟩;exact(World.cell?_of_block (a:=⟨b,i*5+j,none⟩) (hb (by simp))).trans (h.1 j u hu)
end
def Qce(lo hi:Nat)(a:An):Prop:=(foot a).Nodup/\∀b,b∈foot a->lo<=b/\b<hi
variable{W W' w':World}{lo hi b k' q lv bx k2:Nat}
def JaE{S:List Nat}{a:An}(h:a.At W)(hm:Qce lo hi a)(hc:Chg S W W')(hh:hi<=W.heap.size)(hs:∀b,b∈S->b<lo):a.At W':=
 JK a h λb hb=>hc.block b (zu ((hm.2 b hb).2)) λhm'=>by have:=(hm.2 b hb).1;have:=hs b hm';omega
def K1{a:An}(h:a.At W)(hm:Qce lo hi a)(hc:yr W W')(hh:hi<=W.heap.size):a.At W':=
 JK a h λb hb=>hc.block b (zu ((hm.2 b hb).2))
def Qce.mono{lo' hi':Nat}{a:An}(h:Qce lo hi a)(h1:lo'<=lo)(h2:hi<=hi'):Qce lo' hi' a:=⟨h.1,λb hb=>⟨Nat.le_trans h1 (h.2 b hb).1,Nat.lt_of_lt_of_le (h.2 b hb).2 h2⟩⟩
def QcL(k n:Int)(s:By)(o:Int):An:=.mk k n s o 0 0 []
def ZH(k n:Int)(s:By)(o:Int)(lo hi:Nat):Qce lo hi (QcL k n s o):=⟨by simp[QcL,foot],by simp[QcL,foot]⟩
def JdD(W:World)(k n:Int)(s:By)(o:Int):(QcL k n s o).At W:=by unfold QcL An.At AtL;exact⟨λh=>absurd rfl h,trivial⟩
def Qdi(lo hi:Nat):List An->Prop
 |[]=>lo<=hi
 |a::l=>∃m,lo<=m/\Qce lo m a/\Qdi m hi l
def Qdi.le{lo hi:Nat}:∀{l:List An},Qdi lo hi l->lo<=hi
 |[],h=>h
 |a::l,⟨m,h1,_,h3⟩=>Nat.le_trans h1 h3.le
def Qdi.foot{lo hi:Nat}:∀{l:List An},Qdi lo hi l->(Qak l).Nodup/\∀b,b∈Qak l->lo<=b/\b<hi
 |[],h=>⟨by simp[Qak],by simp[Qak]⟩
 |a::l,⟨m,h1,h2,h3⟩=>by
  obtain⟨g1,g2⟩:=h3.foot;unfold Qak;refine⟨List.nodup_append.2 ⟨h2.1,g1,λx hx y hy e=>?_⟩,λb hb=>?_⟩
  ·subst e;have:=(h2.2 x hx).2;have:=(g2 x hy).1;omega
  ·rcases List.mem_append.1 hb with hb|hb
   ·have q1:=h2.2 b hb;have q2:=h3.le;exact⟨q1.1,by omega⟩
   ·have q1:=g2 b hb;exact⟨by omega,q1.2⟩
def JbZ{l:List An}(h:Qdi lo hi l)(hb:hi<=b)(k n:Int)(s:By)(o:Int)(c:Nat):Qce lo (b+1) (.mk k n s o b c l):=by
 obtain⟨g1,g2⟩:=h.foot;have hl:=h.le
 cases l with
 |nil=>exact⟨by simp[foot],by simp[foot]⟩
 |cons x r=>
  unfold Qce foot;refine⟨List.nodup_cons.2 ⟨λhm=>?_,g1⟩,λq hq=>?_⟩
  ·have:=(g2 b hm).2;omega
  ·rcases List.mem_cons.1 hq with rfl|hq
   ·exact⟨by omega,by omega⟩
   ·have:=g2 q hq;exact⟨this.1,by omega⟩
def Qdb(l:List An):List Value:=l.flatMap λa=>(Qaa a).toList
def KN{W:World}{b:Nat}:∀(l:List An)(i:Nat),(∀j u,(Qdb l)[j]?=some u->W.cell? ⟨b,i*5+j,none⟩=some u)->(∀a,a∈l->a.At W)->AtL W b i l
 |[],_,_,_=>by unfold AtL;trivial
 |a::l,i,h,hk=>by
  have e:Qdb (a::l)=(Qaa a).toList++Qdb l:=rfl;have hl:(Qaa a).toList.length=5:=by rw[Array.length_toList,J3]
  unfold AtL;refine⟨λj u hu=>h j u ?_,hk a zq,KN l (i+1) (λj u hu=>?_) λx hx=>hk x (List.mem_cons_of_mem _ hx)⟩
  ·rw[e,List.getElem?_append_left (List.getElem?_eq_some_iff.1 hu).1];exact hu
  ·have:=h (5+j) u (by rw[e,List.getElem?_append_right zo,hl,Nat.add_sub_cancel_left];exact hu);rw[show (i+1)*5+j=i*5+(5+j) by omega];exact this
def Qda(t:Tok):Array Value:=(yd t.kind t.text t.n t.off)
structure PAt(W:World)(p:Nat)(A:Option Addr)(C:Nat)(T:List Tok)(k:Nat):Prop where
 self:W.heap[p]?=some (.cells #[.slice A T.length C,Iv k] 92 (0,0))
 toks:∃b o,A=some ⟨b,o,none⟩/\b≠p/\∀i t,T[i]?=some t->∀j u,(Qda t).toList[j]?=some u->W.cell? ⟨b,o+i*4+j,none⟩=some u
 lt:k<T.length
 fin:∀i t,T[i]?=some t->(t.kind=4↔i+1=T.length)
 room:T.length<=1000000
def PAt.chg{p:Nat}{A:Option Addr}{C:Nat}{T:List Tok}{k:Nat}(h:PAt W p A C T k)(hc:yr W W'):PAt W' p A C T k:=by
 obtain⟨b,o,e,xA,ht⟩:=h.toks;exact⟨(hc.block p (Jb h.self)).trans h.self,⟨b,o,e,xA,λi t hi j u hu=>(hc.cell (World.block_lt_of_cell? W _ (ht i t hi j u hu))).trans (ht i t hi j u hu)⟩,h.lt,h.fin,h.room⟩
def PAt.next{p:Nat}{A:Option Addr}{C:Nat}{T:List Tok}{k:Nat}(h:PAt W p A C T k)(hk:k'<T.length):PAt (W.setCell ⟨p,1,none⟩ (Iv k')) p A C T k':=by
 obtain⟨b,o,e,xA,ht⟩:=h.toks;refine⟨?_,⟨b,o,e,xA,λi t hi j u hu=>?_⟩,hk,h.fin,h.room⟩
 ·rw[Jm h.self];rfl
 ·rw[World.cell?_setCell_other _ _ _ _ (by intro e';first|exact xA (congrArg Addr.block e')|exact xA (congrArg Addr.block e').symm)];exact ht i t hi j u hu
def Jbr{T:List Tok}{k:Nat}(h:k<T.length):T[k]?=some (hd (T.drop k)):=by
 rw[List.drop_eq_getElem_cons h];exact List.getElem?_eq_getElem h
def tail_drop{T:List Tok}{k:Nat}:(T.drop k).tail=T.drop (k+1):=by rw[List.tail_drop]
def PAt.more{p:Nat}{A:Option Addr}{C:Nat}{T:List Tok}{k:Nat}(h:PAt W p A C T k)(hk:(hd (T.drop k)).kind≠4):k+1<T.length:=by
 have h1:=(h.fin k _ (Jbr h.lt)).2;have:=h.lt;omega
def Qeo(o:Int):Value:=.iface 88 (.agg (yq 2 o))
def QgN(p:Nat)(w:World)(o:Int)(e:Ending)(w':World):Prop:=e=.panicked [{v:=Qeo o,recovered:=false}]/\Chg [p] w w'
def QgC:(prog.info? 134).map (·.size)=some 4:=zk
def Qau:(prog.info? 127).map (·.size)=some 5:=zk
def QfW:(prog.info? 88).map (·.size)=some 2:=zk
variable{a0 a1 a2 a3 v a4:Value}
def Qjk{w:World}{T t:Nat}(v0 v1 v2 v3:Value)(h:w.heap[T]?=some (.cells #[a0,a1,a2,a3] t (0,0))):
  ((((w.setCell ⟨T,0,none⟩ v0).setCell ⟨T,1,none⟩ v1).setCell ⟨T,2,none⟩ v2).setCell ⟨T,3,none⟩ v3).heap[T]?=some (.cells #[v0,v1,v2,v3] t (0,0)):=by
 exact QhT
def QiU{B:Nat}{w w1:World}{T:Nat}(v0 v1 v2 v3:Value)(h:Below B w w1)(hT:B<=T):Below B w ((((w1.setCell ⟨T,0,none⟩ v0).setCell ⟨T,1,none⟩ v1).setCell ⟨T,2,none⟩ v2).setCell ⟨T,3,none⟩ v3):=
 (((h.setCell hT v0).setCell hT v1).setCell hT v2).setCell hT v3
def PAt.cells{p:Nat}{A:Option Addr}{C:Nat}{T:List Tok}{k:Nat}(h:PAt W p A C T k):
  ∃b o,A=some ⟨b,o,none⟩/\W.cell? ⟨p,0,none⟩=some (.slice A T.length C)/\W.cell? ⟨p,1,none⟩=some (Iv k)/\
   W.cell? ⟨b,o+k*4,none⟩=some (Iv (hd (T.drop k)).kind)/\W.cell? ⟨b,o+k*4+1,none⟩=some (.string (bs (hd (T.drop k)).text))/\
   W.cell? ⟨b,o+k*4+2,none⟩=some (Iv (hd (T.drop k)).n)/\W.cell? ⟨b,o+k*4+3,none⟩=some (Iv (hd (T.drop k)).off):=by
 obtain⟨b,o,e,xA,ht⟩:=h.toks;have g:=ht k _ (Jbr h.lt);exact⟨b,o,e,by rw[Ja h.self];rfl,by rw[Ja h.self];rfl,g 0 _ rfl,g 1 _ rfl,g 2 _ rfl,g 3 _ rfl⟩
def Qfh(w:World)(t:Tok)(e:Ending)(w':World):Prop:=e=.returned (.agg (Qda t))/\yr w w'
def Kp(p:Nat)(A:Option Addr)(C:Nat)(T:List Tok)(k:Nat)(w:World)(h:PAt w p A C T k):Calls prog 92 #[Pt p] w (Qfh w (hd (T.drop k))):=by
 have hZ:=zQ w (.cells (yh 0 Em 0 0) 134);have hB:=(Below.refl w.heap.size w).alloc (Nat.le_refl _) (.cells (yh 0 Em 0 0) 134);obtain⟨b,o,rfl,p0,p1,t0,t1,t2,t3⟩:=(h.chg hB).cells;have hlt:=h.lt;generalize hd (T.drop k)=t at*;generalize hn:T.length=n at*;have bk:(k:Int)<(n:Int):=zo
 obtain⟨q0,q1,q2,q3⟩:(w.alloc (.cells (yh 0 Em 0 0) 134)).cell? ⟨w.heap.size,0,none⟩=some (Iv 0)/\(w.alloc (.cells (yh 0 Em 0 0) 134)).cell? ⟨w.heap.size,1,none⟩=some Em/\(w.alloc (.cells (yh 0 Em 0 0) 134)).cell? ⟨w.heap.size,2,none⟩=some (Iv 0)/\(w.alloc (.cells (yh 0 Em 0 0) 134)).cell? ⟨w.heap.size,3,none⟩=some (Iv 0):=by
  refine⟨?_,?_,?_,?_⟩<;>(rw[Ja hZ];rfl)
 have hf:=λj=>Jc hZ j
 have f0:=hf 0;have f1:=hf 1;have f2:=hf 2;have f3:=hf 3;have HZ:=Zh hZ;have HB:=Zh hB;clear hZ hB hf h hn hlt;go_enter func92,ntmps92;go_wp2;go_region;go_wp2;refine bodyPost_ret (results_cell_row rfl _ _ w.heap.size 134 (Qda t) (0,0) _ rfl (zQ w _) underlying134 rfl QgC) rfl ⟨rfl,((Below.refl w.heap.size w).alloc (Nat.le_refl _) _).drew⟩
def Qjo(p:Nat)(A:Option Addr)(C:Nat)(T:List Tok)(k:Nat)(kd:Int)(s:By)(w:World)(e:Ending)(w':World):Prop:=
 ((hd (T.drop k)).kind=kd/\(hd (T.drop k)).text=s/\e=.returned (.bool true)/\PAt w' p A C T (k+1)/\Chg [p] w w')\/
 (¬((hd (T.drop k)).kind=kd/\(hd (T.drop k)).text=s)/\e=.returned (.bool false)/\yr w w')
def Jt(p:Nat)(A:Option Addr)(C:Nat)(T:List Tok)(k:Nat)(kd:Int)(s:By)(w:World)(h:PAt w p A C T k)(h4:kd≠4):Calls prog 86 #[Pt p,Iv kd,Sv s] w (Qjo p A C T k kd s w):=by
 have HP:=Zh h;have cp:=Kp p A C T k w h;have hm:Hi ((hd (T.drop k)).kind=kd->k+1<T.length):=λe=>h.more (by rw[e];exact h4)
 have xA:Hi (Qjo p A C T k kd s w=λe w'=>((hd (T.drop k)).kind=kd/\(hd (T.drop k)).text=s/\e=.returned (.bool true)/\PAt w' p A C T (k+1)/\Chg [p] w w')\/
 (¬((hd (T.drop k)).kind=kd/\(hd (T.drop k)).text=s)/\e=.returned (.bool false)/\yr w w')):=rfl
 unfold Qfh at cp;generalize hd (T.drop k)=t at*;generalize Qjo p A C T k kd s w=R at*;obtain⟨tk,tx,tn,tf⟩:=t;unfold Qda at cp;simp only at cp;have u1:=Jj tx;have u2:=Jj s;clear h h4;go_enter func86,ntmps86;go_wp2_with fail;refine cp.mono ?_;rintro e w1 ⟨rfl,R0⟩;have hA:=R0.alloc R0.size (.cells (yd tk tx tn tf) 134);have yA:=HP.o.chg hA;have hN:=zQ w1 (.cells (yd tk tx tn tf) 134);have hk:k<=1000000:=by have:=yA.lt;have:=yA.room;omega
 have wk:=zI k;have pc:=Ja yA.self 1;have pf:=Jc yA.self 1;have c0:(w1.alloc (.cells (yd tk tx tn tf) 134)).cell? ⟨w1.heap.size,0,none⟩=some (Iv tk):=by rw[Ja hN];rfl
 have c1:(w1.alloc (.cells (yd tk tx tn tf) 134)).cell? ⟨w1.heap.size,1,none⟩=some (Sv tx):=by rw[Ja hN];rfl
 simp only[zW]at pc;have HA:=Zh hA;have R9:=Zh yA;clear hA yA hN R0 cp hk
 by_cases T8:tk=kd
 ·subst T8;have d1:(tk==tk)=true:=zq
  by_cases hts:tx=s
  ·subst hts;have d2:(tx==tx)=true:=zq;have HF:Hi (PAt ((w1.alloc (.cells (yd tk tx tn tf) 134)).setCell ⟨p,1,none⟩ (Iv ((k+1:Nat):Int))) p A C T (k+1)):=R9.o.next (hm.o rfl);go_wp2;rw[xA.o];exact .inl ⟨by first|trivial|rfl,by first|trivial|rfl,rfl,HF.o,(Chg.of_below HA.o [p]).setCell (.inl zq) _⟩
  ·have d2:(tx==s)=false:=zM hts;have HT:=Zh hts;clear hts;go_wp2;rw[xA.o];exact .inr ⟨λh=>HT.o h.2,rfl,HA.o⟩
 ·have d1:(tk==kd)=false:=zM T8;have HT:=Zh T8;clear T8;go_wp2;rw[xA.o];exact .inr ⟨λh=>HT.o h.1,rfl,HA.o⟩
def Qik(w:World)(o:Int)(e:Ending)(w':World):Prop:=e=.returned (.agg (yq 2 o))/\yr w w'
def KO(p:Nat)(A:Option Addr)(C:Nat)(T:List Tok)(k:Nat)(w:World)(h:PAt w p A C T k):Calls prog 93 #[Pt p] w (Qik w (hd (T.drop k)).off):=by
 have hZ:=zQ w (.cells (yq 0 0) 88);have hB:=(Below.refl w.heap.size w).alloc (Nat.le_refl _) (.cells (yq 0 0) 88);have cp:=Kp p A C T k _ (h.chg hB);unfold Qfh at cp;generalize hd (T.drop k)=t at*;obtain⟨tk,tx,tn,tf⟩:=t;unfold Qda at cp;simp only at cp |-;have HZ:=Zh hZ;have HB:=Zh hB;have hfl:∀W:World,(Instr.field 134 (.agg (yd tk tx tn tf)) 3).run prog W=.ok (Iv tf) W:=λW=>by kernel_rfl
 clear hZ hB h;go_enter func93,ntmps93;go_wp2_with fail;refine cp.mono ?_;rintro e w1 ⟨rfl,R0⟩;have xA:=(R0.block _ (Jb HZ.o)).trans HZ.o;have c0:w1.cell? ⟨w.heap.size,0,none⟩=some (Iv 0):=by rw[Ja xA];rfl
 have c1:w1.cell? ⟨w.heap.size,1,none⟩=some (Iv 0):=by rw[Ja xA];rfl
 have f0:=Jc xA 0;have f1:=Jc xA 1;have H1:=Zh xA;have yA:=Zh (HB.o.trans (R0.mono HB.o.size));clear xA R0 cp;go_wp2;refine bodyPost_ret (results_cell_row rfl _ _ w.heap.size 88 (yq 2 tf) (0,0) _ rfl (heap_setCell_same _ _ 1 _ _ _ (heap_setCell_same _ _ 0 _ _ _ H1.o)) underlying88 rfl QfW) rfl ⟨rfl,(yA.o.setCell (Nat.le_refl _) _).setCell (Nat.le_refl _) _⟩
def QeE(p:Nat)(A:Option Addr)(C:Nat)(T:List Tok)(k:Nat)(kd:Int)(s:By)(w:World)(e:Ending)(w':World):Prop:=
 ((hd (T.drop k)).kind=kd/\(hd (T.drop k)).text=s/\e=.returned (.tuple #[])/\PAt w' p A C T (k+1)/\Chg [p] w w')\/
 (¬((hd (T.drop k)).kind=kd/\(hd (T.drop k)).text=s)/\QgN p w (hd (T.drop k)).off e w')
def Qjz{P:Prop}(h:P:=by
  have R5:=HP.o.chg L1;clear g1 ca HP L1;go_wp2_with fail;refine(cw _ R5).mono ?_;rintro e w2 ⟨rfl,I0⟩;go_wp2;refine⟨rfl,?_⟩;rw[HR.o]
  exact .inr ⟨HF.o.1,rfl,Chg.of_below (HF.o.2.trans (I0.mono HF.o.2.size)) [p]⟩):P:=h
def Qhe{P:Prop}(h:P:=by
  clear g1 g2 R5 hc1 ca cw HP;go_wp2;go_end0;rw[HR.o]
  exact .inl ⟨HF.o.1.1,HF.o.1.2,rfl,HF.o.2⟩):P:=h
def Jjs(p:Nat)(A:Option Addr)(C:Nat)(T:List Tok)(k:Nat)(s:By)(w:World)(h:PAt w p A C T k):Calls prog 89 #[Pt p,Sv s] w (QeE p A C T k 0 s w):=by
 have ca:=Jt p A C T k 0 s w h zp;have cw:=λW hW=>KO p A C T k W hW
 have HP:=Zh h
 have HR:Hi (∀e w',QeE p A C T k 0 s w e w'=(((hd (T.drop k)).kind=0/\(hd (T.drop k)).text=s/\e=.returned (.tuple #[])/\PAt w' p A C T (k+1)/\Chg [p] w w')\/
 (¬((hd (T.drop k)).kind=0/\(hd (T.drop k)).text=s)/\QgN p w (hd (T.drop k)).off e w'))):=λ_ _=>rfl
 generalize QeE p A C T k 0 s w=R at*;clear h;go_enter func89,ntmps89;go_wp2_with fail;refine ca.mono ?_;rintro e w1 h1
 rcases h1 with⟨g1,g2,rfl,R5,hc1⟩|⟨g1,rfl,L1⟩
 ·have HF:Hi (((hd (T.drop k)).kind=0/\(hd (T.drop k)).text=s)/\PAt w1 p A C T (k+1)/\Chg [p] w w1):=⟨⟨g1,g2⟩,R5,hc1⟩
  exact Qhe
 ·have HF:Hi (¬((hd (T.drop k)).kind=0/\(hd (T.drop k)).text=s)/\yr w w1):=⟨g1,L1⟩
  exact Qjz
def Qfo{P:Prop}(h:P:=by
  go_enter func54,ntmps54;go_wp2;go_ret2
  exact⟨rfl,rfl⟩):P:=h
def Zi(s:By)(w:World):Calls prog 54 #[Sv s] w (Qei (.tuple #[Iv ((QaU s).getD 0),.bool (QaU s).isSome]) w):=by
 have u1:=Jj s
 by_cases h0:s=[108,105,107,101,115]
 ·have e0:(s==[108,105,107,101,115])=true:=zN h0;have HR:QaU s=some 0:=by rw[h0];decide
  rw[HR];clear HR h0;exact Qfo
 have e0:(s==[108,105,107,101,115])=false:=zM h0
 by_cases h1:s=[98,111,111,115,116,115]
 ·have e1:(s==[98,111,111,115,116,115])=true:=zN h1;have HR:QaU s=some 0:=by rw[h1];decide
  rw[HR];clear HR h0 h1;exact Qfo
 have e1:(s==[98,111,111,115,116,115])=false:=zM h1
 by_cases h2:s=[114,101,112,108,105,101,115]
 ·have e2:(s==[114,101,112,108,105,101,115])=true:=zN h2;have HR:QaU s=some 0:=by rw[h2];decide
  rw[HR];clear HR h0 h1 h2;exact Qfo
 have e2:(s==[114,101,112,108,105,101,115])=false:=zM h2
 by_cases h3:s=[114,101,112,111,114,116,115]
 ·have e3:(s==[114,101,112,111,114,116,115])=true:=zN h3;have HR:QaU s=some 0:=by rw[h3];decide
  rw[HR];clear HR h0 h1 h2 h3;exact Qfo
 have e3:(s==[114,101,112,111,114,116,115])=false:=zM h3
 by_cases h4:s=[97,103,101]
 ·have e4:(s==[97,103,101])=true:=zN h4;have HR:QaU s=some 0:=by rw[h4];decide
  rw[HR];clear HR h0 h1 h2 h3 h4;exact Qfo
 have e4:(s==[97,103,101])=false:=zM h4
 by_cases h5:s=[104,111,109,101]
 ·have e5:(s==[104,111,109,101])=true:=zN h5;have HR:QaU s=some 0:=by rw[h5];decide
  rw[HR];clear HR h0 h1 h2 h3 h4 h5;exact Qfo
 have e5:(s==[104,111,109,101])=false:=zM h5
 by_cases h6:s=[115,99,111,112,101]
 ·have e6:(s==[115,99,111,112,101])=true:=zN h6;have HR:QaU s=some 0:=by rw[h6];decide
  rw[HR];clear HR h0 h1 h2 h3 h4 h5 h6;exact Qfo
 have e6:(s==[115,99,111,112,101])=false:=zM h6
 by_cases h7:s=[108,101,110,103,116,104]
 ·have e7:(s==[108,101,110,103,116,104])=true:=zN h7;have HR:QaU s=some 0:=by rw[h7];decide
  rw[HR];clear HR h0 h1 h2 h3 h4 h5 h6 h7;exact Qfo
 have e7:(s==[108,101,110,103,116,104])=false:=zM h7
 by_cases h8:s=[102,111,108,108,111,119,115]
 ·have e8:(s==[102,111,108,108,111,119,115])=true:=zN h8;have HR:QaU s=some 1:=by rw[h8];decide
  rw[HR];clear HR h0 h1 h2 h3 h4 h5 h6 h7 h8;exact Qfo
 have e8:(s==[102,111,108,108,111,119,115])=false:=zM h8
 by_cases h9:s=[114,101,112,108,121]
 ·have e9:(s==[114,101,112,108,121])=true:=zN h9;have HR:QaU s=some 1:=by rw[h9];decide
  rw[HR];clear HR h0 h1 h2 h3 h4 h5 h6 h7 h8 h9;exact Qfo
 have e9:(s==[114,101,112,108,121])=false:=zM h9
 have HR:QaU s=none:=by
  unfold QaU;rw[if_neg (by simp only[mem_cons,List.not_mem_nil,not_or,or_false,Qco,Qch,QbD,QbC,QfI,QdQ,QcS,Qcg];exact⟨h0,h1,h2,h3,h4,h5,h6,h7⟩),if_neg (by simp only[mem_cons,List.not_mem_nil,not_or,or_false,QbE,Qep];exact⟨h8,h9⟩)]
 rw[HR];clear HR h0 h1 h2 h3 h4 h5 h6 h7 h8 h9;exact Qfo
def QdP{P:Prop}(h:P:=by
  go_enter func55,ntmps55;go_wp2;go_ret
  exact⟨rfl,rfl⟩):P:=h
def QgX{P:Prop}(h:P:=by
  rw[HR];clear HR h0 h1 h2 h3 h4 h5 h6 h7 h8 h9 C2 h11 h12 m6 L8 E8 F7 H6 C6 M3 T3
  exact QdP):P:=h
def JdE(s:By)(w:World):Calls prog 55 #[Sv s] w (Qei (.bool (Qaq s)) w):=by
 have u1:=Jj s
 by_cases h0:s=[97,110,100]
 ·have e0:(s==[97,110,100])=true:=zN h0;have HR:Qaq s=true:=by rw[h0];decide
  rw[HR];clear HR h0;exact QdP
 have e0:(s==[97,110,100])=false:=zM h0
 by_cases h1:s=[98,111,111,108]
 ·have e1:(s==[98,111,111,108])=true:=zN h1;have HR:Qaq s=true:=by rw[h1];decide
  rw[HR];clear HR h0 h1;exact QdP
 have e1:(s==[98,111,111,108])=false:=zM h1
 by_cases h2:s=[100,101,102]
 ·have e2:(s==[100,101,102])=true:=zN h2;have HR:Qaq s=true:=by rw[h2];decide
  rw[HR];clear HR h0 h1 h2;exact QdP
 have e2:(s==[100,101,102])=false:=zM h2
 by_cases h3:s=[100,101,102,97,117,108,116]
 ·have e3:(s==[100,101,102,97,117,108,116])=true:=zN h3;have HR:Qaq s=true:=by rw[h3];decide
  rw[HR];clear HR h0 h1 h2 h3;exact QdP
 have e3:(s==[100,101,102,97,117,108,116])=false:=zM h3
 by_cases h4:s=[101,108,115,101]
 ·have e4:(s==[101,108,115,101])=true:=zN h4;have HR:Qaq s=true:=by rw[h4];decide
  rw[HR];clear HR h0 h1 h2 h3 h4;exact QdP
 have e4:(s==[101,108,115,101])=false:=zM h4
 by_cases h5:s=[102,97,108,115,101]
 ·have e5:(s==[102,97,108,115,101])=true:=zN h5;have HR:Qaq s=true:=by rw[h5];decide
  rw[HR];clear HR h0 h1 h2 h3 h4 h5;exact QdP
 have e5:(s==[102,97,108,115,101])=false:=zM h5
 by_cases h6:s=[104,105,100,101]
 ·have e6:(s==[104,105,100,101])=true:=zN h6;have HR:Qaq s=true:=by rw[h6];decide
  rw[HR];clear HR h0 h1 h2 h3 h4 h5 h6;exact QdP
 have e6:(s==[104,105,100,101])=false:=zM h6
 by_cases h7:s=[105,102]
 ·have e7:(s==[105,102])=true:=zN h7;have HR:Qaq s=true:=by rw[h7];decide
  rw[HR];clear HR h0 h1 h2 h3 h4 h5 h6 h7;exact QdP
 have e7:(s==[105,102])=false:=zM h7
 by_cases h8:s=[105,110]
 ·have e8:(s==[105,110])=true:=zN h8;have HR:Qaq s=true:=by rw[h8];decide
  rw[HR];clear HR h0 h1 h2 h3 h4 h5 h6 h7 h8;exact QdP
 have e8:(s==[105,110])=false:=zM h8
 by_cases h9:s=[105,110,116]
 ·have e9:(s==[105,110,116])=true:=zN h9;have HR:Qaq s=true:=by rw[h9];decide
  rw[HR];clear HR h0 h1 h2 h3 h4 h5 h6 h7 h8 h9;exact QdP
 have e9:(s==[105,110,116])=false:=zM h9
 by_cases C2:s=[108,97,98,101,108]
 ·have bA:(s==[108,97,98,101,108])=true:=zN C2;have HR:Qaq s=true:=by rw[C2];decide
  rw[HR];clear HR h0 h1 h2 h3 h4 h5 h6 h7 h8 h9 C2;exact QdP
 have bA:(s==[108,97,98,101,108])=false:=zM C2
 by_cases h11:s=[108,101,116]
 ·have xA:(s==[108,101,116])=true:=zN h11;have HR:Qaq s=true:=by rw[h11];decide
  rw[HR];clear HR h0 h1 h2 h3 h4 h5 h6 h7 h8 h9 C2 h11;exact QdP
 have xA:(s==[108,101,116])=false:=zM h11
 by_cases h12:s=[108,105,109,105,116]
 ·have gA:(s==[108,105,109,105,116])=true:=zN h12;have HR:Qaq s=true:=by rw[h12];decide
  rw[HR];clear HR h0 h1 h2 h3 h4 h5 h6 h7 h8 h9 C2 h11 h12;exact QdP
 have gA:(s==[108,105,109,105,116])=false:=zM h12
 by_cases m6:s=[109,101,100,105,97]
 ·have aA:(s==[109,101,100,105,97])=true:=zN m6;have HR:Qaq s=true:=by rw[m6];decide
  rw[HR];clear HR h0 h1 h2 h3 h4 h5 h6 h7 h8 h9 C2 h11 h12 m6;exact QdP
 have aA:(s==[109,101,100,105,97])=false:=zM m6
 by_cases L8:s=[110,111,116]
 ·have yA:(s==[110,111,116])=true:=zN L8;have HR:Qaq s=true:=by rw[L8];decide
  rw[HR];clear HR h0 h1 h2 h3 h4 h5 h6 h7 h8 h9 C2 h11 h12 m6 L8;exact QdP
 have yA:(s==[110,111,116])=false:=zM L8
 by_cases E8:s=[111,114]
 ·have uA:(s==[111,114])=true:=zN E8;have HR:Qaq s=true:=by rw[E8];decide
  rw[HR];clear HR h0 h1 h2 h3 h4 h5 h6 h7 h8 h9 C2 h11 h12 m6 L8 E8;exact QdP
 have uA:(s==[111,114])=false:=zM E8
 by_cases F7:s=[115,104,111,119]
 ·have vA:(s==[115,104,111,119])=true:=zN F7;have HR:Qaq s=true:=by rw[F7];decide
  rw[HR];clear HR h0 h1 h2 h3 h4 h5 h6 h7 h8 h9 C2 h11 h12 m6 L8 E8 F7;exact QdP
 have vA:(s==[115,104,111,119])=false:=zM F7
 by_cases H6:s=[116,104,101,110]
 ·have eA:(s==[116,104,101,110])=true:=zN H6;have HR:Qaq s=true:=by rw[H6];decide
  rw[HR];clear HR h0 h1 h2 h3 h4 h5 h6 h7 h8 h9 C2 h11 h12 m6 L8 E8 F7 H6;exact QdP
 have eA:(s==[116,104,101,110])=false:=zM H6
 by_cases C6:s=[116,114,117,101]
 ·have zA:(s==[116,114,117,101])=true:=zN C6;have HR:Qaq s=true:=by rw[C6];decide
  rw[HR];clear HR h0 h1 h2 h3 h4 h5 h6 h7 h8 h9 C2 h11 h12 m6 L8 E8 F7 H6 C6;exact QdP
 have zA:(s==[116,114,117,101])=false:=zM C6
 by_cases M3:s=[119,104,101,110]
 ·have cA:(s==[119,104,101,110])=true:=zN M3;have HR:Qaq s=true:=by rw[M3];decide
  rw[HR];clear HR h0 h1 h2 h3 h4 h5 h6 h7 h8 h9 C2 h11 h12 m6 L8 E8 F7 H6 C6 M3;exact QdP
 have cA:(s==[119,104,101,110])=false:=zM M3
 by_cases T3:s=[119,111,114,100]
 ·have dA:(s==[119,111,114,100])=true:=zN T3;have HR:Qaq s=true:=by rw[T3];decide
  exact QgX
 have dA:(s==[119,111,114,100])=false:=zM T3;have HR:Qaq s=false:=by unfold Qaq;exact zH (by simp only[mem_cons,List.not_mem_nil,not_or,or_false,Qih,QeA,Qig,Qdd,Qfs,QeN,Qez,kIf,kIn,QgB,QeM,QgA,QdF,QdE,QgQ,kOr,Qey,Qen,QfU,Qfr,QfT];exact⟨h0,h1,h2,h3,h4,h5,h6,h7,h8,h9,C2,h11,h12,m6,L8,E8,F7,H6,C6,M3,T3⟩)
 exact QgX
def JlH(m:Nat)(c:UInt8)(hc:c.toNat=m):Qdw c=true↔(97<=m/\m<=122)\/(48<=m/\m<=57)\/m=95:=by
 subst hc;unfold Qdw Qef Qgi;simp only[Bool.or_eq_true,Bool.and_eq_true,decide_eq_true_eq,beq_iff_eq]
 constructor
 ·rintro ((h|h)|h)
  ·exact .inl h
  ·exact .inr (.inl h)
  ·subst h;exact .inr (.inr rfl)
 ·rintro (h|h|h)
  ·exact .inl (.inl h)
  ·exact .inl (.inr h)
  ·exact .inr (UInt8.toNat_inj.1 h)
def JfJ(c:UInt8)(r:By):Qbr (c::r)=(decide ((c::r).length<=24)&&Qef c&&(c::r).all Qdw&&(QaU (c::r)).isNone&&!Qaq (c::r)):=rfl
def JeE{p:UInt8->Bool}{s:By}{k:Nat}{c:UInt8}(h:(s.take k).all p=true)(hc:s[k]?=some c)(hp:p c=true):(s.take (k+1)).all p=true:=by
 rw[List.take_add_one,hc,List.all_append,h];simp[hp]
def JgR{p:UInt8->Bool}{s:By}{k:Nat}{c:UInt8}(hc:s[k]?=some c)(hp:p c=false):s.all p=false:=by
 cases h:s.all p with
 |false=>rfl
 |true=>
  have:=List.all_eq_true.1 h c (List.mem_of_getElem? hc);rw[hp]at this
  cases this
def JdF(m:Nat)(c:UInt8)(hc:c.toNat=m):Qef c=true↔97<=m/\m<=122:=by
 subst hc;unfold Qef;simp
def Qis{P:Prop}(h:P:=by
  go_wp2;go_round
  case rel=>exact⟨k+1,by go_num,hkn,QF⟩
  case measure=>simp[intOf];omega):P:=h
def QgT{P:Prop}(h:P:=by
  go_enter func24,ntmps24;go_wp2;go_ret
  exact⟨rfl,rfl⟩):P:=h
def Jca(s:By)(w:World)(hs:s.length<=1000000):Calls prog 24 #[Sv s] w (Qei (.bool (Qbr s)) w):=by
 have u1:=Jj s;have z1:=JJ s;have cf:=λW=>Zi s W
 have ck:=λW=>JdE s W
 cases s with
 |nil=>
  have e0:(([]:By)==[])=true:=rfl;exact QgT
 |cons c0 r0=>
 have hI:=JfJ c0 r0;have bA:(c0::r0)[0]?=some c0:=rfl;have e0:((c0::r0)==[])=false:=rfl;have xB:(c0::r0).isEmpty=false:=rfl;have aA:0<(c0::r0).length:=zq;generalize c0::r0=s at*;obtain⟨m0,uA⟩:∃m,c0.toNat=m:=⟨_,rfl⟩
 have yB:∀h,((bs s)[0]'h).toNat=m0:=λh=>by
  obtain⟨_,h2⟩:=List.getElem?_eq_some_iff.1 bA;rw[<-uA,<-h2];rfl
 obtain⟨n,hn⟩:=yt s.length
 obtain⟨q,hq⟩:=yt (Qbr s)
 have R4:0<n:=by rw[<-hn];exact aA
 have iA:m0<256:=by rw[<-uA];exact c0.toNat_lt
 rw[hq]at hI |-;rw[hn]at hI z1 hs;clear hq aA
 by_cases P9:n<=24
 ·have d1:decide (24<(n:Int))=false:=zH zo;have nA:decide (24<n)=false:=zH zo
  by_cases hlo:97<=m0
  ·have d2:decide ((m0:Int)<97)=false:=zH zo;have kA:decide (m0<97)=false:=zH zo
   by_cases C9:m0<=122
   ·have d3:decide (122<(m0:Int))=false:=zH zo;have mA:decide (122<m0)=false:=zH zo;have yA:Qef c0=true:=(JdF m0 c0 uA).2 ⟨hlo,C9⟩;rw[yA,zG P9]at hI;simp only[Bool.true_and]at hI;have HI:=Zh hI;have HN:=Zh hn;have sA:=Zh P9;clear hI yA hlo C9 uA bA hs;go_enter func24,ntmps24;go_wp2;go_loop [26] (λv=>∃k:Nat,v=Iv k/\k<=n/\Hi ((s.take k).all Qdw=true)) λv=>n-(intOf v).toNat
    case atStart=>exact⟨0,rfl,Nat.zero_le _,by unfold Hi;rfl⟩
    case round=>
     obtain⟨k,rfl,hk,hz⟩:=hrel;have wk:IntKind.i64.wrap ((k:Int)+1)=(k:Int)+1:=IntWalk.i64_in _ (zu sA.o)
     by_cases hkn:k<n
     ·have dk:decide ((k:Int)<(n:Int))=true:=zG zo;have qA:decide (k<n)=true:=zG hkn;have bk:(k:Int)<(n:Int):=zo;obtain⟨c,hc⟩:∃c,s[k]?=some c:=⟨_,List.getElem?_eq_getElem (zu HN.o)⟩
      obtain⟨m,hm⟩:=yt c.toNat
      have hA:m<256:=by rw[<-hm];exact c.toNat_lt
      have hg:∀h,((bs s)[k]'h).toNat=m:=λh=>by
       obtain⟨_,h2⟩:=List.getElem?_eq_some_iff.1 hc;rw[<-hm,<-h2];rfl
      have hw:=JlH m c hm
      by_cases hwo:(97<=m/\m<=122)\/(48<=m/\m<=57)\/m=95
      ·have QF:=Zh (JeE hz.o hc (hw.2 hwo));clear hz hc hm hw
       rcases hwo with⟨g1,g2⟩|⟨g1,g2⟩|g1
       ·have a1:decide ((m:Int)<97)=false:=zH zo;have vA:decide (m<97)=false:=zH zo;have a2:decide (122<(m:Int))=false:=zH zo;have pA:decide (122<m)=false:=zH zo;clear g1 g2;exact Qis
       ·have a1:decide ((m:Int)<97)=true:=zG zo;have vA:decide (m<97)=true:=zG zo;have b1:decide ((m:Int)<48)=false:=zH zo;have cA:decide (m<48)=false:=zH zo;have b2:decide (57<(m:Int))=false:=zH zo;have eA:decide (57<m)=false:=zH zo;clear g1 g2;exact Qis
       ·have a1:decide ((m:Int)<97)=true:=zG zo;have vA:decide (m<97)=true:=zG zo;have b1:decide ((m:Int)<48)=false:=zH zo;have cA:decide (m<48)=false:=zH zo;have b2:decide (57<(m:Int))=true:=zG zo;have eA:decide (57<m)=true:=zG zo;have e1:((m:Int)==95)=true:=zN zo;have dA:(m==95)=true:=zN zo;clear g1;exact Qis
      ·have hb:Qdw c=false:=by cases h:Qdw c with|false=>rfl|true=>exact absurd (hw.1 h) hwo
       have A3:q=false:=by rw[HI.o,JgR hc hb];rfl
       subst A3;clear hz hc hm hw hb HI cf ck
       by_cases l1:m<48
       ·have a1:decide ((m:Int)<97)=true:=zG zo;have vA:decide (m<97)=true:=zG zo;have b1:decide ((m:Int)<48)=true:=zG zo;have cA:decide (m<48)=true:=zG zo;have e1:((m:Int)==95)=false:=zM zo;have dA:(m==95)=false:=zM zo;clear l1;clear hwo;go_wp2;go_ret;exact⟨rfl,rfl⟩
       by_cases l2:m<97
       ·have tA:m≠95:=λh=>hwo (.inr (.inr h))
        have rA:57<m:=by have:=λh=>hwo (.inr (.inl h));omega
        have a1:decide ((m:Int)<97)=true:=zG zo;have vA:decide (m<97)=true:=zG zo;have b1:decide ((m:Int)<48)=false:=zH zo;have cA:decide (m<48)=false:=zH zo;have b2:decide (57<(m:Int))=true:=zG zo;have eA:decide (57<m)=true:=zG zo;have e1:((m:Int)==95)=false:=zM zo;have dA:(m==95)=false:=zM zo;clear l1 l2 tA rA;clear hwo;go_wp2;go_ret;exact⟨rfl,rfl⟩
       have gA:122<m:=by have:=λh=>hwo (.inl h);omega
       have a1:decide ((m:Int)<97)=false:=zH zo;have vA:decide (m<97)=false:=zH zo;have a2:decide (122<(m:Int))=true:=zG zo;have pA:decide (122<m)=true:=zG zo;have b1:decide ((m:Int)<48)=false:=zH zo;have cA:decide (m<48)=false:=zH zo;have b2:decide (57<(m:Int))=true:=zG zo;have eA:decide (57<m)=true:=zG zo;have e1:((m:Int)==95)=false:=zM zo;have dA:(m==95)=false:=zM zo;clear l1 l2 gA;clear hwo;go_wp2;go_ret;exact⟨rfl,rfl⟩
     ·have dk:decide ((k:Int)<(n:Int))=false:=zH zo;have qA:decide (k<n)=false:=zH hkn
      have zA:s.all Qdw=true:=by
       have:=hz.o
       rwa [List.take_of_length_le (zu HN.o)]at this
      have xA:=HI.o;rw[zA]at xA;simp only[Bool.true_and]at xA
      cases hf:QaU s with
      |some v=>
       rw[hf]at cf xA;have A3:q=false:=xA;subst A3;clear hz zA xA HI hf ck;simp only[Option.getD,Option.isSome]at cf;go_wp2_with fail;refine(cf _).mono ?_;rintro e w1 ⟨rfl,rfl⟩;go_wp2;go_ret;exact⟨rfl,rfl⟩
      |none=>
       rw[hf]at cf xA;simp only[Option.getD,Option.isSome]at cf;obtain⟨kb,jA⟩:=yt (Qaq s)
       rw[jA]at ck xA;have A3:q=!kb:=xA;subst A3;clear hz zA xA HI hf jA;go_wp2_with fail;refine(cf _).mono ?_;rintro e w1 ⟨rfl,rfl⟩;go_wp2_with fail;refine(ck _).mono ?_;rintro e w1 ⟨rfl,rfl⟩;go_wp2;go_ret;exact⟨rfl,rfl⟩
   ·have d3:decide (122<(m0:Int))=true:=zG zo;have mA:decide (122<m0)=true:=zG zo;have yA:Qef c0=false:=by cases h:Qef c0 with|false=>rfl|true=>exact absurd ((JdF m0 c0 uA).1 h).2 C9
    have A3:q=false:=by rw[hI,yA];simp
    subst A3;clear hI yA cf ck hlo C9 bA;exact QgT
  ·have d2:decide ((m0:Int)<97)=true:=zG zo;have kA:decide (m0<97)=true:=zG zo;have yA:Qef c0=false:=by cases h:Qef c0 with|false=>rfl|true=>exact absurd ((JdF m0 c0 uA).1 h).1 hlo
   have A3:q=false:=by rw[hI,yA];simp
   subst A3;clear hI yA cf ck hlo bA;exact QgT
 ·have d1:decide (24<(n:Int))=true:=zG zo;have nA:decide (24<n)=true:=zG zo;have A3:q=false:=by rw[hI,zH P9];simp
  subst A3;clear hI cf ck P9 bA;exact QgT
def OkP(p:Nat)(A:Option Addr)(C:Nat)(T:List Tok)(w:World)(v:Value)(r:List Tok)(e:Ending)(w':World):Prop:=
 e=.returned v/\(∃k',r=T.drop k'/\PAt w' p A C T k')/\Chg [p] w w'
def PRp{α:Type}(p:Nat)(A:Option Addr)(C:Nat)(T:List Tok)(w:World)(f:α->Value)(x:PR α)(e:Ending)(w':World):Prop:=
 match x with
 |.out=>True
 |.bad o=>QgN p w o e w'
 |.ok a r=>OkP p A C T w (f a) r e w'
variable{kd of:Int}
def JN{s:By}{T:List Tok}{k:Nat}(h1:(hd (T.drop k)).kind=kd)(h2:(hd (T.drop k)).text=s):acc kd s (T.drop k)=some (T.drop (k+1)):=by
 unfold acc;rw[if_pos ⟨h1,h2⟩,tail_drop]
variable{r:List Tok}
def Kf{s:By}(h:¬((hd r).kind=kd/\(hd r).text=s)):acc kd s r=none:=if_neg h
variable{e:Ending}
def JgS{p:Nat}{A:Option Addr}{C:Nat}{T:List Tok}{k:Nat}{s:By}{w:World}(h:QeE p A C T k kd s w e w'):PRp p A C T w (λ_=>.tuple #[]) (Qar kd s (T.drop k)) e w':=by
 unfold Qar
 rcases h with⟨h1,h2,h3,h4,h5⟩|⟨h1,h2⟩
 ·rw[JN h1 h2];exact⟨h3,⟨k+1,rfl,h4⟩,h5⟩
 ·rw[Kf h1];exact h2
section
variable (p:Nat)(A:Option Addr)(C:Nat)(T:List Tok)(k:Nat)(s:By)(w:World)(h:PAt w p A C T k)
include p A C T k s w h
theorem Jjt:Calls prog 134 #[Pt p,Sv s] w (QeE p A C T k 3 s w):=by
 have ca:=Jt p A C T k 3 s w h zp;have cw:=λW hW=>KO p A C T k W hW
 have HP:=Zh h
 have HR:Hi (∀e w',QeE p A C T k 3 s w e w'=(((hd (T.drop k)).kind=3/\(hd (T.drop k)).text=s/\e=.returned (.tuple #[])/\PAt w' p A C T (k+1)/\Chg [p] w w')\/
 (¬((hd (T.drop k)).kind=3/\(hd (T.drop k)).text=s)/\QgN p w (hd (T.drop k)).off e w'))):=λ_ _=>rfl
 generalize QeE p A C T k 3 s w=R at*;clear h;go_enter func134,ntmps134;go_wp2_with fail;refine ca.mono ?_;rintro e w1 h1
 rcases h1 with⟨g1,g2,rfl,R5,hc1⟩|⟨g1,rfl,L1⟩
 ·have HF:Hi (((hd (T.drop k)).kind=3/\(hd (T.drop k)).text=s)/\PAt w1 p A C T (k+1)/\Chg [p] w w1):=⟨⟨g1,g2⟩,R5,hc1⟩
  exact Qhe
 ·have HF:Hi (¬((hd (T.drop k)).kind=3/\(hd (T.drop k)).text=s)/\yr w w1):=⟨g1,L1⟩
  exact Qjz
theorem Qfn:Calls prog 89 #[Pt p,Sv s] w (PRp p A C T w (λ_=>.tuple #[]) (Qar 0 s (T.drop k))):=(Jjs p A C T k s w h).mono λ_ _=>JgS
theorem Qdv:Calls prog 134 #[Pt p,Sv s] w (PRp p A C T w (λ_=>.tuple #[]) (Qar 3 s (T.drop k))):=(Jjt p A C T k s w h).mono λ_ _=>JgS
end
variable{k:Nat}
def PAt.setFar{p:Nat}{A:Option Addr}{C:Nat}{T:List Tok}(h:PAt W p A C T k)(h1:q≠p)(h2:∀b o,A=some ⟨b,o,none⟩->q≠b)(j:Nat)(u:Value):PAt (W.setCell ⟨q,j,none⟩ u) p A C T k:=by
 obtain⟨b,o,e,xA,ht⟩:=h.toks;refine⟨Ji h.self (Ne.symm h1) u,⟨b,o,e,xA,λi t hi j' u' hu=>?_⟩,h.lt,h.fin,h.room⟩;exact(World.cell?_setCell_far W ⟨q,j,none⟩ _ u (by simp;exact λe'=>h2 b o e e')).trans (ht i t hi j' u' hu)
def PAt.tokLt{p:Nat}{A:Option Addr}{C:Nat}{T:List Tok}(h:PAt W p A C T k):∀b o,A=some ⟨b,o,none⟩->b<W.heap.size:=by
 intro b o e;obtain⟨b',o',e',_,t0,_⟩:=h.cells;rw[e]at e';simp only[Option.some.injEq,Addr.mk.injEq]at e';obtain⟨rfl,rfl,_⟩:=e';obtain⟨b2,o2,e2,xA,ht⟩:=h.toks;rw[e]at e2;simp only[Option.some.injEq,Addr.mk.injEq]at e2;obtain⟨rfl,rfl,_⟩:=e2;exact World.block_lt_of_cell? W _ (ht k _ (Jbr h.lt) 0 _ rfl)
def Jbs{p i j:Nat}{u:Value}(h:q≠p)(hc:W.cell? ⟨q,j,none⟩=some v):(W.setCell ⟨p,i,none⟩ u).cell? ⟨q,j,none⟩=some v:=(World.cell?_setCell_far W ⟨p,i,none⟩ ⟨q,j,none⟩ u (Ne.symm h)).trans hc
def Qjl{w:World}{T t:Nat}(v0 v1:Value)(h:w.heap[T]?=some (.cells #[a0,a1] t (0,0))):
  ((w.setCell ⟨T,0,none⟩ v0).setCell ⟨T,1,none⟩ v1).heap[T]?=some (.cells #[v0,v1] t (0,0)):=heap_setCell_same _ _ 1 _ _ v1 (heap_setCell_same _ _ 0 _ _ v0 h)
def Qfv:(prog.info? 144).map (·.size)=some 2:=zk
def QiM{P:Prop}(h:P:=by
  go_wp2_with fail;refine(cw _ R9.o).mono ?_;rintro e w2 ⟨rfl,I0⟩;go_wp2;refine⟨rfl,?_⟩;rw[HR.o,if_neg HT.o]
  exact⟨rfl,Chg.of_below (HA.o.trans (I0.mono HA.o.size)) [p]⟩):P:=h
def Jcb(p:Nat)(A:Option Addr)(C:Nat)(T:List Tok)(k:Nat)(w:World)(h:PAt w p A C T k):Calls prog 91 #[Pt p] w (PRp p A C T w (λs=>Sv s) (Qct (T.drop k))):=by
 have cp:=Kp p A C T k w h;have cw:=λW hW=>KO p A C T k W hW
 unfold Qfh at cp;have HP:=Zh h;have hm:Hi ((hd (T.drop k)).kind=2->k+1<T.length):=λe=>h.more (by rw[e];decide)
 have HR:Hi (∀e w',PRp p A C T w (λs=>Sv s) (Qct (T.drop k)) e w'=PRp p A C T w (λs=>Sv s) (if (hd (T.drop k)).kind=2 then .ok (hd (T.drop k)).text (T.drop (k+1)) else .bad (hd (T.drop k)).off) e w'):=λe w'=>by unfold Qct;rw[tail_drop]
 generalize PRp p A C T w (λs=>Sv s) (Qct (T.drop k))=R at*;generalize hd (T.drop k)=t at*;obtain⟨tk,tx,tn,tf⟩:=t;unfold Qda at cp;simp only at cp cw;clear h;go_enter func91,ntmps91;go_wp2_with fail;refine cp.mono ?_;rintro e w1 ⟨rfl,R0⟩;have hA:=R0.alloc R0.size (.cells (yd tk tx tn tf) 134);have xA:=HP.o.chg hA;have hN:=zQ w1 (.cells (yd tk tx tn tf) 134);have hk:k<=1000000:=by have:=xA.lt;have:=xA.room;omega
 have wk:=zI k;have pc:=Ja xA.self 1;have pf:=Jc xA.self 1;have c0:(w1.alloc (.cells (yd tk tx tn tf) 134)).cell? ⟨w1.heap.size,0,none⟩=some (Iv tk):=by rw[Ja hN];rfl
 have c1:(w1.alloc (.cells (yd tk tx tn tf) 134)).cell? ⟨w1.heap.size,1,none⟩=some (Sv tx):=by rw[Ja hN];rfl
 have c3:(w1.alloc (.cells (yd tk tx tn tf) 134)).cell? ⟨w1.heap.size,3,none⟩=some (Iv tf):=by rw[Ja hN];rfl
 simp only[zW]at pc;have yA:p≠w1.heap.size:=by have:=Jb HP.o.self;have:=R0.size;omega
 have HA:=Zh hA;have R9:=Zh xA;have HN:=Zh hN;clear hA xA hN R0 cp hk
 by_cases T8:tk=2
 ·have d1:(tk==2)=true:=zN T8;have HF:Hi (PAt ((w1.alloc (.cells (yd tk tx tn tf) 134)).setCell ⟨p,1,none⟩ (Iv ((k+1:Nat):Int))) p A C T (k+1)):=R9.o.next (hm.o T8);have zA:((w1.alloc (.cells (yd tk tx tn tf) 134)).setCell ⟨p,1,none⟩ (Iv ((k:Int)+1))).cell? ⟨w1.heap.size,1,none⟩=some (Sv tx):=Jbs (Ne.symm yA) c1;have HT:=Zh T8;clear T8;go_wp2;rw[HR.o,if_pos HT.o];exact⟨rfl,⟨k+1,rfl,HF.o⟩,(Chg.of_below HA.o [p]).setCell (.inl zq) _⟩
 ·have d1:(tk==2)=false:=zM T8;have HT:=Zh T8;clear T8;exact QiM
def Qgh(nm:By×Int):Value:=.agg #[.string (bs nm.1),Iv nm.2]
def VO(p:Nat)(A:Option Addr)(C:Nat)(T:List Tok)(k:Nat)(w:World)(h:PAt w p A C T k)(hx:∀t∈T,t.text.length<=1000000):Calls prog 133 #[Pt p] w (PRp p A C T w Qgh (Qbb (T.drop k))):=by
 have hZ:=zQ w (.cells #[Em,Iv 0] 144);have hB:=(Below.refl w.heap.size w).alloc (Nat.le_refl _) (.cells #[Em,Iv 0] 144);have cp:=Kp p A C T k _ (h.chg hB);have cw:=λW hW=>KO p A C T k W hW
 have zA:(hd (T.drop k)).text.length<=1000000:=hx _ (List.mem_of_getElem? (Jbr h.lt));have ci:=λW=>Jca (hd (T.drop k)).text W zA
 unfold Qfh at cp;have HP:=Zh (h.chg hB);have cA:=Jb h.self;have uA:=Zh h.tokLt;have hm:Hi ((hd (T.drop k)).kind=0->k+1<T.length):=λe=>h.more (by rw[e];decide)
 have HR:Hi (∀e w',PRp p A C T w Qgh (Qbb (T.drop k)) e w'=PRp p A C T w Qgh (if (hd (T.drop k)).kind=0/\Qbr (hd (T.drop k)).text=true then .ok ((hd (T.drop k)).text,(hd (T.drop k)).off) (T.drop (k+1)) else .bad (hd (T.drop k)).off) e w'):=λe w'=>by unfold Qbb;rw[tail_drop]
 generalize PRp p A C T w Qgh (Qbb (T.drop k))=R at*;generalize hd (T.drop k)=t at*;obtain⟨tk,tx,tn,tf⟩:=t;unfold Qda at cp;simp only at cp cw ci;obtain⟨q,hq⟩:=yt (Qbr tx)
 rw[hq]at ci;have vA:=Zh hZ;have H5:=Zh hB;have HQ:=Zh hq;clear h hZ hB hx zA hq;go_enter func133,ntmps133;go_wp2_with fail;refine cp.mono ?_;rintro e w1 ⟨rfl,R0⟩;have hsz:=R0.size;rw[World.size_alloc]at hsz;have hA:=R0.alloc R0.size (.cells (yd tk tx tn tf) 134);have xA:=HP.o.chg hA;have hN:=zQ w1 (.cells (yd tk tx tn tf) 134);have hk:k<=1000000:=by have:=xA.lt;have:=xA.room;omega
 have wk:=zI k;have pc:=Ja xA.self 1;have pf:=Jc xA.self 1;have c0:(w1.alloc (.cells (yd tk tx tn tf) 134)).cell? ⟨w1.heap.size,0,none⟩=some (Iv tk):=by rw[Ja hN];rfl
 have c1:(w1.alloc (.cells (yd tk tx tn tf) 134)).cell? ⟨w1.heap.size,1,none⟩=some (Sv tx):=by rw[Ja hN];rfl
 have c3:(w1.alloc (.cells (yd tk tx tn tf) 134)).cell? ⟨w1.heap.size,3,none⟩=some (Iv tf):=by rw[Ja hN];rfl
 simp only[zW]at pc;have aA:p≠w1.heap.size:=zo;have I6:p≠w.heap.size:=zo
 have bA:Hi ((w1.alloc (.cells (yd tk tx tn tf) 134)).heap[w.heap.size]?=some (.cells #[Em,Iv 0] 144)):=by
  have h1:w1.heap[w.heap.size]?=some (.cells #[Em,Iv 0] 144):=(R0.block _ (Jb vA.o)).trans vA.o;exact(Below.heap_alloc _ _ _ (Jb h1)).trans h1
 have HA:=Zh (H5.o.trans (hA.mono H5.o.size));have R9:=Zh xA;clear hA xA hN R0 cp hk cA hsz
 by_cases T8:tk=0
 ·subst T8
  cases q with
  |true=>
   have HF:Hi (PAt ((w1.alloc (.cells (yd 0 tx tn tf) 134)).setCell ⟨p,1,none⟩ (Iv ((k+1:Nat):Int))) p A C T (k+1)):=R9.o.next (hm.o rfl);have eA:((w1.alloc (.cells (yd 0 tx tn tf) 134)).setCell ⟨p,1,none⟩ (Iv ((k:Int)+1))).cell? ⟨w1.heap.size,1,none⟩=some (Sv tx):=Jbs (Ne.symm aA) c1;have gA:((w1.alloc (.cells (yd 0 tx tn tf) 134)).setCell ⟨p,1,none⟩ (Iv ((k:Int)+1))).cell? ⟨w1.heap.size,3,none⟩=some (Iv tf):=Jbs (Ne.symm aA) c3;have yA:((w1.alloc (.cells (yd 0 tx tn tf) 134)).setCell ⟨p,1,none⟩ (Iv ((k:Int)+1))).heap[w.heap.size]?=some (.cells #[Em,Iv 0] 144):=Ji bA.o (Ne.symm I6) _;have z0:((w1.alloc (.cells (yd 0 tx tn tf) 134)).setCell ⟨p,1,none⟩ (Iv ((k:Int)+1))).cell? ⟨w.heap.size,0,none⟩=some Em:=by rw[Ja yA];rfl
   have z1:((w1.alloc (.cells (yd 0 tx tn tf) 134)).setCell ⟨p,1,none⟩ (Iv ((k:Int)+1))).cell? ⟨w.heap.size,1,none⟩=some (Iv 0):=by rw[Ja yA];rfl
   have y0:=Jc yA 0;have y1:=Jc yA 1;have dA:=Zh yA;have HT:Hi ((0:Int)=0/\Qbr tx=true):=⟨rfl,HQ.o⟩
   clear yA HQ cw;go_wp2_with fail;refine(ci _).mono ?_;rintro e w2 ⟨rfl,rfl⟩;go_wp2;refine bodyPost_ret (v:=.agg #[Sv tx,Iv tf]) (results_cell_row rfl _ _ w.heap.size 144 #[Sv tx,Iv tf] (0,0) _ rfl (Qjl _ _ dA.o) underlying144 rfl Qfv) rfl ?_;rw[HR.o,if_pos HT.o];refine⟨rfl,⟨k+1,rfl,(HF.o.setFar (Ne.symm I6) (λb o e=>by have:=uA.o b o e;omega) 0 _).setFar (Ne.symm I6) (λb o e=>by have:=uA.o b o e;omega) 1 _⟩,?_⟩;exact(((Chg.of_below HA.o [p]).setCell (.inl zq) _).setCell (.inr (Nat.le_refl _)) _).setCell (.inr (Nat.le_refl _)) _
  |false=>
   have HT:Hi (¬((0:Int)=0/\Qbr tx=true)):=λh=>by have:=HQ.o;rw[h.2]at this;cases this
   clear HQ;go_wp2_with fail;refine(ci _).mono ?_;rintro e w2 ⟨rfl,rfl⟩;exact QiM
 ·have d1:(tk==0)=false:=zM T8;have HT:Hi (¬(tk=0/\Qbr tx=true)):=λh=>T8 h.1
  have d2:(tk !=0)=true:=bne_iff_ne.2 T8;clear ci;exact QiM
def JfK(w:World):Calls prog 47 #[Iv 0] w (Qei (Sv QgB) w):=by
 go_enter func47,ntmps47;go_wp2;go_ret;exact⟨rfl,rfl⟩
def JfL(w:World):Calls prog 47 #[Iv 1] w (Qei (Sv QeA) w):=by
 go_enter func47,ntmps47;go_wp2;go_ret;exact⟨rfl,rfl⟩
def QfO{P:Prop}(h:P:=by
  go_enter func49,ntmps49;go_wp2;go_ret
  exact⟨rfl,rfl⟩):P:=h
def Jcc(w:World):Calls prog 49 #[Iv 0] w (Qei (Sv Qey) w):=by
 have ix:∀W:World,(Instr.index 178 (.agg #[.string ⟨#[115,104,111,119]⟩,.string ⟨#[109,101,100,105,97]⟩,.string ⟨#[108,105,109,105,116]⟩,.string ⟨#[104,105,100,101]⟩]) (Iv 0)).run prog W=.ok (.string ⟨#[115,104,111,119]⟩) W:=λ_=>by kernel_rfl
 exact QfO
def Jcd(w:World):Calls prog 49 #[Iv 1] w (Qei (Sv QdE) w):=by
 have ix:∀W:World,(Instr.index 178 (.agg #[.string ⟨#[115,104,111,119]⟩,.string ⟨#[109,101,100,105,97]⟩,.string ⟨#[108,105,109,105,116]⟩,.string ⟨#[104,105,100,101]⟩]) (Iv 1)).run prog W=.ok (.string ⟨#[109,101,100,105,97]⟩) W:=λ_=>by kernel_rfl
 exact QfO
def Jce(w:World):Calls prog 49 #[Iv 2] w (Qei (Sv QdF) w):=by
 have ix:∀W:World,(Instr.index 178 (.agg #[.string ⟨#[115,104,111,119]⟩,.string ⟨#[109,101,100,105,97]⟩,.string ⟨#[108,105,109,105,116]⟩,.string ⟨#[104,105,100,101]⟩]) (Iv 2)).run prog W=.ok (.string ⟨#[108,105,109,105,116]⟩) W:=λ_=>by kernel_rfl
 exact QfO
def Jcf(w:World):Calls prog 49 #[Iv 3] w (Qei (Sv Qez) w):=by
 have ix:∀W:World,(Instr.index 178 (.agg #[.string ⟨#[115,104,111,119]⟩,.string ⟨#[109,101,100,105,97]⟩,.string ⟨#[108,105,109,105,116]⟩,.string ⟨#[104,105,100,101]⟩]) (Iv 3)).run prog W=.ok (.string ⟨#[104,105,100,101]⟩) W:=λ_=>by kernel_rfl
 exact QfO
def QgO{P:Prop}(h:P:=by
  rw[hs]
  exact⟨rfl,⟨k+1,rfl,HF.o.2.1⟩,(Chg.of_below L9.o [p]).trans HF.o.2.2⟩):P:=h
def Qhd{P:Prop}(h:P:=by
  clear g1 L1 R5 HZ;go_wp2;go_roundw
  case rel=>exact⟨1,rfl,by omega,I5⟩
  case measure=>simp[intOf]):P:=h
def Qhc{P:Prop}(h:P:=by
  clear g1 L1 R5 HZ;go_wp2;go_roundw
  case rel=>exact⟨2,rfl,by omega,I5⟩
  case measure=>simp[intOf]):P:=h
def Jbt(p:Nat)(A:Option Addr)(C:Nat)(T:List Tok)(k:Nat)(w:World)(h:PAt w p A C T k):Calls prog 135 #[Pt p] w (PRp p A C T w (λn=>Iv n) (Qdu (T.drop k))):=by
 have zA:=λW=>JfK W
 have aA:=λW hW=>Jt p A C T k 0 QgB W hW zp
 have uA:=λW=>JfL W
 have vA:=λW hW=>Jt p A C T k 0 QeA W hW zp
 have cw:=λW hW=>KO p A C T k W hW
 have HP:=Zh h;obtain⟨R,hR⟩:=yt (PRp p A C T w (λn=>Iv n) (Qdu (T.drop k)))
 rw[hR];have HR:Hi (R=PRp p A C T w (λn=>Iv n) (Qdu (T.drop k))):=hR.symm;clear h hR;generalize yA:QgB=qkInt at*;generalize xA:QeA=qkBool at*;have HQ:Hi (QgB=qkInt/\QeA=qkBool):=⟨yA,xA⟩
 clear yA xA;go_enter func135,ntmps135;go_wp2;go_loopw [3] (λv3 wr=>∃n:Nat,v3=Iv n/\n<=2/\Hi (((0<n->acc 0 qkInt (T.drop k)=none)/\(1<n->acc 0 qkBool (T.drop k)=none))/\yr w wr)) λv _=>2-(intOf v).toNat
 case atStart=>exact⟨0,rfl,by omega,by refine⟨?_,zO⟩;(repeat' constructor)<;>intro hh<;>omega⟩
 case round=>
 obtain⟨n,rfl,hn,hz⟩:=hrel;have R5:=HP.o.chg hz.o.2
 rcases (show n=0\/n=1\/n=2 by omega) with rfl|rfl|rfl
 ·have HZ:=Zh hz.o;clear hz cw;go_wp2_with fail;refine(zA _).mono ?_;rintro e w1 ⟨rfl,rfl⟩;go_wp2_with fail;refine(aA _ R5).mono ?_;rintro e w1 h1
  rcases h1 with⟨g1,g2,rfl,F1,hc1⟩|⟨g1,rfl,L1⟩
  ·have HF:=Zh (show _/\_/\_ from⟨JN g1 g2,F1,hc1⟩);have L9:=Zh (HZ.o.2);clear g1 g2 F1 hc1 R5;go_wp2;rw[HR.o]
   have hs:Qdu (T.drop k)=.ok 0 (T.drop (k+1)):=by
    unfold Qdu;rw[HQ.o.2,HQ.o.1];have hz:=HZ.o.1;have hf:=HF.o.1;simp only[hf]
   exact QgO
  ·have I5:Hi (((0<1->acc 0 qkInt (T.drop k)=none)/\(1<1->acc 0 qkBool (T.drop k)=none))/\yr w w1):=by
    refine⟨?_,HZ.o.2.trans (L1.mono HZ.o.2.size)⟩;have hno:=Kf g1;have hz:=HZ.o.1;exact⟨λ_=>hno,λhh=>absurd hh zo⟩
   exact Qhd
 ·have HZ:=Zh hz.o;clear hz cw;go_wp2_with fail;refine(uA _).mono ?_;rintro e w1 ⟨rfl,rfl⟩;go_wp2_with fail;refine(vA _ R5).mono ?_;rintro e w1 h1
  rcases h1 with⟨g1,g2,rfl,F1,hc1⟩|⟨g1,rfl,L1⟩
  ·have HF:=Zh (show _/\_/\_ from⟨JN g1 g2,F1,hc1⟩);have L9:=Zh (HZ.o.2);clear g1 g2 F1 hc1 R5;go_wp2;rw[HR.o]
   have hs:Qdu (T.drop k)=.ok 1 (T.drop (k+1)):=by
    unfold Qdu;rw[HQ.o.2,HQ.o.1];have hz:=HZ.o.1;have hf:=HF.o.1;simp only[hz.1 zo,hf]
   exact QgO
  ·have I5:Hi (((0<2->acc 0 qkInt (T.drop k)=none)/\(1<2->acc 0 qkBool (T.drop k)=none))/\yr w w1):=by
    refine⟨?_,HZ.o.2.trans (L1.mono HZ.o.2.size)⟩;have hno:=Kf g1;have hz:=HZ.o.1;exact⟨λ_=>hz.1 zo,λ_=>hno⟩
   exact Qhc
 ·have HZ:=Zh hz.o;clear hz;go_wp2_with fail;refine(cw _ R5).mono ?_;rintro e w2 ⟨rfl,I0⟩;go_wp2;refine⟨rfl,?_⟩;rw[HR.o]
  have hs:Qdu (T.drop k)=.bad (hd (T.drop k)).off:=by
   unfold Qdu;rw[HQ.o.2,HQ.o.1];have hz:=HZ.o.1;simp only[hz.1 zo,hz.2 zo]
  rw[hs];exact⟨rfl,Chg.of_below (HZ.o.2.trans (I0.mono HZ.o.2.size)) [p]⟩
def JeF(p:Nat)(A:Option Addr)(C:Nat)(T:List Tok)(k:Nat)(w:World)(h:PAt w p A C T k):Calls prog 90 #[Pt p] w (PRp p A C T w (λn=>Iv n) (Qdg (T.drop k))):=by
 have vA:=λW=>Jcc W
 have eA:=λW hW=>Jt p A C T k 0 Qey W hW zp
 have cA:=λW=>Jcd W
 have dA:=λW hW=>Jt p A C T k 0 QdE W hW zp
 have aA:=λW=>Jce W
 have gA:=λW hW=>Jt p A C T k 0 QdF W hW zp
 have hA:=λW=>Jcf W
 have bA:=λW hW=>Jt p A C T k 0 Qez W hW zp
 have cw:=λW hW=>KO p A C T k W hW
 have HP:=Zh h;obtain⟨R,hR⟩:=yt (PRp p A C T w (λn=>Iv n) (Qdg (T.drop k)))
 rw[hR];have HR:Hi (R=PRp p A C T w (λn=>Iv n) (Qdg (T.drop k))):=hR.symm;clear h hR;generalize zA:Qey=qkShow at*;generalize yA:QdE=qkMedia at*;generalize xA:QdF=qkLimit at*;generalize uA:Qez=qkHide at*;have HQ:Hi (Qey=qkShow/\QdE=qkMedia/\QdF=qkLimit/\Qez=qkHide):=⟨zA,yA,xA,uA⟩
 clear zA yA xA uA;go_enter func90,ntmps90;go_wp2;go_loopw [3] (λv3 wr=>∃n:Nat,v3=Iv n/\n<=4/\Hi (((0<n->acc 0 qkShow (T.drop k)=none)/\(1<n->acc 0 qkMedia (T.drop k)=none)/\(2<n->acc 0 qkLimit (T.drop k)=none)/\(3<n->acc 0 qkHide (T.drop k)=none))/\yr w wr)) λv _=>4-(intOf v).toNat
 case atStart=>exact⟨0,rfl,by omega,by refine⟨?_,zO⟩;(repeat' constructor)<;>intro hh<;>omega⟩
 case round=>
 obtain⟨n,rfl,hn,hz⟩:=hrel;have R5:=HP.o.chg hz.o.2
 rcases (show n=0\/n=1\/n=2\/n=3\/n=4 by omega) with rfl|rfl|rfl|rfl|rfl
 ·have HZ:=Zh hz.o;clear hz cw;go_wp2_with fail;refine(vA _).mono ?_;rintro e w1 ⟨rfl,rfl⟩;go_wp2_with fail;refine(eA _ R5).mono ?_;rintro e w1 h1
  rcases h1 with⟨g1,g2,rfl,F1,hc1⟩|⟨g1,rfl,L1⟩
  ·have HF:=Zh (show _/\_/\_ from⟨JN g1 g2,F1,hc1⟩);have L9:=Zh (HZ.o.2);clear g1 g2 F1 hc1 R5;go_wp2;rw[HR.o]
   have hs:Qdg (T.drop k)=.ok 0 (T.drop (k+1)):=by
    unfold Qdg;rw[HQ.o.2.2.2,HQ.o.2.2.1,HQ.o.2.1,HQ.o.1];have hz:=HZ.o.1;have hf:=HF.o.1;simp only[hf]
   exact QgO
  ·have I5:Hi (((0<1->acc 0 qkShow (T.drop k)=none)/\(1<1->acc 0 qkMedia (T.drop k)=none)/\(2<1->acc 0 qkLimit (T.drop k)=none)/\(3<1->acc 0 qkHide (T.drop k)=none))/\yr w w1):=by
    refine⟨?_,HZ.o.2.trans (L1.mono HZ.o.2.size)⟩;have hno:=Kf g1;have hz:=HZ.o.1;exact⟨λ_=>hno,λhh=>absurd hh zo,λhh=>absurd hh zo,λhh=>absurd hh zo⟩
   exact Qhd
 ·have HZ:=Zh hz.o;clear hz cw;go_wp2_with fail;refine(cA _).mono ?_;rintro e w1 ⟨rfl,rfl⟩;go_wp2_with fail;refine(dA _ R5).mono ?_;rintro e w1 h1
  rcases h1 with⟨g1,g2,rfl,F1,hc1⟩|⟨g1,rfl,L1⟩
  ·have HF:=Zh (show _/\_/\_ from⟨JN g1 g2,F1,hc1⟩);have L9:=Zh (HZ.o.2);clear g1 g2 F1 hc1 R5;go_wp2;rw[HR.o]
   have hs:Qdg (T.drop k)=.ok 1 (T.drop (k+1)):=by
    unfold Qdg;rw[HQ.o.2.2.2,HQ.o.2.2.1,HQ.o.2.1,HQ.o.1];have hz:=HZ.o.1;have hf:=HF.o.1;simp only[hz.1 zo,hf]
   exact QgO
  ·have I5:Hi (((0<2->acc 0 qkShow (T.drop k)=none)/\(1<2->acc 0 qkMedia (T.drop k)=none)/\(2<2->acc 0 qkLimit (T.drop k)=none)/\(3<2->acc 0 qkHide (T.drop k)=none))/\yr w w1):=by
    refine⟨?_,HZ.o.2.trans (L1.mono HZ.o.2.size)⟩;have hno:=Kf g1;have hz:=HZ.o.1;exact⟨λ_=>hz.1 zo,λ_=>hno,λhh=>absurd hh zo,λhh=>absurd hh zo⟩
   exact Qhc
 ·have HZ:=Zh hz.o;clear hz cw;go_wp2_with fail;refine(aA _).mono ?_;rintro e w1 ⟨rfl,rfl⟩;go_wp2_with fail;refine(gA _ R5).mono ?_;rintro e w1 h1
  rcases h1 with⟨g1,g2,rfl,F1,hc1⟩|⟨g1,rfl,L1⟩
  ·have HF:=Zh (show _/\_/\_ from⟨JN g1 g2,F1,hc1⟩);have L9:=Zh (HZ.o.2);clear g1 g2 F1 hc1 R5;go_wp2;rw[HR.o]
   have hs:Qdg (T.drop k)=.ok 2 (T.drop (k+1)):=by
    unfold Qdg;rw[HQ.o.2.2.2,HQ.o.2.2.1,HQ.o.2.1,HQ.o.1];have hz:=HZ.o.1;have hf:=HF.o.1;simp only[hz.1 zo,hz.2.1 zo,hf]
   exact QgO
  ·have I5:Hi (((0<3->acc 0 qkShow (T.drop k)=none)/\(1<3->acc 0 qkMedia (T.drop k)=none)/\(2<3->acc 0 qkLimit (T.drop k)=none)/\(3<3->acc 0 qkHide (T.drop k)=none))/\yr w w1):=by
    refine⟨?_,HZ.o.2.trans (L1.mono HZ.o.2.size)⟩;have hno:=Kf g1;have hz:=HZ.o.1;exact⟨λ_=>hz.1 zo,λ_=>hz.2.1 zo,λ_=>hno,λhh=>absurd hh zo⟩
   clear g1 L1 R5 HZ;go_wp2;go_roundw
   case rel=>exact⟨3,rfl,by omega,I5⟩
   case measure=>simp[intOf]
 ·have HZ:=Zh hz.o;clear hz cw;go_wp2_with fail;refine(hA _).mono ?_;rintro e w1 ⟨rfl,rfl⟩;go_wp2_with fail;refine(bA _ R5).mono ?_;rintro e w1 h1
  rcases h1 with⟨g1,g2,rfl,F1,hc1⟩|⟨g1,rfl,L1⟩
  ·have HF:=Zh (show _/\_/\_ from⟨JN g1 g2,F1,hc1⟩);have L9:=Zh (HZ.o.2);clear g1 g2 F1 hc1 R5;go_wp2;rw[HR.o]
   have hs:Qdg (T.drop k)=.ok 3 (T.drop (k+1)):=by
    unfold Qdg;rw[HQ.o.2.2.2,HQ.o.2.2.1,HQ.o.2.1,HQ.o.1];have hz:=HZ.o.1;have hf:=HF.o.1;simp only[hz.1 zo,hz.2.1 zo,hz.2.2.1 zo,hf]
   exact QgO
  ·have I5:Hi (((0<4->acc 0 qkShow (T.drop k)=none)/\(1<4->acc 0 qkMedia (T.drop k)=none)/\(2<4->acc 0 qkLimit (T.drop k)=none)/\(3<4->acc 0 qkHide (T.drop k)=none))/\yr w w1):=by
    refine⟨?_,HZ.o.2.trans (L1.mono HZ.o.2.size)⟩;have hno:=Kf g1;have hz:=HZ.o.1;exact⟨λ_=>hz.1 zo,λ_=>hz.2.1 zo,λ_=>hz.2.2.1 zo,λ_=>hno⟩
   clear g1 L1 R5 HZ;go_wp2;go_roundw
   case rel=>exact⟨4,rfl,by omega,I5⟩
   case measure=>simp[intOf]
 ·have HZ:=Zh hz.o;clear hz;go_wp2_with fail;refine(cw _ R5).mono ?_;rintro e w2 ⟨rfl,I0⟩;go_wp2;refine⟨rfl,?_⟩;rw[HR.o]
  have hs:Qdg (T.drop k)=.bad (hd (T.drop k)).off:=by
   unfold Qdg;rw[HQ.o.2.2.2,HQ.o.2.2.1,HQ.o.2.1,HQ.o.1];have hz:=HZ.o.1;simp only[hz.1 zo,hz.2.1 zo,hz.2.2.1 zo,hz.2.2.2 zo]
  rw[hs];exact⟨rfl,Chg.of_below (HZ.o.2.trans (I0.mono HZ.o.2.size)) [p]⟩
def KD(kd:Int)(s:By)(r:List Tok):(∃r',Qar kd s r=.ok () r')\/Qar kd s r=.bad (hd r).off:=by
 unfold Qar
 cases acc kd s r with
 |some r'=>exact .inl ⟨r',rfl⟩
 |none=>exact .inr rfl
def ZI(r:List Tok):(∃s r',Qct r=.ok s r')\/Qct r=.bad (hd r).off:=by
 unfold Qct;split
 ·exact .inl ⟨_,_,rfl⟩
 ·exact .inr rfl
def ZJ(p:Nat)(A:Option Addr)(C:Nat)(T:List Tok)(k:Nat)(w:World)(h:PAt w p A C T k):Calls prog 168 #[Pt p] w (PRp p A C T w (λs=>Sv s) (QaL (T.drop k))):=by
 obtain⟨R,hR⟩:=yt (PRp p A C T w (λs=>Sv s) (QaL (T.drop k)))
 rw[hR];have HR:Hi (R=PRp p A C T w (λs=>Sv s) (QaL (T.drop k))):=hR.symm;have HP:=Zh h;clear h hR;go_enter func168,ntmps168;go_wp2_with fail;refine(Qdv p A C T k [40] w HP.o).mono ?_;intro e w1 h1
 rcases KD 3 [40] (T.drop k) with⟨r1,hx⟩|hx
 ·rw[hx]at h1;obtain⟨rfl,⟨k1,hr,R5⟩,hc1⟩:=h1;subst hr;have B0:=Zh hx;have R9:=Zh R5;have Q3:=Zh hc1;clear hx R5 hc1;go_wp2_with fail;refine(Jcb p A C T k1 w1 R9.o).mono ?_;intro e w2 h2
  rcases ZI (T.drop k1) with⟨s,r2,hx⟩|hx
  ·rw[hx]at h2;obtain⟨rfl,⟨k2,hr,F1⟩,S1⟩:=h2;subst hr;have L3:=Zh hx;have B3:=Zh F1;have A7:=Zh (Q3.o.trans S1);clear hx F1 S1;go_wp2_with fail;refine(Qdv p A C T k2 [41] w2 B3.o).mono ?_;intro e w3 h3
   rcases KD 3 [41] (T.drop k2) with⟨r3,hx⟩|hx
   ·rw[hx]at h3;obtain⟨rfl,⟨k3,hr,D9⟩,B5⟩:=h3;subst hr;have HS:Hi (QaL (T.drop k)=.ok s (T.drop k3)):=by rw[Hi];unfold QaL;rw[B0.o];simp only[PR.bind];rw[L3.o];simp only;rw[hx]
    have HF:=Zh (show _/\_ from⟨D9,A7.o.trans B5⟩);clear hx D9 B5;go_wp2;rw[HR.o,HS.o];exact⟨rfl,⟨k3,rfl,HF.o.1⟩,HF.o.2⟩
   ·rw[hx]at h3;obtain⟨rfl,B5⟩:=h3;have HS:Hi (QaL (T.drop k)=.bad (hd (T.drop k2)).off):=by rw[Hi];unfold QaL;rw[B0.o];simp only[PR.bind];rw[L3.o];simp only;rw[hx]
    refine⟨rfl,?_⟩;rw[HR.o,HS.o];exact⟨rfl,A7.o.trans B5⟩
  ·rw[hx]at h2;obtain⟨rfl,S1⟩:=h2;have HS:Hi (QaL (T.drop k)=.bad (hd (T.drop k1)).off):=by rw[Hi];unfold QaL;rw[B0.o];simp only[PR.bind];rw[hx]
   refine⟨rfl,?_⟩;rw[HR.o,HS.o];exact⟨rfl,Q3.o.trans S1⟩
 ·rw[hx]at h1;obtain⟨rfl,hc1⟩:=h1;have HS:Hi (QaL (T.drop k)=.bad (hd (T.drop k)).off):=by rw[Hi];unfold QaL;rw[hx];rfl
  refine⟨rfl,?_⟩;rw[HR.o,HS.o];exact⟨rfl,hc1⟩
def OpP(w:World)(o:Option Int)(e:Ending)(w':World):Prop:=e=.returned (.tuple #[Iv (o.getD 0),.bool o.isSome])/\yr w w'
def QdW{P:Prop}(h:P:=by
  go_enter func160,ntmps160;go_wp2;rw[HR.o,HS.o]
  exact⟨rfl,HB.o⟩):P:=h
def Jnt(t:Tok)(w:World):Calls prog 160 #[Iv 1,.agg (Qda t)] w (OpP w (opK 1 t)):=by
 obtain⟨tk,tx,tn,tf⟩:=t;obtain⟨R,hR⟩:=yt (OpP w (opK 1 ⟨tk,tx,tn,tf⟩))
 rw[hR];have HR:Hi (R=OpP w (opK 1 ⟨tk,tx,tn,tf⟩)):=hR.symm;have u1:=Jj tx;have hN:=zQ w (.cells (yd tk tx tn tf) 134);have HB:=Zh ((Below.refl w.heap.size w).alloc zP (.cells (yd tk tx tn tf) 134));have c0:(w.alloc (.cells (yd tk tx tn tf) 134)).cell? ⟨w.heap.size,0,none⟩=some (Iv tk):=by rw[Ja hN];rfl
 have c1:(w.alloc (.cells (yd tk tx tn tf) 134)).cell? ⟨w.heap.size,1,none⟩=some (Sv tx):=by rw[Ja hN];rfl
 unfold Qda;simp only;clear hR hN
 by_cases k0:tk=0
 ·subst k0
  by_cases h0:tx=[111,114]
  ·have e0:(tx==[111,114])=true:=zN h0;have HS:Hi (opK 1 ⟨0,tx,tn,tf⟩=some 17):=by rw[Hi,h0];rfl
   clear h0;exact QdW
  ·have e0:(tx==[111,114])=false:=zM h0;have HS:Hi (opK 1 ⟨0,tx,tn,tf⟩=none):=by rw[Hi];unfold opK;simp[kOr,Qih,h0]
   clear h0;exact QdW
 ·have d0:(tk==0)=false:=zM k0
  by_cases k3:tk=3
  ·subst k3;have HS:Hi (opK 1 ⟨3,tx,tn,tf⟩=none):=by rw[Hi];unfold opK;simp
   clear d0 k0;exact QdW
  ·have d3:(tk==3)=false:=zM k3;have HS:Hi (opK 1 ⟨tk,tx,tn,tf⟩=none):=by rw[Hi];unfold opK;simp[k0,k3]
   exact QdW
def Jnu(t:Tok)(w:World):Calls prog 160 #[Iv 2,.agg (Qda t)] w (OpP w (opK 2 t)):=by
 obtain⟨tk,tx,tn,tf⟩:=t;obtain⟨R,hR⟩:=yt (OpP w (opK 2 ⟨tk,tx,tn,tf⟩))
 rw[hR];have HR:Hi (R=OpP w (opK 2 ⟨tk,tx,tn,tf⟩)):=hR.symm;have u1:=Jj tx;have hN:=zQ w (.cells (yd tk tx tn tf) 134);have HB:=Zh ((Below.refl w.heap.size w).alloc zP (.cells (yd tk tx tn tf) 134));have c0:(w.alloc (.cells (yd tk tx tn tf) 134)).cell? ⟨w.heap.size,0,none⟩=some (Iv tk):=by rw[Ja hN];rfl
 have c1:(w.alloc (.cells (yd tk tx tn tf) 134)).cell? ⟨w.heap.size,1,none⟩=some (Sv tx):=by rw[Ja hN];rfl
 unfold Qda;simp only;clear hR hN
 by_cases k0:tk=0
 ·subst k0
  by_cases h0:tx=[97,110,100]
  ·have e0:(tx==[97,110,100])=true:=zN h0;have HS:Hi (opK 2 ⟨0,tx,tn,tf⟩=some 16):=by rw[Hi,h0];rfl
   clear h0;exact QdW
  ·have e0:(tx==[97,110,100])=false:=zM h0;have HS:Hi (opK 2 ⟨0,tx,tn,tf⟩=none):=by rw[Hi];unfold opK;simp[kOr,Qih,h0]
   clear h0;exact QdW
 ·have d0:(tk==0)=false:=zM k0
  by_cases k3:tk=3
  ·subst k3;have HS:Hi (opK 2 ⟨3,tx,tn,tf⟩=none):=by rw[Hi];unfold opK;simp
   clear d0 k0;exact QdW
  ·have d3:(tk==3)=false:=zM k3;have HS:Hi (opK 2 ⟨tk,tx,tn,tf⟩=none):=by rw[Hi];unfold opK;simp[k0,k3]
   exact QdW
def Jnv(t:Tok)(w:World):Calls prog 160 #[Iv 5,.agg (Qda t)] w (OpP w (opK 5 t)):=by
 obtain⟨tk,tx,tn,tf⟩:=t;obtain⟨R,hR⟩:=yt (OpP w (opK 5 ⟨tk,tx,tn,tf⟩))
 rw[hR];have HR:Hi (R=OpP w (opK 5 ⟨tk,tx,tn,tf⟩)):=hR.symm;have u1:=Jj tx;have hN:=zQ w (.cells (yd tk tx tn tf) 134);have HB:=Zh ((Below.refl w.heap.size w).alloc zP (.cells (yd tk tx tn tf) 134));have c0:(w.alloc (.cells (yd tk tx tn tf) 134)).cell? ⟨w.heap.size,0,none⟩=some (Iv tk):=by rw[Ja hN];rfl
 have c1:(w.alloc (.cells (yd tk tx tn tf) 134)).cell? ⟨w.heap.size,1,none⟩=some (Sv tx):=by rw[Ja hN];rfl
 unfold Qda;simp only;clear hR hN
 by_cases k0:tk=0
 ·subst k0;have HS:Hi (opK 5 ⟨0,tx,tn,tf⟩=none):=by rw[Hi];unfold opK;simp
  exact QdW
 ·have d0:(tk==0)=false:=zM k0
  by_cases k3:tk=3
  ·subst k3
   by_cases h0:tx=[43]
   ·have e0:(tx==[43])=true:=zN h0;have HS:Hi (opK 5 ⟨3,tx,tn,tf⟩=some 8):=by rw[Hi,h0];rfl
    clear d0 k0 h0;exact QdW
   have e0:(tx==[43])=false:=zM h0
   by_cases h1:tx=[45]
   ·have e1:(tx==[45])=true:=zN h1;have HS:Hi (opK 5 ⟨3,tx,tn,tf⟩=some 9):=by rw[Hi,h1];rfl
    clear d0 k0 h0 h1;exact QdW
   have e1:(tx==[45])=false:=zM h1;have HS:Hi (opK 5 ⟨3,tx,tn,tf⟩=none):=by rw[Hi];unfold opK;simp[h0,h1]
   clear d0 k0 h0 h1;exact QdW
  ·have d3:(tk==3)=false:=zM k3;have HS:Hi (opK 5 ⟨tk,tx,tn,tf⟩=none):=by rw[Hi];unfold opK;simp[k0,k3]
   exact QdW
def Jnw(t:Tok)(w:World):Calls prog 160 #[Iv 6,.agg (Qda t)] w (OpP w (opK 6 t)):=by
 obtain⟨tk,tx,tn,tf⟩:=t;obtain⟨R,hR⟩:=yt (OpP w (opK 6 ⟨tk,tx,tn,tf⟩))
 rw[hR];have HR:Hi (R=OpP w (opK 6 ⟨tk,tx,tn,tf⟩)):=hR.symm;have u1:=Jj tx;have hN:=zQ w (.cells (yd tk tx tn tf) 134);have HB:=Zh ((Below.refl w.heap.size w).alloc zP (.cells (yd tk tx tn tf) 134));have c0:(w.alloc (.cells (yd tk tx tn tf) 134)).cell? ⟨w.heap.size,0,none⟩=some (Iv tk):=by rw[Ja hN];rfl
 have c1:(w.alloc (.cells (yd tk tx tn tf) 134)).cell? ⟨w.heap.size,1,none⟩=some (Sv tx):=by rw[Ja hN];rfl
 unfold Qda;simp only;clear hR hN
 by_cases k0:tk=0
 ·subst k0;have HS:Hi (opK 6 ⟨0,tx,tn,tf⟩=none):=by rw[Hi];unfold opK;simp
  exact QdW
 ·have d0:(tk==0)=false:=zM k0
  by_cases k3:tk=3
  ·subst k3
   by_cases h0:tx=[42]
   ·have e0:(tx==[42])=true:=zN h0;have HS:Hi (opK 6 ⟨3,tx,tn,tf⟩=some 10):=by rw[Hi,h0];rfl
    clear d0 k0 h0;exact QdW
   have e0:(tx==[42])=false:=zM h0
   by_cases h1:tx=[47]
   ·have e1:(tx==[47])=true:=zN h1;have HS:Hi (opK 6 ⟨3,tx,tn,tf⟩=some 11):=by rw[Hi,h1];rfl
    clear d0 k0 h0 h1;exact QdW
   have e1:(tx==[47])=false:=zM h1
   by_cases h2:tx=[37]
   ·have e2:(tx==[37])=true:=zN h2;have HS:Hi (opK 6 ⟨3,tx,tn,tf⟩=some 12):=by rw[Hi,h2];rfl
    clear d0 k0 h0 h1 h2;exact QdW
   have e2:(tx==[37])=false:=zM h2;have HS:Hi (opK 6 ⟨3,tx,tn,tf⟩=none):=by rw[Hi];unfold opK;simp[h0,h1,h2]
   clear d0 k0 h0 h1 h2;exact QdW
  ·have d3:(tk==3)=false:=zM k3;have HS:Hi (opK 6 ⟨tk,tx,tn,tf⟩=none):=by rw[Hi];unfold opK;simp[k0,k3]
   exact QdW
def Jg(a:An):∃xA xn xc,Qaa a=(za a.kind a.num a.name a.off xA xn xc):=by
 obtain⟨k,n,s,o,b,c,l⟩:=a
 by_cases h:l=[]
 ·exact⟨none,0,0,by show #[_,_,_,_,Qaz b c l]=_;unfold Qaz;rw[if_pos h];rfl⟩
 ·exact⟨some ⟨b,0,none⟩,l.length,c,by show #[_,_,_,_,Qaz b c l]=_;unfold Qaz;rw[if_neg h];rfl⟩
def Qcv{w:World}{T t:Nat}(v0 v1 v2 v3 v4:Value)(h:w.heap[T]?=some (.cells #[a0,a1,a2,a3,a4] t (0,0))):
  (((((w.setCell ⟨T,0,none⟩ v0).setCell ⟨T,1,none⟩ v1).setCell ⟨T,2,none⟩ v2).setCell ⟨T,3,none⟩ v3).setCell ⟨T,4,none⟩ v4).heap[T]?=some (.cells #[v0,v1,v2,v3,v4] t (0,0)):=by
 have h0:=heap_setCell_same _ _ 0 _ _ v0 h;have h1:=heap_setCell_same _ _ 1 _ _ v1 h0;have h2:=heap_setCell_same _ _ 2 _ _ v2 h1;have h3:=heap_setCell_same _ _ 3 _ _ v3 h2;exact heap_setCell_same _ _ 4 _ _ v4 h3
def put5(W:World)(b:Nat)(v0 v1 v2 v3 v4:Value):World:=((((W.setCell ⟨b,0,none⟩ v0).setCell ⟨b,1,none⟩ v1).setCell ⟨b,2,none⟩ v2).setCell ⟨b,3,none⟩ v3).setCell ⟨b,4,none⟩ v4
def Kj{S:List Nat}(v0 v1 v2 v3 v4:Value)(hb:b∈S):Chg S W (put5 W b v0 v1 v2 v3 v4):=
 (((((Chg.refl S W).setCell (.inl hb) v0).setCell (.inl hb) v1).setCell (.inl hb) v2).setCell (.inl hb) v3).setCell (.inl hb) v4
def Kl(W:World)(b:Nat)(v0 v1 v2 v3 v4:Value):(put5 W b v0 v1 v2 v3 v4).heap.size=W.heap.size:=by simp[put5,World.setCell]
def PAt.put5{p:Nat}{A:Option Addr}{C:Nat}{T:List Tok}(h:PAt W p A C T k)(h1:q≠p)(h2:∀b o,A=some ⟨b,o,none⟩->q≠b)(v0 v1 v2 v3 v4:Value):PAt (put5 W q v0 v1 v2 v3 v4) p A C T k:=
 ((((h.setFar h1 h2 0 v0).setFar h1 h2 1 v1).setFar h1 h2 2 v2).setFar h1 h2 3 v3).setFar h1 h2 4 v4
def NdP(p:Nat)(A:Option Addr)(C:Nat)(T:List Tok)(w:World)(x:PR Nd)(e:Ending)(w':World):Prop:=
 match x with
 |.out=>True
 |.bad o=>QgN p w o e w'
 |.ok nd r=>∃a:An,a.nd=nd/\e=.returned (.agg (Qaa a))/\a.At w'/\Qce w.heap.size w'.heap.size a/\(∃k',r=T.drop k'/\PAt w' p A C T k')/\Chg [p] w w'
variable{cs:Array Value}{fr:Nat×Nat}
def KP{t:Nat}(h:W.heap[b]?=some (.cells cs t fr)){j:Nat}{u:Value}(hu:cs.toList[j]?=some u):W.cell? ⟨b,j,none⟩=some u:=by
 rw[Ja h];simpa using hu
def Qhu{P:Prop}(h:P:=by
  unfold Qak
  rcases List.mem_cons.1 ha with rfl|ha
  ·exact List.mem_append_left _ hb
  ·exact List.mem_append_right _ (ih ha)):P:=h
def Zj{w W3:World}{p:Nat}{A:Option Addr}{C:Nat}{T:List Tok}{kids:List An}(G7:kids≠[])(hcs:cs.toList=Qdb kids)
  (hat:∀a∈kids,a.At W3) (hm:Qdi lo W3.heap.size kids) (hlo:w.heap.size<lo) (hP:PAt W3 p A C T k') (hC:Chg [p] w W3) (hp:p<w.heap.size) (hT:∀b o,A=some ⟨b,o,none⟩->b<w.heap.size)
  (kk n:Int) (s:By) (o:Int) (c:Nat) (v0 v1 v2 v3 v4:Value):
  (An.mk kk n s o W3.heap.size c kids).At ((put5 W3 w.heap.size v0 v1 v2 v3 v4).alloc (.cells cs 127))/\
   Qce w.heap.size ((put5 W3 w.heap.size v0 v1 v2 v3 v4).alloc (.cells cs 127)).heap.size (An.mk kk n s o W3.heap.size c kids)/\
   PAt ((put5 W3 w.heap.size v0 v1 v2 v3 v4).alloc (.cells cs 127)) p A C T k'/\Chg [p] w ((put5 W3 w.heap.size v0 v1 v2 v3 v4).alloc (.cells cs 127)):=by
 have zA:=hm.le;have hsz:=Kl W3 w.heap.size v0 v1 v2 v3 v4;have hch:=Kj (S:=[w.heap.size]) (W:=W3) v0 v1 v2 v3 v4 (by simp:w.heap.size∈[w.heap.size]);have xA:=zQ (put5 W3 w.heap.size v0 v1 v2 v3 v4) (.cells cs 127);rw[hsz]at xA
 have yA:∀b,b<W3.heap.size->b≠w.heap.size->((put5 W3 w.heap.size v0 v1 v2 v3 v4).alloc (.cells cs 127)).heap[b]?=W3.heap[b]?:=λb hb hn=>
  (Below.heap_alloc _ _ _ (by rw[hsz];exact hb)).trans (hch.block b hb (by simpa using hn))
 refine⟨?_,?_,?_,?_⟩
 ·unfold An.At;refine⟨λ_ j=>Jc xA j,KN kids 0 (λj u hu=>?_) λa ha=>?_⟩
  ·rw[Nat.zero_mul,Nat.zero_add];exact KP xA (by rw[hcs];exact hu)
  ·refine JK a (hat a ha) λb hb=>?_
   have H7:lo<=b/\b<W3.heap.size:=by
    refine hm.foot.2 b ?_;clear hat hm hcs xA yA G7
    induction kids with
    |nil=>cases ha
    |cons x l ih=>
     exact Qhu
   exact yA b H7.2 zo
 ·rw[World.size_alloc,hsz];exact(JbZ hm zP kk n s o c).mono (Nat.le_of_lt hlo) zP
 ·exact(hP.put5 (Ne.symm (Nat.ne_of_lt hp)) (λb o e=>by have:=hT b o e;omega) _ _ _ _ _).chg (zO.alloc zP _)
 ·exact(hC.step hch λb hb=>.inr (by simp at hb;omega)).alloc _
def V6{t:Nat}(X:Obj)(v0 v1 v2 v3 v4:Value)(h:W.heap[b]?=some (.cells #[a0,a1,a2,a3,a4] t (0,0))):((put5 W b v0 v1 v2 v3 v4).alloc X).heap[b]?=some (.cells #[v0,v1,v2,v3,v4] t (0,0)):=
 (Below.heap_alloc _ _ _ (Jb (Qcv v0 v1 v2 v3 v4 h))).trans (Qcv v0 v1 v2 v3 v4 h)
abbrev C5(W:World)(b:Nat)(a0 a1 a2 a3 a4:Value):Prop:=
 yV W b a0 a1 a2 a3 a4
def Jl{t:Nat}(h:W.heap[b]?=some (.cells #[a0,a1,a2,a3,a4] t fr)):
  yV W b a0 a1 a2 a3 a4:=by
 refine⟨?_,?_,?_,?_,?_⟩<;>(rw[Ja h];rfl)
def Js{t:Nat}(h:W.heap[b]?=some (.cells cs t (0,0))):
  W.frozen? ⟨b,0,none⟩=false/\W.frozen? ⟨b,1,none⟩=false/\W.frozen? ⟨b,2,none⟩=false/\W.frozen? ⟨b,3,none⟩=false/\W.frozen? ⟨b,4,none⟩=false:=
 ⟨Jc h 0,Jc h 1,Jc h 2,Jc h 3,Jc h 4⟩
def JdG(t:Tok)(W:World):(Instr.field 134 (.agg (Qda t)) 3).run prog W=.ok (Iv t.off) W:=by obtain⟨a,b,c,d⟩:=t;kernel_rfl
def Jcg{t:Nat}(h:W.heap[b]?=some (.cells #[a0,a1] t fr)):W.cell? ⟨b,0,none⟩=some a0:=by rw[Ja h];rfl
variable{Post:Ending->World->Prop}
def NdP.on{p:Nat}{A:Option Addr}{C:Nat}{T:List Tok}{w:World}{x:PR Nd}(h:NdP p A C T w x e w')(hne:x≠.out)
  (hbad:∀q,x=.bad q->Chg [p] w w'->Post (.panicked [{v:=Qeo q,recovered:=false}]) w')
  (hok:∀(a:An)(k':Nat)(xA:Option Addr)(xn xc:Nat),x=.ok a.nd (T.drop k')->Qaa a=(za a.kind a.num a.name a.off xA xn xc)->
   a.At w'/\Qce w.heap.size w'.heap.size a/\PAt w' p A C T k'/\Chg [p] w w'->Post (.returned (.agg (za a.kind a.num a.name a.off xA xn xc))) w'):Post e w':=by
 cases x with
 |out=>exact absurd rfl hne
 |bad q=>obtain⟨rfl,hc⟩:=h;exact hbad q rfl hc
 |ok nd r=>
  obtain⟨a,rfl,rfl,hat,hm,⟨k',rfl,hp⟩,hc⟩:=h;obtain⟨xA,xn,xc,hf⟩:=Jg a;rw[hf];exact hok a k' xA xn xc rfl hf ⟨hat,hm,hp,hc⟩
variable{α β:Type}
def PRp.on{p:Nat}{A:Option Addr}{C:Nat}{T:List Tok}{w:World}{g:α->Value}{x:PR α}(h:PRp p A C T w g x e w')(hne:x≠.out)
  (hbad:∀q,x=.bad q->Chg [p] w w'->Post (.panicked [{v:=Qeo q,recovered:=false}]) w')
  (hok:∀(a:α)(k':Nat),x=.ok a (T.drop k')->PAt w' p A C T k'->Chg [p] w w'->Post (.returned (g a)) w'):Post e w':=by
 cases x with
 |out=>exact absurd rfl hne
 |bad q=>obtain⟨rfl,hc⟩:=h;exact hbad q rfl hc
 |ok a r=>obtain⟨rfl,⟨k',rfl,hp⟩,hc⟩:=h;exact hok a k' rfl hp hc
def NdP.call{P:Program}{fn:Nat}{args:Array Value}{p:Nat}{A:Option Addr}{C:Nat}{T:List Tok}{w:World}{x:PR Nd}(hc:Calls P fn args w (NdP p A C T w x))(hne:x≠.out)
  (hbad:∀q w',x=.bad q->Chg [p] w w'->Post (.panicked [{v:=Qeo q,recovered:=false}]) w')
  (hok:∀(a:An)(w':World)(k':Nat)(xA:Option Addr)(xn xc:Nat),x=.ok a.nd (T.drop k')->Qaa a=(za a.kind a.num a.name a.off xA xn xc)->
   a.At w'/\Qce w.heap.size w'.heap.size a/\PAt w' p A C T k'/\Chg [p] w w'->Post (.returned (.agg (za a.kind a.num a.name a.off xA xn xc))) w'):Calls P fn args w Post:=
 hc.mono λ_ w' h=>h.on hne (λq=>hbad q w') λa=>hok a w'
def PRp.call{P:Program}{fn:Nat}{args:Array Value}{p:Nat}{A:Option Addr}{C:Nat}{T:List Tok}{w:World}{g:α->Value}{x:PR α}(hc:Calls P fn args w (PRp p A C T w g x))(hne:x≠.out)
  (hbad:∀q w',x=.bad q->Chg [p] w w'->Post (.panicked [{v:=Qeo q,recovered:=false}]) w')
  (hok:∀(a:α)(w':World)(k':Nat),x=.ok a (T.drop k')->PAt w' p A C T k'->Chg [p] w w'->Post (.returned (g a)) w'):Calls P fn args w Post:=
 hc.mono λ_ w' h=>h.on hne (λq=>hbad q w') λa=>hok a w'
def J6(kd:Int)(s:By)(r:List Tok):Qar kd s r≠.out:=by
 rcases KD kd s r with⟨_,h⟩|h<;>rw[h]<;>exact λh=>by cases h
def Jx{x:PR α}{f:α->List Tok->PR β}{X:PR β}{a:α}(h:x.bind f=X)(hx:x=.ok a r):f a r=X:=by subst hx;exact h
def JO{x:PR α}{f:α->List Tok->PR β}{X:PR β}(h:x.bind f=X)(hX:X≠.out):x≠.out:=λe=>hX (by rw[<-h,e];rfl)
structure NS(p:Nat)(A:Option Addr)(C:Nat)(T:List Tok)(w W:World)(k:Nat):Prop where
 pat:PAt W p A C T k
 chg:Chg [p] w W
 res:W.heap[w.heap.size]?=some (.cells (yj 0 0 Em 0 Nl) 127 (0,0))
 pl:p<w.heap.size
 tl:∀b o,A=some ⟨b,o,none⟩->b<w.heap.size
variable{X:PR Nd}
section
variable {p:Nat}{A:Option Addr}{C:Nat}{T:List Tok}{w W W':World}{k k':Nat}
def NS.start(h:PAt w p A C T k):NS p A C T w (w.alloc (.cells (yj 0 0 Em 0 Nl) 127)) k:=
 have hB:=(Below.refl w.heap.size w).alloc zP (.cells (yj 0 0 Em 0 Nl) 127)
 ⟨h.chg hB,Chg.of_below hB [p],zQ _ _,Jb h.self,h.tokLt⟩
section
variable (h:NS p A C T w W k)
include h
theorem NS.ne:w.heap.size≠p:=Ne.symm (Nat.ne_of_lt h.pl)
theorem NS.lt:w.heap.size<W.heap.size:=Jb h.res
theorem NS.plt:p<W.heap.size:=Nat.lt_trans h.pl h.lt
theorem NS.up(hb:yr W W'):NS p A C T w W' k:=⟨h.pat.chg hb,h.chg.trans (Chg.of_below hb [p]),(hb.block _ h.lt).trans h.res,h.pl,h.tl⟩
theorem NS.on(hp:PAt W' p A C T k')(hc:Chg [p] W W'):NS p A C T w W' k':=⟨hp,h.chg.trans hc,hc.heap_some (by simp;exact h.ne) h.res,h.pl,h.tl⟩
theorem NS.new(X:Obj):NS p A C T w (W.alloc X) k:=h.up (zO.alloc zP X)
theorem NS.dr:NS p A C T w W.drew k:=h.up zO.drew
end
def NS.bad{x:PR α}{f:α->List Tok->PR Nd}{R:Ending->World->Prop}{q:Int}(h:NS p A C T w W k)(hR:R=NdP p A C T w X)(hX:x.bind f=X)(hx:x=.bad q)(hc:Chg [p] W W'):R (.panicked [{v:=Qeo q,recovered:=false}]) W':=by
 subst hx hX hR;exact⟨rfl,h.chg.trans hc⟩
end
def PAt.chg1{p:Nat}{A:Option Addr}{C:Nat}{T:List Tok}(h:PAt W p A C T k):p<W.heap.size:=Jb h.self
def KB{x:PR α}{f:α->List Tok->PR β}(h:x.bind f≠.out):x≠.out:=λe=>h (by rw[e];rfl)
def JfM(f:Nat){r1:List Tok}(h:acc 0 QgQ r=some r1):pM (f+1) (.level 3) r=(pM f (.level 3) r1).bind λa r2=>.ok (.mk 7 0 [] (hd r).off [a]) r2:=by rw[pM,if_pos rfl,h]
def JgT(f:Nat)(h:acc 0 QgQ r=none):pM (f+1) (.level 3) r=pM f .cmp r:=by rw[pM,if_pos rfl,h]
def JfN(f:Nat){r1:List Tok}(h:acc 3 [45] r=some r1):pM (f+1) (.level 7) r=(pM f (.level 7) r1).bind λa r2=>.ok (.mk 6 0 [] (hd r).off [a]) r2:=by rw[pM,if_neg zp,if_pos rfl,h]
def JgU(f:Nat)(h:acc 3 [45] r=none):pM (f+1) (.level 7) r=pM f .prim r:=by rw[pM,if_neg zp,if_pos rfl,h]
def Jch{w W2 W3:World}{p:Nat}{A:Option Addr}{C:Nat}{T:List Tok}{a:An}(hat:a.At W3)(hm:Qce W2.heap.size W3.heap.size a)(h2:w.heap.size<W2.heap.size)(hP:PAt W3 p A C T k')(hC2:Chg [p] w W2)(hC3:Chg [p] W2 W3)(hp:p<w.heap.size)(hT:∀b o,A=some ⟨b,o,none⟩->b<w.heap.size)(v0 v1 v2 v3 v4:Value):
  a.At (put5 W3 w.heap.size v0 v1 v2 v3 v4)/\Qce w.heap.size (put5 W3 w.heap.size v0 v1 v2 v3 v4).heap.size a/\PAt (put5 W3 w.heap.size v0 v1 v2 v3 v4) p A C T k'/\Chg [p] w (put5 W3 w.heap.size v0 v1 v2 v3 v4):=by
 have hc:=Kj (S:=[w.heap.size]) (W:=W3) v0 v1 v2 v3 v4 (by simp:w.heap.size∈[w.heap.size]);refine⟨JaE hat hm hc zP λb hb=>by simp at hb;omega,?_,hP.put5 (Ne.symm (Nat.ne_of_lt hp)) (λb o e=>by have:=hT b o e;omega) _ _ _ _ _,(hC2.trans hC3).step hc λb hb=>.inr (by simp at hb;omega)⟩;rw[Kl];exact hm.mono (Nat.le_of_lt h2) zP
def NS.pass{p:Nat}{A:Option Addr}{C:Nat}{T:List Tok}{w:World}{a:An}(h:NS p A C T w W k)(B:a.At W'/\Qce W.heap.size W'.heap.size a/\PAt W' p A C T k'/\Chg [p] W W')(v0 v1 v2 v3 v4:Value):
  a.At (put5 W' w.heap.size v0 v1 v2 v3 v4)/\Qce w.heap.size (put5 W' w.heap.size v0 v1 v2 v3 v4).heap.size a/\PAt (put5 W' w.heap.size v0 v1 v2 v3 v4) p A C T k'/\Chg [p] w (put5 W' w.heap.size v0 v1 v2 v3 v4):=
 Jch B.1 B.2.1 h.lt B.2.2.1 h.chg B.2.2.2 h.pl h.tl v0 v1 v2 v3 v4
def Qkc{P:Prop}(h:P:=by
  subst hx;replace HS:=Zh (HS.o.up I0);clear g1 I0 C4 F8 I1;go_wp2_with fail;refine NdP.call (I2 k w2 HS.o.pat N3.o) N3.o (λq _ hx hc=>by exact⟨rfl,by rw[HR.o,hx];exact⟨rfl,HS.o.chg.trans hc⟩⟩) λa w4 k4 xA xn xc hx T1 B=>?_
  have L4:=Zh (HS.o.pass B);have M7:=Zh hx;have R6:=Zh T1;have SA:=Zh (HS.o.on B.2.2.1 B.2.2.2).res;have h5:=Jl SA.o;have y5:=Js SA.o;clear hx T1 B;go_wp2;refine bodyPost_ret (v:=.agg (Qaa a)) (by rw[R6.o];exact results_cell_row rfl _ _ w.heap.size 127 _ (0,0) _ rfl (Qcv _ _ _ _ _ SA.o) underlying127 rfl Qau) rfl ?_;rw[HR.o,M7.o];obtain⟨e1,e2,e3,e4⟩:=L4.o _ _ _ _ _
  exact⟨_,rfl,rfl,e1,e2,⟨k4,rfl,e3⟩,e4⟩):P:=h
def QgU{P:Prop}(h:P:=by
  obtain⟨e1,e2,e3,e4⟩:=C0.o _ _ _ _ _
  exact⟨_,rfl,rfl,e1,e2,⟨k9,rfl,e3⟩,e4⟩):P:=h
def JlI(f p:Nat)(A:Option Addr)(C:Nat)(T:List Tok)
  (I1:∀k w,PAt w p A C T k->pM f (.level 3) (T.drop k)≠.out->Calls prog 136 #[Pt p,Iv 3] w (NdP p A C T w (pM f (.level 3) (T.drop k))))
  (I2:∀k w,PAt w p A C T k->pM f .cmp (T.drop k)≠.out->Calls prog 158 #[Pt p] w (NdP p A C T w (pM f .cmp (T.drop k))))
  (k:Nat) (w:World) (h:PAt w p A C T k) (hne:pM (f+1) (.level 3) (T.drop k)≠.out):
  Calls prog 136 #[Pt p,Iv 3] w (NdP p A C T w (pM (f+1) (.level 3) (T.drop k))):=by
 obtain⟨X,hX⟩:=yt (pM (f+1) (.level 3) (T.drop k))
 have C4:=Zh hX;rw[hX]at hne |-;obtain⟨R,hR⟩:∃R,R=NdP p A C T w X:=⟨_,rfl⟩
 rw[<-hR];have HR:=Zh hR;have N3:=Zh hne;have HS:=Zh (NS.start h);have cp:=Kp p A C T k _ HS.o.pat;obtain⟨of,zA⟩:=yt ((hd (T.drop k)).off)
 unfold Qfh at cp;have hfl:=JdG (hd (T.drop k));rw[zA]at hfl;have F8:=Zh zA;generalize Qda (hd (T.drop k))=tv at*;clear h hne hR zA hX;go_enter func136,ntmps136;go_wp2_with fail;refine cp.mono ?_;rintro e w1 ⟨rfl,L1⟩;replace HS:=Zh (HS.o.up L1);clear cp L1;go_wp2_with fail;refine(Jt p A C T k 0 QgQ w1 HS.o.pat zp).mono ?_;intro e w2 h2
 rcases h2 with⟨g1,g2,rfl,F1,S1⟩|⟨g1,rfl,I0⟩
 ·have uA:=C4.o;rw[JfM f (JN g1 g2),F8.o]at uA;have B0:=Zh uA;replace HS:=Zh (HS.o.on F1 S1);clear g1 g2 F1 S1 uA I2 C4 F8;go_wp2_with fail;refine NdP.call (I1 (k+1) w2 HS.o.pat (JO B0.o N3.o)) (JO B0.o N3.o) (λq _ hx hc=>by exact⟨rfl,HS.o.bad HR.o B0.o hx hc⟩) λa w9 k9 xA xn xc hx T1 B=>?_
  have yA:=HS.o.lt;have hm:=B.2.2.2.size;have vA:=Zh (Jx B0.o hx);replace HS:=Zh (HS.o.on B.2.2.1 B.2.2.2);have C0:=Zh (λv0 v1 v2 v3 v4=>Zj (w:=w) (W3:=w9) (kids:=[a]) (cs:=Qaa a) zq (by simp[Qdb]) (by simpa using B.1) (⟨w9.heap.size,hm,B.2.1,le_refl _⟩:Qdi w2.heap.size w9.heap.size [a]) yA HS.o.pat HS.o.chg HS.o.pl HS.o.tl 7 0 [] of 1 v0 v1 v2 v3 v4);have h5:=Jl HS.o.res;have y5:=Js HS.o.res;have aA:=HS.o.lt;rw[T1]at C0;clear hx T1 B hm yA;go_wp2;refine bodyPost_ret (v:=.agg (Qaa (An.mk 7 0 [] of w9.heap.size 1 [a]))) (results_cell_row rfl _ _ w.heap.size 127 _ (0,0) _ rfl (V6 _ _ _ _ _ _ HS.o.res) underlying127 rfl Qau) rfl ?_;rw[HR.o,<-vA.o];exact QgU
 ·have hx:=C4.o;rw[JgT f (Kf g1)]at hx;exact Qkc
def JlJ(f p:Nat)(A:Option Addr)(C:Nat)(T:List Tok)
  (I1:∀k w,PAt w p A C T k->pM f (.level 7) (T.drop k)≠.out->Calls prog 136 #[Pt p,Iv 7] w (NdP p A C T w (pM f (.level 7) (T.drop k))))
  (I2:∀k w,PAt w p A C T k->pM f .prim (T.drop k)≠.out->Calls prog 159 #[Pt p] w (NdP p A C T w (pM f .prim (T.drop k))))
  (k:Nat) (w:World) (h:PAt w p A C T k) (hne:pM (f+1) (.level 7) (T.drop k)≠.out):
  Calls prog 136 #[Pt p,Iv 7] w (NdP p A C T w (pM (f+1) (.level 7) (T.drop k))):=by
 obtain⟨X,hX⟩:=yt (pM (f+1) (.level 7) (T.drop k))
 have C4:=Zh hX;rw[hX]at hne |-;obtain⟨R,hR⟩:∃R,R=NdP p A C T w X:=⟨_,rfl⟩
 rw[<-hR];have HR:=Zh hR;have N3:=Zh hne;have HS:=Zh (NS.start h);have cp:=Kp p A C T k _ HS.o.pat;obtain⟨of,zA⟩:=yt ((hd (T.drop k)).off)
 unfold Qfh at cp;have hfl:=JdG (hd (T.drop k));rw[zA]at hfl;have F8:=Zh zA;generalize Qda (hd (T.drop k))=tv at*;clear h hne hR zA hX;go_enter func136,ntmps136;go_wp2_with fail;refine cp.mono ?_;rintro e w1 ⟨rfl,L1⟩;replace HS:=Zh (HS.o.up L1);clear cp L1;go_wp2_with fail;refine(Jt p A C T k 3 [45] w1 HS.o.pat zp).mono ?_;intro e w2 h2
 rcases h2 with⟨g1,g2,rfl,F1,S1⟩|⟨g1,rfl,I0⟩
 ·have uA:=C4.o;rw[JfN f (JN g1 g2),F8.o]at uA;have B0:=Zh uA;replace HS:=Zh (HS.o.on F1 S1);clear g1 g2 F1 S1 uA I2 C4 F8;go_wp2_with fail;refine NdP.call (I1 (k+1) w2 HS.o.pat (JO B0.o N3.o)) (JO B0.o N3.o) (λq _ hx hc=>by exact⟨rfl,HS.o.bad HR.o B0.o hx hc⟩) λa w9 k9 xA xn xc hx T1 B=>?_
  have yA:=HS.o.lt;have hm:=B.2.2.2.size;have vA:=Zh (Jx B0.o hx);replace HS:=Zh (HS.o.on B.2.2.1 B.2.2.2);have C0:=Zh (λv0 v1 v2 v3 v4=>Zj (w:=w) (W3:=w9) (kids:=[a]) (cs:=Qaa a) zq (by simp[Qdb]) (by simpa using B.1) (⟨w9.heap.size,hm,B.2.1,le_refl _⟩:Qdi w2.heap.size w9.heap.size [a]) yA HS.o.pat HS.o.chg HS.o.pl HS.o.tl 6 0 [] of 1 v0 v1 v2 v3 v4);have h5:=Jl HS.o.res;have y5:=Js HS.o.res;have aA:=HS.o.lt;rw[T1]at C0;clear hx T1 B hm yA;go_wp2;refine bodyPost_ret (v:=.agg (Qaa (An.mk 6 0 [] of w9.heap.size 1 [a]))) (results_cell_row rfl _ _ w.heap.size 127 _ (0,0) _ rfl (V6 _ _ _ _ _ _ HS.o.res) underlying127 rfl Qau) rfl ?_;rw[HR.o,<-vA.o];exact QgU
 ·have hx:=C4.o;rw[JgU f (Kf g1)]at hx;exact Qkc
open Go
section
variable {P:Program}{ops:Array Oper}{Q:Exit->Act->World->Prop}{md:Region.Mode}{S:World->Prop}{z:Nat}
def wpL(P:Program)(md:Region.Mode)(ops:Array Oper)(Q:Exit->Act->World->Prop)(S:World->Prop)(z:Nat):Nat->Array Bool->Act->World->Prop
 |0,l,a,w=>Region.ready md ops l=[]/\Q .normal a w
 |n+1,l,a,w=>(Region.ready md ops l=[]->Q .normal a w)/\
  ∀i∈Region.ready md ops l,wpOp P ops Q i (λa' w'=>(i=z\/S w')/\wpL P md ops Q S z n (l.setIfInBounds i true) a' w') a w
def JgV:∀(n:Nat)(l:Array Bool)(a:Act)(w:World),wpL P md ops Q S z n l a w->wpAny P md ops Q n l a w
 |0,_,_,_,h=>h
 |n+1,_,_,_,h=>⟨h.1,λi hi=>wpOp_mono (λa' w' h'=>JgV n _ a' w' h'.2) (h.2 i hi)⟩
def Qgp(md:Region.Mode)(ops:Array Oper)(z i:Nat):Bool:=match ops[z]? with|some o=>o.after.any λe=>Region.binds md e&&e.on==i|none=>true
def JgW{i:Nat}{oi:Oper}(hi:ops[i]?=some oi)(oD:∀(j:Nat)(o:Oper) cs b,ops[j]?=some o->o.op≠.select cs b)
  (hQ:∀c a w,Q (.panic c) (a.put oi.dst v) w->Q (.panic c) a w) (hz:Qgp md ops z i=true):
  ∀(n:Nat)(l:Array Bool)(a:Act)(w:World),
   (∀j oj,ops[j]?=some oj->j≠i->l.getD j true=false->(∀e∈oj.after,Region.binds md e=true->e.on≠i)->oi.apart ops oj=true)->
   i∈Region.ready md ops l->YieldsIf P ops S oi v a->S w->wpL P md ops Q S z n (l.setIfInBounds i true) (a.put oi.dst v) w->wpL P md ops Q S z (n+1) l a w:=by
 intro n
 induction n with
 |zero=>
  intro l a w _ hr hy hS H;refine⟨λh=>(by rw[h]at hr;cases hr),λj hj=>?_⟩
  by_cases GA:j=i
  ·subst GA;exact hy.wpOp hi hS ⟨.inr hS,H⟩
  ·have:=ready_mono hj GA;rw[H.1]at this
   cases this
 |succ n ih=>
  intro l a w xA hr hy hS H;refine⟨λh=>(by rw[h]at hr;cases hr),λj hj=>?_⟩
  by_cases GA:j=i
  ·subst GA;exact hy.wpOp hi hS ⟨.inr hS,H⟩
  ·have h1:=H.2 j (ready_mono hj GA);obtain⟨zA,oj,vA,aA⟩:=mem_ready.1 hj
   have uA:∀e∈oj.after,Region.binds md e=true->e.on≠i:=λe he hb heq=>by
    have h1:=aA e he hb;have h0:=(mem_ready.1 hr).1;rw[heq]at h1
    rcases Nat.lt_or_ge i l.size with h'|h'
    ·simp[h']at h0 h1;rw[h0]at h1;cases h1
    ·simp[Array.getElem?_eq_none h']at h1
   have cA:j≠z:=λe=>by
    subst e;unfold Qgp at hz;rw[vA]at hz;obtain⟨e,he,hb⟩:=Array.any_eq_true'.1 hz;simp only[Bool.and_eq_true,beq_iff_eq]at hb;exact uA e he hb.1 hb.2
   have h2:=wpOp_putIf vA (xA j oj vA GA zA uA) (λcs b=>oD i oi cs b hi) (λcs b=>oD j oj cs b vA) hQ hy h1
   have yA:∀k ok,ops[k]?=some ok->k≠i->(l.setIfInBounds j true).getD k true=false->
     (∀e∈ok.after,Region.binds md e=true->e.on≠i)->oi.apart ops ok=true:=λk ok hk hki hun hno=>by
    refine xA k ok hk hki ?_ hno
    by_cases dG:j=k
    ·subst dG;exact zA
    ·rw[getD_set_ne true dG]at hun;exact hun
   refine wpOp_mono (λa' w' h3=>?_) h2;have bA:S w':=h3.2.1.resolve_left cA;refine⟨.inr bA,ih (l.setIfInBounds j true) a' w' yA (ready_mono hr (Ne.symm GA)) h3.1 bA ?_⟩;rw[Array.setIfInBounds_comm _ _ GA];exact h3.2.2
def LK(i:Nat){d:Option Tmp}{o:Op}{t:TypeId}{p:String}{af:Array Edge}{g:Option (Nat×Bool)}{n:Nat}{l:Array Bool}{a a':Act}{w:World}(hi:ops[i]?=some ⟨d,o,t,p,af,g⟩)
  (h:wpL P md ops Q S z n (l.setIfInBounds i true) a' w)
  (hy:YieldsIf P ops S ⟨d,o,t,p,af,g⟩ v a:=by exact Or.inl ⟨by rfl,by intro wX hSw;(try dsimp only at hSw);go_simp<;>with_reducible rfl⟩)
  (ha:a.put d v=a':=by(simp only[zX]);rfl)
  (hS:S w:=by assumption) (hs:Region.noSelect ops=true:=by kernel_rfl) (hf:Region.free md ops l i=true:=by kernel_rfl) (hr:(Region.ready md ops l).contains i=true:=by kernel_rfl) (hz:Qgp md ops z i=true:=by kernel_rfl)
  (hQ:∀c a w,Q (.panic c) (a.put d v) w->Q (.panic c) a w:=by exact λ_ _ _ h=>h):wpL P md ops Q S z (n+1) l a w:=by
 subst ha;exact JgW hi (Region.noSelect_spec hs) hQ hz n l a w (Region.free_spec hi hf) (by simpa using hr) hy hS h
section
variable (i:Nat){d:Option Tmp}{oo:Op}{t:TypeId}{p:String}{af:Array Edge}{g:Option (Nat×Bool)}{n:Nat}{l:Array Bool}{a:Act}{w:World}(ho:ops[i]?=some ⟨d,oo,t,p,af,g⟩)
include i d oo t p af g n l a w ho
theorem LO
  (h:∀K':Act->World->Prop,Shut (∀a w,S w->(S w->wpL P md ops Q S z n (l.setIfInBounds i true) a w)->K' a w)->if Region.wanted ⟨d,oo,t,p,af,g⟩ (yielded ops a.tmps)=true then Oper.wp P ⟨d,oo,t,p,af,g⟩ a w K' Q else K' (a.put d undef) w)
  (hr:Region.ready md ops l=[i]:=by kernel_rfl):wpL P md ops Q S z (n+1) l a w:=by
 refine⟨λh0=>absurd (hr ▸ h0) zq,λj hj=>?_⟩;rw[hr]at hj;obtain rfl:j=i:=by simpa using hj
 exact wpOp_step ho λK' hK=>h K' λa w hS hW=>hK a w ⟨.inr hS,hW hS⟩
theorem LZ
  (h:∀K':Act->World->Prop,Shut (∀a w,Q .normal a w->K' a w)->if Region.wanted ⟨d,oo,t,p,af,g⟩ (yielded ops a.tmps)=true then Oper.wp P ⟨d,oo,t,p,af,g⟩ a w K' Q else K' (a.put d undef) w)
  (hr:Region.ready md ops l=[i]:=by kernel_rfl) (hz:i=z:=by rfl) (hd:Region.ready md ops (l.setIfInBounds i true)=[]:=by kernel_rfl):wpL P md ops Q S z (n+1) l a w:=by
 refine⟨λh0=>absurd (hr ▸ h0) zq,λj hj=>?_⟩;rw[hr]at hj;obtain rfl:j=i:=by simpa using hj
 refine wpOp_step ho λK' hK=>h K' λa w hq=>hK a w ⟨.inl hz,?_⟩
 cases n with
 |zero=>exact⟨hd,hq⟩
 |succ n=>exact⟨λ_=>hq,by rw[hd];simp⟩
end
def LB(S:World->Prop)(z:Nat){id:Nat}{a:Act}{w:World}(hS:S w.drew)(h:S w.drew->wpL P .any ops Q S z ops.size (Array.replicate ops.size false) a w.drew)(hm:P.follows .mixedOrders=true:=by kernel_rfl):(Code.region id ops true).wp P Q a w:=
 wp_region_any hm (JgV _ _ _ _ (h hS))
end
def Jju(f lv:Nat)(h3:lv≠3)(h7:lv≠7)(r:List Tok):pM (f+1) (.level lv) r=(pM f (.level (lv+1)) r).bind λa r1=>pM f (.loop lv (hd r).off a) r1:=by rw[pM,if_neg h3,if_neg h7]
def Jci(f lv:Nat)(o:Int)(a:Nd)(h:opK lv (hd r)=none):pM (f+1) (.loop lv o a) r=.ok a r:=by rw[pM,h]
def Jcj(f lv:Nat)(o:Int)(a:Nd){k:Int}(h:opK lv (hd r)=some k):pM (f+1) (.loop lv o a) r=(pM f (.level (lv+1)) r.tail).bind λb r1=>pM f (.loop lv o (.mk k 0 [] o [a,b])) r1:=by rw[pM,h]
structure LvI(f lv:Nat)(of:Int)(X:PR Nd)(p:Nat)(A:Option Addr)(C:Nat)(T:List Tok)(w:World)(lo bx:Nat)(wr:World)(k2 f1:Nat)(a:An):Prop where
 eq:pM f1 (.loop lv of a.nd) (T.drop k2)=X
 le:f1<=f
 pat:PAt wr p A C T k2
 at':a.At wr
 made:Qce lo wr.heap.size a
 box:wr.heap[bx]?=some (.cells (Qaa a) 127 (0,0))
 res:wr.heap[w.heap.size]?=some (.cells (yj 0 0 Em 0 Nl) 127 (0,0))
 chg:Chg [p] w wr
 low:w.heap.size<lo/\bx≠w.heap.size/\bx≠p/\w.heap.size<=bx
 lle:lo<=wr.heap.size
 nbx:bx∉foot a
variable{a:An}{w:World}
def LvI.below{f:Nat}{p:Nat}{A:Option Addr}{C:Nat}{T:List Tok}{wr wr':World}{f1:Nat}(h:LvI f lv of X p A C T w lo bx wr k2 f1 a)(hb:yr wr wr'):LvI f lv of X p A C T w lo bx wr' k2 f1 a:=
 ⟨h.eq,h.le,h.pat.chg hb,K1 h.at' h.made hb zP,h.made.mono zP hb.size,(hb.block _ (Jb h.box)).trans h.box,(hb.block _ (Jb h.res)).trans h.res,h.chg.trans (Chg.of_below hb [p]),h.low,Nat.le_trans h.lle hb.size,h.nbx⟩
def LvI.fin{f:Nat}{p:Nat}{A:Option Addr}{C:Nat}{T:List Tok}{wr:World}{f1:Nat}(h:LvI f lv of X p A C T w lo bx wr k2 f1 a)(hp:p<w.heap.size)(hT:∀b o,A=some ⟨b,o,none⟩->b<w.heap.size)(v0 v1 v2 v3 v4:Value):
  a.At (put5 wr w.heap.size v0 v1 v2 v3 v4)/\Qce w.heap.size (put5 wr w.heap.size v0 v1 v2 v3 v4).heap.size a/\PAt (put5 wr w.heap.size v0 v1 v2 v3 v4) p A C T k2/\Chg [p] w (put5 wr w.heap.size v0 v1 v2 v3 v4):=by
 have hc:=Kj (S:=[w.heap.size]) (W:=wr) v0 v1 v2 v3 v4 (by simp:w.heap.size∈[w.heap.size]);refine⟨JaE h.at' h.made hc zP λb hb=>by have:=h.low.1;simp at hb;omega,?_,h.pat.put5 (Ne.symm (Nat.ne_of_lt hp)) (λb o e=>by have:=hT b o e;omega) _ _ _ _ _,h.chg.step hc λb hb=>.inr (by simp at hb;omega)⟩;rw[Kl];exact h.made.mono (Nat.le_of_lt h.low.1) zP
def Jjv{t:Tok}{k:Int}(h:opK lv t=some k):t.kind≠4:=by
 intro e;unfold opK at h;rw[if_neg (by rw[e];simp),if_neg (by rw[e];simp),if_pos (by rw[e];decide)]at h
 cases h
def LvI.step{f:Nat}{p:Nat}{A:Option Addr}{C:Nat}{T:List Tok}{wr w5 w6:World}{k4 f2:Nat}{kk:Int}{b:An}(h:LvI f lv of X p A C T w lo bx wr k2 (f2+1) a)
  (S4:Chg [p] wr w5) (TA:b.At w6) (S9:Qce w5.heap.size w6.heap.size b) (X8:PAt w6 p A C T k4) (O1:Chg [p] w5 w6) (hT:∀b o,A=some ⟨b,o,none⟩->b<w.heap.size) (hp:p<w.heap.size)
  (he:pM f2 (.loop lv of (.mk kk 0 [] of [a.nd,b.nd])) (T.drop k4)=X) (hcs:cs.toList=Qdb [a,b]):
  LvI f lv of X p A C T w lo bx ((put5 w6 bx (Iv kk) (Iv 0) (.string (bs [])) (Iv of) (.slice (some ⟨w6.heap.size,0,none⟩) 2 2)).alloc (.cells cs 127)) k4 f2 (.mk kk 0 [] of w6.heap.size 2 [a,b]):=by
 obtain⟨l1,l2,l3,l4⟩:=h.low;have hsz:=Kl w6 bx (Iv kk) (Iv 0) (.string (bs [])) (Iv of) (.slice (some ⟨w6.heap.size,0,none⟩) 2 2);have hch:=Kj (S:=[bx]) (W:=w6) (Iv kk) (Iv 0) (.string (bs [])) (Iv of) (.slice (some ⟨w6.heap.size,0,none⟩) 2 2) (by simp:bx∈[bx]);have h6:=S4.trans O1;have zA:=h6.heap_some (by simpa using l3) h.box;have yA:=h6.heap_some zr h.res;have uA:=zQ (put5 w6 bx (Iv kk) (Iv 0) (.string (bs [])) (Iv of) (.slice (some ⟨w6.heap.size,0,none⟩) 2 2)) (.cells cs 127);rw[hsz]at uA
 have vA:∀q,q<w6.heap.size->q≠bx->((put5 w6 bx (Iv kk) (Iv 0) (.string (bs [])) (Iv of) (.slice (some ⟨w6.heap.size,0,none⟩) 2 2)).alloc (.cells cs 127)).heap[q]?=w6.heap[q]?:=λq hq hn=>
  (Below.heap_alloc _ _ _ (by rw[hsz];exact hq)).trans (hch.block q hq (by simpa using hn))
 have dA:p<lo:=zo;have cA:Qce lo w5.heap.size a:=h.made.mono zP S4.size;have N7:lo<=w5.heap.size:=Nat.le_trans h.lle S4.size;have eA:Qdi lo w6.heap.size [a,b]:=⟨w5.heap.size,N7,cA,w6.heap.size,O1.size,S9,le_refl _⟩
 have I3:bx<w5.heap.size:=Nat.lt_of_lt_of_le (Jb h.box) S4.size;have bA:w.heap.size<w6.heap.size:=Jb yA;refine⟨he,by have:=h.le;omega,?_,?_,?_,?_,?_,?_,h.low,?_,?_⟩
 ·exact(X8.put5 l3 (λq o e=>by have:=hT q o e;omega) _ _ _ _ _).chg (zO.alloc zP _)
 ·unfold An.At;refine⟨λ_ j=>Jc uA j,KN [a,b] 0 (λj u hu=>?_) λx hx=>?_⟩
  ·rw[Nat.zero_mul,Nat.zero_add];exact KP uA (by rw[hcs];exact hu)
  ·rcases List.mem_cons.1 hx with rfl|hx
   ·refine JK _ h.at' λq hq=>?_
    have aA:=h.made.2 q hq;exact(vA q (Nat.lt_of_lt_of_le aA.2 h6.size) λe=>h.nbx (e ▸ hq)).trans (h6.block q aA.2 zr)
   ·obtain rfl:x=b:=by simpa using hx
    refine JK _ TA λq hq=>?_
    have aA:=S9.2 q hq;exact vA q aA.2 zo
 ·rw[World.size_alloc,hsz];exact JbZ eA zP kk 0 [] of 2
 ·obtain⟨xA,xn,xc,T1⟩:=Jg a;rw[T1]at zA;exact V6 _ _ _ _ _ _ zA
 ·exact(vA _ bA (Ne.symm l2)).trans yA
 ·exact((h.chg.trans h6).step hch λq hq=>.inr (by simp at hq;omega)).alloc _
 ·rw[World.size_alloc,hsz];have:=O1.size;omega
 ·unfold foot;simp only[List.mem_cons,List.mem_append,Qak,List.append_nil];rintro (h1|h1|h1)
  ·have:=O1.size;omega
  ·exact h.nbx h1
  ·have:=(S9.2 _ h1).1;omega
def Yi(lv:Nat)(z z1:Int)(hlv:lv≠3/\lv≠7)(hz3:(z==3)=false)(hz7:(z==7)=false)(hz:IntKind.i64.wrap (z+1)=z1)(oper:∀(t:Tok)(w:World),Calls prog 160 #[Iv z,.agg (Qda t)] w (OpP w (opK lv t)))(f p:Nat)(A:Option Addr)(C:Nat)(T:List Tok)
  (I1:∀g,g<=f->∀k w,PAt w p A C T k->pM g (.level (lv+1)) (T.drop k)≠.out->Calls prog 136 #[Pt p,Iv z1] w (NdP p A C T w (pM g (.level (lv+1)) (T.drop k))))
  (k:Nat) (w:World) (h:PAt w p A C T k) (hne:pM (f+1) (.level lv) (T.drop k)≠.out):
  Calls prog 136 #[Pt p,Iv z] w (NdP p A C T w (pM (f+1) (.level lv) (T.drop k))):=by
 obtain⟨X,hX⟩:∃X,pM (f+1) (.level lv) (T.drop k)=X:=⟨_,rfl⟩
 have uA:=Jju f lv hlv.1 hlv.2 (T.drop k);rw[hX]at hne uA |-;obtain⟨R,hR⟩:∃R,NdP p A C T w X=R:=⟨_,rfl⟩
 rw[hR];have HR:Hi (R=NdP p A C T w X):=hR.symm;have N3:=Zh hne;have hZ:=zQ w (.cells #[Iv 0,Iv 0,Em,Iv 0,Nl] 127);have hB:=(Below.refl w.heap.size w).alloc zP (.cells #[Iv 0,Iv 0,Em,Iv 0,Nl] 127);have cp:=Kp p A C T k _ (h.chg hB);obtain⟨of,vB⟩:∃of,(hd (T.drop k)).off=of:=⟨_,rfl⟩
 unfold Qfh at cp;have hfl:∀(t:Tok)(W:World),(Instr.field 134 (.agg (Qda t)) 3).run prog W=.ok (Iv t.off) W:=λt W=>by obtain⟨a,b,c,d⟩:=t;kernel_rfl
 have rA:=hfl (hd (T.drop k));rw[vB]at rA uA;generalize Qda (hd (T.drop k))=tv at*;have HP:=Zh (h.chg hB);have HZ:=Zh hZ;have HB:=Zh hB;have D3:=Zh h.chg1;have W6:=Zh h.tokLt;have gA:=Zh uA;have D4:pM f (.level (lv+1)) (T.drop k)≠.out:=KB (by rw[<-gA.o];exact hne);clear h hne hR hZ hB hfl vB uA hX;go_enter func136,ntmps136;go_wp2_with fail;refine cp.mono ?_;rintro e w1 ⟨rfl,L1⟩;have R9:=Zh (HP.o.chg L1);have sA:Hi (w1.heap[w.heap.size]?=some (.cells #[Iv 0,Iv 0,Em,Iv 0,Nl] 127)):=(L1.block _ (Jb HZ.o)).trans HZ.o;have nA:=Zh (HB.o.trans (L1.mono HB.o.size));have zB:Hi (w.heap.size<w1.heap.size):=Jb sA.o;have I6:w.heap.size≠p:=by have:=D3.o;omega
 clear cp L1 HP HZ HB;go_wp2_with fail;refine(I1 f zP k w1 R9.o D4).mono ?_;intro e w2 h2
 cases hx:pM f (.level (lv+1)) (T.drop k) with
 |out=>exact absurd hx D4
 |bad q=>
  rw[hx]at h2;obtain⟨rfl,S1⟩:=h2;refine⟨rfl,?_⟩;rw[HR.o,gA.o,hx];exact⟨rfl,(Chg.of_below nA.o [p]).trans S1⟩
 |ok nd r=>
 rw[hx]at h2;obtain⟨a,iB,rfl,hat,P7,⟨k2,hr,F1⟩,S1⟩:=h2;subst iB hr;have hzz:=S1.heap_some (by simp;exact I6) sA.o;have eA:Below w2.heap.size w2 (w2.alloc (.cells (Qaa a) 127)):=zO.alloc zP _;have kA:Hi (∃k2 a',LvI f lv of X p A C T w w1.heap.size w2.heap.size (w2.alloc (.cells (Qaa a) 127)) k2 f a'):=⟨k2,a,by rw[gA.o,hx];rfl,le_refl _,F1.chg eA,K1 hat P7 eA zP,P7.mono zP zq,zQ _ _,(eA.block _ (Jb hzz)).trans hzz,((Chg.of_below nA.o [p]).trans S1).alloc _,⟨zB.o,by have:=Jb hzz;omega,by have:=F1.chg1;have:=D3.o;have:=S1.size;have:=zB.o;omega,by have:=Jb hzz;omega⟩,by have:=S1.size;simp;omega,λhm=>by have:=(P7.2 _ hm).2;omega⟩
 obtain⟨xA,xn,xc,T1⟩:=Jg a;rw[T1]at kA |-;clear hx hat P7 F1 S1 T1 hzz eA gA sA R9 nA D4;go_wp2;generalize gB:World.alloc w2 _=wb at*;clear gB;generalize w2.heap.size=bx at*;generalize w1.heap.size=lo at*;go_loopg [] f λg wr=>Hi (∃k2 a,LvI f lv of X p A C T w lo bx wr k2 g a)
 case atStart=>exact kA
 case round=>
 clear kA;obtain⟨wl,rfl⟩:=zJ wr;obtain⟨k2,a,hI⟩:=hrel.o
 cases gk with
 |zero=>exact absurd hI.eq.symm N3.o
 |succ f2=>
 have cp:=Kp p A C T k2 wl hI.pat;have co:=λW=>oper (hd (T.drop k2)) W
 obtain⟨op,iA⟩:∃op,opK lv (hd (T.drop k2))=op:=⟨_,rfl⟩
 have uB:∀kk,op=some kk->(hd (T.drop k2)).kind≠4:=λkk e=>Jjv (iA.trans e)
 have vA:∀kk,op=some kk->k2+1<T.length:=λkk e=>hI.pat.more (uB kk e)
 unfold Qfh at cp;unfold OpP at co;rw[iA]at co;have HI:=Zh hI;have hA:=Zh iA;have mA:=Zh vA;generalize Qda (hd (T.drop k2))=tv2 at*;clear hI iA uB vA hrel;go_wp2_with fail;refine cp.mono ?_;rintro e w3 ⟨rfl,dB⟩;go_wp2_with fail;refine(co _).mono ?_;rintro e w4 ⟨rfl,bB⟩;have zA:=(HI.o.below dB).below bB;clear cp co dB bB
 cases op with
 |none=>
  have aA:=(Jci f2 lv of a.nd hA.o).symm.trans HI.o.eq;obtain⟨xA,xn,xc,T1⟩:=Jg a;have C0:=Zh λv0 v1 v2 v3 v4=>zA.fin D3.o W6.o v0 v1 v2 v3 v4;have R0:=zA.box;have M1:=zA.res;rw[T1]at R0;obtain⟨b0,b1,b2,b3,b4⟩:=Jl R0;obtain⟨z0,z1,z2,z3,z4⟩:=Jl M1;have hf:=λj=>Jc M1 j
  have y0:=hf 0;have y1:=hf 1;have y2:=hf 2;have y3:=hf 3;have y4:=hf 4;have X5:=Zh M1;have R6:=Zh T1;have L3:=Zh aA;clear hf R0 M1 zA T1 aA HI hA mA I1;simp only[Option.getD,Option.isSome];go_wp2;refine bodyPost_ret (v:=.agg (Qaa a)) (by rw[R6.o];exact results_cell_row rfl _ _ w.heap.size 127 _ (0,0) _ rfl (Qcv _ _ _ _ _ X5.o) underlying127 rfl Qau) rfl ?_;rw[HR.o,<-L3.o];obtain⟨e1,e2,e3,e4⟩:=C0.o _ _ _ _ _;exact⟨_,rfl,rfl,e1,e2,⟨k2,rfl,e3⟩,e4⟩
 |some kk=>
  have aA:=(Jcj f2 lv of a.nd hA.o).symm.trans HI.o.eq;rw[tail_drop]at aA;have S6:pM f2 (.level (lv+1)) (T.drop (k2+1))≠.out:=KB (by rw[aA];exact N3.o);have hk1:=mA.o kk rfl;have wk:IntKind.i64.wrap ((k2:Int)+1)=(k2:Int)+1:=IntWalk.i64_in _ (zu zA.pat.room);have pc:=Ja zA.pat.self 1;have pf:=Jc zA.pat.self 1;simp only[zW]at pc;have cA:=Zh zA;have qA:=Zh aA;have eB:f2<=f:=by have:=cA.o.le;omega
  clear HI hA mA aA zA;simp only[Option.getD,Option.isSome];go_upto_region 16 with fail;obtain⟨w5,jA⟩:∃w5,w4.setCell ⟨p,1,none⟩ (Iv ((k2:Int)+1))=w5:=⟨_,rfl⟩
  rw[jA];have tA:Below w5.heap.size w5 w5.drew:=(Below.refl w5.heap.size w5).drew
  have I7:Hi (Chg [p] w4 w5.drew):=by
   have h5:=(Chg.of_below (Below.refl w4.heap.size w4) [p]).setCell (.inl (by simp:p∈[p])) (p:=⟨p,1,none⟩) (Iv ((k2:Int)+1));rw[jA]at h5;exact h5.trans (Chg.of_below tA [p])
  have O7:Hi (PAt w5.drew p A C T (k2+1)):=by
   have h5:=cA.o.pat.next hk1;rw[show (w4.setCell ⟨p,1,none⟩ (Iv ((k2+1:Nat):Int)))=w5 from jA]at h5;exact h5.chg tA
  have yB:Hi (bx≠p/\True):=⟨cA.o.low.2.2.1,trivial⟩
  obtain⟨aB,xB,cB,T1⟩:=Jg a;have bA:=I7.o.heap_some (by simp;exact yB.o.1) cA.o.box;rw[T1]at bA;have N2:=Zh bA;have R6:=Zh T1;clear bA T1 tA pc pf jA;have h5:=Jl N2.o;refine LB (λW=>C5 W bx (Iv a.kind) (Iv a.num) (.string (bs a.name)) (Iv a.off) (.slice aB xB cB)) 9 (by simp[*,C5,yV,World.cell?_alloc_some,World.cell?_setCell_far]) λhH=>?_
  refine LK 0 rfl ?_;refine LK 1 rfl ?_;refine LK 2 rfl ?_;refine LK 3 rfl ?_;refine LK 4 rfl ?_;refine LK 5 rfl ?_;refine LO 6 rfl λK hK=>?_
  go_simp;go_at_call 136;refine NdP.call (I1 f2 zo (k2+1) _ O7.o S6) S6 (λq _ hx O1=>by exact⟨rfl,by rw[HR.o,<-qA.o,hx];exact⟨rfl,(cA.o.chg.trans I7.o).trans O1⟩⟩) λb w6 k4 yA yn yc hx Q4 B6=>?_
  have dA:=Zh B6;have M7:=Zh hx;have j9:=Zh Q4;have R0:=B6.2.2.2.heap_some (by simp;exact yB.o.1) N2.o;replace h5:=Jl R0;have f5:=Js R0;have pA:=Jb R0;clear hx Q4 B6 S6 R0;refine zU hK (h5) λhH=>?_
  clear hK K;refine LO 7 rfl λK hK=>?_
  go_simp;refine zU hK (by simp[*,C5,yV,World.cell?_alloc_some,World.cell?_setCell_far]) λhH=>?_
  clear hK K;refine LK 8 rfl ?_;refine LZ 9 rfl λK hK=>?_
  go_simp;refine hK.out _ _ ?_;clear hK K;have D2:=Zh (LvI.step (cs:=#[Iv a.kind,Iv a.num,.string (bs a.name),Iv a.off,.slice aB xB cB,Iv b.kind,Iv b.num,.string (bs b.name),Iv b.off,.slice yA yn yc]) cA.o I7.o dA.o.1 dA.o.2.1 dA.o.2.2.1 dA.o.2.2.2 W6.o D3.o (by rw[<-qA.o,M7.o];rfl) (by simp[Qdb,R6.o,j9.o]));clear N2 dA M7 j9 R6 qA pA;go_wp2;go_roundg f2
  case measure=>exact Nat.lt_succ_self _
  case rel=>exact⟨_,_,D2.o⟩
section
variable (f p:Nat)(A:Option Addr)(C:Nat)(T:List Tok)
include f p A C T
theorem JlK(I1:∀g,g<=f->∀k w,PAt w p A C T k->pM g (.level 2) (T.drop k)≠.out->Calls prog 136 #[Pt p,Iv 2] w (NdP p A C T w (pM g (.level 2) (T.drop k)))):∀k w,PAt w p A C T k->pM (f+1) (.level 1) (T.drop k)≠.out->Calls prog 136 #[Pt p,Iv 1] w (NdP p A C T w (pM (f+1) (.level 1) (T.drop k))):=Yi 1 1 2 zp rfl rfl zp Jnt f p A C T I1
theorem JlL(I1:∀g,g<=f->∀k w,PAt w p A C T k->pM g (.level 3) (T.drop k)≠.out->Calls prog 136 #[Pt p,Iv 3] w (NdP p A C T w (pM g (.level 3) (T.drop k)))):∀k w,PAt w p A C T k->pM (f+1) (.level 2) (T.drop k)≠.out->Calls prog 136 #[Pt p,Iv 2] w (NdP p A C T w (pM (f+1) (.level 2) (T.drop k))):=Yi 2 2 3 zp rfl rfl zp Jnu f p A C T I1
theorem JlM(I1:∀g,g<=f->∀k w,PAt w p A C T k->pM g (.level 6) (T.drop k)≠.out->Calls prog 136 #[Pt p,Iv 6] w (NdP p A C T w (pM g (.level 6) (T.drop k)))):∀k w,PAt w p A C T k->pM (f+1) (.level 5) (T.drop k)≠.out->Calls prog 136 #[Pt p,Iv 5] w (NdP p A C T w (pM (f+1) (.level 5) (T.drop k))):=Yi 5 5 6 zp rfl rfl zp Jnv f p A C T I1
theorem JlN(I1:∀g,g<=f->∀k w,PAt w p A C T k->pM g (.level 7) (T.drop k)≠.out->Calls prog 136 #[Pt p,Iv 7] w (NdP p A C T w (pM g (.level 7) (T.drop k)))):∀k w,PAt w p A C T k->pM (f+1) (.level 6) (T.drop k)≠.out->Calls prog 136 #[Pt p,Iv 6] w (NdP p A C T w (pM (f+1) (.level 6) (T.drop k))):=Yi 6 6 7 zp rfl rfl zp Jnw f p A C T I1
end
end Go.Proofs.YtfafpklefknomaaGreatDoor



