import Derived.Deep.OwnRows
import Derived.ChangeMaps4
import Derived.MapKept
import Derived.Test.YtfafpklefknomaaGreatDoorR35
import Derived.Test.YtfafpklefknomaaGreatDoorR13
open List(getElem?_eq_getElem mem_of_getElem?)
open Nat(le_refl)
namespace Go.Proofs.YtfafpklefknomaaGreatDoor
open Go.ChangeShapes Go.WideShapes Go.ChangeAt Go.RowKit Go.Lib
open _root_.Go.Proofs.Tryz
set_option linter.all false
set_option maxRecDepth 100000
set_option maxHeartbeats 32000000
def VOk.wf{t v:Int}(h:VOk t v):Qbc v:=by
 unfold Qbc
 rcases h with⟨_,h1,h2⟩|⟨_,h|h⟩<;>omega
def Qcw.setO{K:Qbw}(hk:K.Ok){W:World}{u c:Nat}(h:Qcw K W u c){b:Nat}(hb:b≠K.p)(h0:K.w0.heap.size<=b)(j:Nat)(v:Value):Qcw K (W.setCell ⟨b,j,none⟩ v) u c:=
 ⟨Ji h.self (by simpa using hb.symm) _,Below.setCell h.bel h0 _⟩
structure LpI(K:Qbw)(c d:Nat)(vars types:List Int)(u:Nat)(l:List Exp)(w1:World)(kb:Nat)(i:Nat)(vs:List Int)(ui:Nat)(W:World):Prop where
 mr:Qcw K W ui c
 chg:Chg [K.p] w1 W
 row:∃A:Array Value,W.heap[kb]?=some (.cells A 3 (0,0))/\A.size=l.length/\∀(j:Nat) (v:Int),vs[j]?=some v->A[j]?=some (Value.int .i64 v)
 ev:Qeq K d vars u l=(Qeq K d vars ui (l.drop i)).bind λws u''=>.val (vs++ws) u''
 len:vs.length=i
 ok:∀(j:Nat) (v:Int) (y:Exp),vs[j]?=some v->l[j]?=some y->VOk (ofN K.r.sigs types (utN y)).1 v
 us:ui<=10000
def LpI.ints{K:Qbw}{c d:Nat}{vars types:List Int}{u:Nat}{l:List Exp}{w1:World}{kb:Nat}{vs:List Int}{ui:Nat}{W:World}(h:LpI K c d vars types u l w1 kb l.length vs ui W)(hb:kb≠K.p):Qbo W K.p (.slice (some ⟨kb,0,none⟩) l.length l.length) vs:=by
 obtain⟨A,h1,h2,h3⟩:=h.row;refine .inr ⟨kb,0,l.length,by rw[h.len],by rw[h.len];exact le_refl _,hb,Jb h1,λj v hj=>?_⟩;rw[Nat.zero_add,Ja h1];exact h3 j v hj
def LpI.step{K:Qbw}(hk:K.Ok){c d:Nat}{vars types:List Int}{u:Nat}{l:List Exp}{w1 w5 w6:World}{kb:Nat}{i:Nat}{vs:List Int}{ui:Nat}{W:World}(h:LpI K c d vars types u l w1 kb i vs ui W)(h5:Below W.heap.size W w5){y:Exp}(hy:l[i]?=some y){v:Int}{u6:Nat}
  (he:evK K d vars ui y=.val v u6) (hv:VOk (ofN K.r.sigs types (utN y)).1 v) (hu:u6<=10000) (hm:Qcw K w6 u6 c) (hc:Chg [K.p] w5 w6) (hb:kb≠K.p) (hb1:w1.heap.size<=kb) (hb0:K.w0.heap.size<=kb) :
  LpI K c d vars types u l w1 kb (i+1) (vs++[v]) u6 (w6.setCell ⟨kb,i,none⟩ (Iv v)):=by
 obtain⟨A,g1,g2,g3⟩:=h.row;have hi:i<l.length:=(List.getElem?_eq_some_iff.1 hy).1;have yA:l[i]=y:=(List.getElem?_eq_some_iff.1 hy).2;have h6:w6.heap[kb]?=some (.cells A 3 (0,0)):=hc.heap_some (by simpa using hb) ((h5.block _ (Jb g1)).trans g1);refine⟨hm.setO hk hb hb0 _ _,((h.chg.trans (Chg.of_below h5 [K.p])).trans hc).setCell (.inr hb1) _,⟨A.setIfInBounds i (Iv v),?_,by simpa using g2,λj x hj=>?_⟩,?_,by rw[List.length_append,h.len];rfl,λj x z hj hz=>?_,hu⟩
 ·rw[Jm h6]
 ·by_cases hji:j<vs.length
  ·rw[List.getElem?_append_left hji]at hj;have:=h.len;rw[Array.getElem?_setIfInBounds_ne zo];exact g3 j x hj
  ·have hlt:=(List.getElem?_eq_some_iff.1 hj).1;rw[List.length_append,List.length_singleton]at hlt;have xA:j=i:=by have:=h.len;omega
   subst xA;rw[List.getElem?_append_right zo,h.len,Nat.sub_self]at hj;obtain rfl:v=x:=by simpa using hj
   rw[Array.getElem?_setIfInBounds_self_of_lt (by rw[g2];exact hi)]
 ·rw[h.ev,List.drop_eq_getElem_cons hi,yA,Jdc,he];simp only[RN.bind_val]
  cases Qeq K d vars u6 (l.drop (i+1)) with
  |fault er u9=>rfl
  |val ws u9=>simp[RN.bind_val]
 ·by_cases hji:j<vs.length
  ·rw[List.getElem?_append_left hji]at hj;exact h.ok j x z hj hz
  ·have hlt:=(List.getElem?_eq_some_iff.1 hj).1;rw[List.length_append,List.length_singleton]at hlt;have xA:j=i:=by have:=h.len;omega
   subst xA;rw[List.getElem?_append_right zo,h.len,Nat.sub_self]at hj;obtain rfl:v=x:=by simpa using hj
   rw[hy]at hz;obtain rfl:=Option.some.inj hz;exact hv
def LpI.fault{K:Qbw}{c d:Nat}{vars types:List Int}{u:Nat}{l:List Exp}{w1:World}{kb:Nat}{i:Nat}{vs:List Int}{ui:Nat}{W:World}(h:LpI K c d vars types u l w1 kb i vs ui W){y:Exp}(hy:l[i]?=some y){er:Int}{u6:Nat}(he:evK K d vars ui y=.fault er u6):Qeq K d vars u l=.fault er u6:=by
 have hi:i<l.length:=(List.getElem?_eq_some_iff.1 hy).1;have xA:l[i]=y:=(List.getElem?_eq_some_iff.1 hy).2;rw[h.ev,List.drop_eq_getElem_cons hi,xA,Jdc,he];rfl
def LpI.fin{K:Qbw}{c d:Nat}{vars types:List Int}{u:Nat}{l:List Exp}{w1:World}{kb:Nat}{vs:List Int}{ui:Nat}{W:World}(h:LpI K c d vars types u l w1 kb l.length vs ui W):Qeq K d vars u l=.val vs ui:=by
 rw[h.ev,List.drop_length,JkJ,RN.bind_val,List.append_nil]
def QdZ(n:Nat)(hn:n<=1000000000)(W:World):(Instr.makeSlice 29 (Iv (n:Int)) (Iv (n:Int))).run prog W=.ok (.slice (some ⟨W.heap.size,0,none⟩) n n) (W.alloc (.cells (madeCells #[Iv 0] n) 3)):=
 run_make_row' 29 3 (Iv 0) 8 underlying29 QeQ rfl .i64 .i64 n zo zo W
def RN.used{α:Type}:RN α->Nat
 |.fault _ u=>u
 |.val _ u=>u
open Go Go.ChangeShapes Go.WideShapes Go.ChangeAt Go.RowKit Go.Lib
def JoO(K:MK)(w:World)(p:Nat)(s:StM)(o:OpM)(v:Int)(l:List Int)(h:MAt K w p s)(hs:s.st=v::l)(hl:s.st.length<=1000000000000)(hv:Qbc v):Calls prog 67 #[Pt p,.agg #[Iv o.code,Iv o.n,.string (bs o.name)]] w (Qav K w p { s with st:=clI (0-v)::l } (.tuple #[])):=by
 obtain⟨R,hR⟩:∃R,Qav K w p { s with st:=clI (0-v)::l } (.tuple #[])=R:=⟨_,rfl⟩
 rw[hR];have HR:Hi (R=Qav K w p { s with st:=clI (0-v)::l } (.tuple #[])):=hR.symm;have HS:=Zh (MSt.box h (.cells #[Iv o.code,Iv o.n,.string (bs o.name)] 34));have HY:=Zh (zQ w (.cells #[Iv o.code,Iv o.n,.string (bs o.name)] 34));have HL:=Zh hl;have HT:=Zh hs;have HV:=Zh hv;obtain⟨x,hx⟩:∃x,clI (0-v)=x:=⟨_,rfl⟩
 rw[hx]at HR;have HX:Hi (Qca (0-v)=x):=hx;clear hx;clear hl hs hv;clear hR h;go_enter func67,ntmps67;go_upto_region 1 with fail;generalize World.alloc w _=w1 at *;generalize w.heap.size=yb at *;obtain⟨y0,y1,y2⟩:=Jh HY.o;go_wp2_with fail;refine(VY K w1 p s v l HS.o.at' HT.o (zu HL.o)).mono ?_;rintro e w2 ⟨rfl,ha,hb,ht⟩;replace HS:=Zh (HS.o.next ha hb ht);clear ha hb ht;have hsub:=JbM 0 v w2 (by unfold Qbc;omega) HV.o;rw[HX.o]at hsub;go_wp2_with fail;refine hsub.mono ?_;clear hsub;rintro e w3 ⟨rfl,hbw⟩;replace HS:=Zh (HS.o.up hbw);clear hbw;go_wp2_with fail;refine(JF K w3 p { s with st:=l } x HS.o.at' (by have:=HL.o;rw[HT.o]at this;simp only[List.length_cons]at this |-;omega)).mono ?_;rintro e w4 ⟨rfl,ha,hb,ht⟩;exact Qdj
def QeY.setp{w:World}{p j:Nat}{s:StM}{sv vv cv u:Value}{fr:List Value}{cs:Array Value}(h:QeY w p s sv vv cv fr)(hp:w.heap[p]?=some (.cells cs 76 (0,0))):QeY (w.setCell ⟨p,j,none⟩ u) p s sv vv cv fr:=by
 have hk:=JbO (w:=w) (b:=p-1) (p:=p) (j:=j) (row:=none) (u:=u) hp;exact⟨hk _ _ _ _ _ zp h.st zq,hk _ _ _ _ _ zp h.vars zq,hk _ _ _ _ _ zp h.calls zq,h.frames.keep hk zq,h.dis⟩
def Qgb(s:StM)(a m z:Nat):StM:={ s with pc:=a,st:=s.st.drop m,vars:=(s.st.take m).reverse++List.replicate (z-m) 0,calls:=(s.pc,s.vars)::s.calls,used:=s.used+1 }
def Qfg(s:StM)(a m z:Nat):StM:=if s.used=10000 then s.fail 14 else if s.calls.length=100 then StM.fail { s with used:=s.used+1 } 7 else Qgb s a m z
def QcN(s:StM)(m z k:Nat):StM:={ s with st:=s.st.drop (m-k),vars:=List.replicate k 0++(s.st.take (m-k)).reverse++List.replicate (z-m) 0,calls:=(s.pc,s.vars)::s.calls,used:=s.used+1 }
def Jeo(s:StM){m z:Nat}(hm:m<=z):QcN s m z m={ s with vars:=List.replicate z 0,calls:=(s.pc,s.vars)::s.calls,used:=s.used+1 }:=by
 unfold QcN;rw[Nat.sub_self,List.drop_zero,List.take_zero,List.reverse_nil,List.append_nil,List.replicate_append_replicate]
 congr 2
 omega
def Jgu(s:StM)(m z:Nat)(a:Nat):{ QcN s m z 0 with pc:=a }=Qgb s a m z:=by
 unfold QcN Qgb;simp
def JiJ(s:StM){m z k:Nat}(hm:m<=z)(hk:k<=m)(hs:m<=s.st.length):(QcN s m z k).vars.length=z:=by
 unfold QcN;simp only[List.length_append,List.length_replicate,List.length_reverse,List.length_take];omega
def Jgv(s:StM){m z k:Nat}(hm:m<=z)(hk:k+1<=m)(hs:m<=s.st.length):∃v l,(QcN s m z (k+1)).st=v::l/\{ QcN s m z (k+1) with st:=l,vars:=(QcN s m z (k+1)).vars.set k v }=QcN s m z k:=by
 have hlt:m-(k+1)<s.st.length:=zo;refine⟨s.st[m-(k+1)],s.st.drop (m-(k+1)+1),List.drop_eq_getElem_cons hlt,?_⟩;unfold QcN;have e1:m-(k+1)+1=m-k:=zo
 have e2:(s.st.take (m-k)).reverse=s.st[m-(k+1)]::(s.st.take (m-(k+1))).reverse:=by
  rw[<- e1,List.take_add_one,List.getElem?_eq_getElem hlt];simp
 simp only[e1,e2]
 congr 1
 rw[List.append_assoc,List.append_assoc,List.replicate_succ',List.append_assoc,List.set_append_right _ _ zq];simp
def Jgw:(prog.info? 192).map (λi=>(i.zero,i.size,i.bytes))=some (some (.agg #[Iv 0,Nl]),2,32):=zk
def Jgx(x:Nat × List Int)(l:List (Nat × List Int))(v:Value)(f:List Value):Qdf (x::l) (v::f)=Qdf l f++[Iv (x.1:Nat),v]:=by unfold Qdf;simp
def QeY.called{w W:World}{p pc:Nat}{s:StM}{sv vv cv cv':Value}{fr:List Value}(h:QeY w p s sv vv cv fr)(hk:QeG w W (p-1) cv.ownBlock)(hr:W.ownsRow (p-1) 192 2 cv' (s.calls.length+1) (Qdf s.calls fr++[Iv (pc:Nat),vv])) :
  W.ownsRow (p-1) 3 1 sv s.st.length (Qad s.st.reverse)/\W.ownsRow (p-1) 192 2 cv' (s.calls.length+1) (Qdf ((pc,s.vars)::s.calls) (vv::fr))/\QeZ W (p-1) ((pc,s.vars)::s.calls) (vv::fr)/\(sv::vv::fr).Pairwise Qcf:=by
 have hi:∀{v:Value} {n:Nat} {xs:List Value},w.ownsRow (p-1) 3 1 v n xs->W.ownsRow (p-1) 3 1 v n xs:=λ{v n xs} h'=>hk _ _ _ _ _ zp h' λk hv e=>Jak h' h.calls zp k hv e
 refine⟨hi h.st,by rw[Jgx];exact hr,⟨hi h.vars,?_⟩,h.dis⟩
 have:∀(l:List (Nat × List Int)) (f:List Value),QeZ w (p-1) l f->QeZ W (p-1) l f:=by
  intro l
  induction l with
  |nil=>intro f h;cases f with|nil=>trivial|cons _ _=>exact h.elim
  |cons x l ih=>intro f h;cases f with|nil=>exact h.elim|cons _ _=>exact⟨hi h.1,ih _ h.2⟩
 exact this _ _ h.frames
def JkP{w:World}{p:Nat}{s:StM}{sv cv:Value}{fr:List Value}(h1:w.ownsRow (p-1) 3 1 sv s.st.length (Qad s.st.reverse))(h2:w.ownsRow (p-1) 192 2 cv s.calls.length (Qdf s.calls fr))(h3:QeZ w (p-1) s.calls fr)(h4:(sv::fr).Pairwise Qcf)
  (hp:p<w.heap.size) (z:Nat) (hz:z<=maxLen):QeY (w.alloc (.cells (madeCells #[Iv 0] z) 3)) p { s with vars:=List.replicate z 0 } sv (.slice (some ⟨w.heap.size,0,none⟩) z z) cv fr:=by
 have hb:Below w.heap.size w (w.alloc (.cells (madeCells #[Iv 0] z) 3)):=zO.alloc (Nat.le_refl _) _;refine⟨JX h1 hb,?_,JX h2 hb,h3.keep (row:=none) (λ_ _ _ _ _ _ h' _=>JX h' hb) λ_ _ _ _=>by simp,?_⟩
 ·refine⟨by simp[Qad],.inr ⟨w.heap.size,z,madeCells #[Iv 0] z,by rw[List.length_replicate],by omega,zQ _ _,by simp,hz,by rw[size_madeCells,Nat.mul_one],?_⟩⟩;rw[toList_madeCells_one,Nat.mul_one];unfold Qad;simp
 ·have hd:=List.pairwise_cons.1 h4
  have xA:∀v k,v=sv\/v∈fr->v.ownBlock=some k->k<w.heap.size:=λv k hv hk=>by
   rcases hv with rfl|hv
   ·exact(h1.lt k hk).2
   ·exact(h3.lt v hv k hk).2
  refine List.pairwise_cons.2 ⟨λb hb k hk hbk=>?_,List.pairwise_cons.2 ⟨λb hb k hk hbk=>?_,hd.2⟩⟩
  ·rcases List.mem_cons.1 hb with rfl|hb
   ·have:=xA sv k (.inl rfl) hk;have e:k=w.heap.size:=by simpa[Value.ownBlock,eq_comm] using hbk
    omega
   ·exact hd.1 b hb k hk hbk
  ·have e:k=w.heap.size:=by simpa[Value.ownBlock,eq_comm] using hk
   have:=xA b k (.inr hb) hbk;omega
def Jod(K:MK)(w:World)(p:Nat)(s:StM)(o:OpM)(h:MAt K w p s)(j:Nat)(hj:o.n=(j:Int))(a m z:Nat)(starts params slots:List Int)(h1:QbX w (p-1) K.o1 starts)(h2:QbX w (p-1) K.o2 params)(h3:QbX w (p-1) K.o3 slots)(e1:starts[j]?=some (a:Int))(e2:params[j]?=some (m:Int))(e3:slots[j]?=some (z:Int))(hms:s.used≠10000->s.calls.length≠100->m<=s.st.length/\m<=z)(hz:z<=1000000000)(hl:s.st.length<=1000000000000)(hu:s.used<=10000)(hc:s.calls.length<=100):Calls prog 80 #[Pt p,.agg #[Iv o.code,Iv o.n,.string (bs o.name)]] w (Qav K w p (Qfg s a m z) (.tuple #[])):=by
 obtain⟨R,hR⟩:∃R,Qav K w p (Qfg s a m z) (.tuple #[])=R:=⟨_,rfl⟩
 rw[hR];have HR:Hi (R=Qav K w p (Qfg s a m z) (.tuple #[])):=hR.symm;have HS:=Zh (MSt.box h (.cells #[Iv o.code,Iv o.n,.string (bs o.name)] 34));have HY:=Zh (zQ w (.cells #[Iv o.code,Iv o.n,.string (bs o.name)] 34));have HJ:=Zh hj;have aD:=Zh h1;have dD:=Zh h2;have gD:=Zh h3;have nC:=Zh e1;have zD:=Zh e2;have kC:=Zh e3;have HZ:=Zh hz;have nA:=Zh hms;have HL:=Zh hl;have HU:=Zh hu;have HCC:=Zh hc;unfold Qfg at HR;clear hj h1 h2 h3 e1 e2 e3 hz hms hl hu hc;clear hR h;go_enter func80,ntmps80;go_upto_region 1 with fail;generalize World.alloc w _=w1 at *;generalize w.heap.size=yb at *;obtain⟨y0,y1,y2⟩:=Jh HY.o;obtain⟨tD,rC,bB,eB,gC⟩:=aD.o.get;obtain⟨pD,cD,dB,cB,xD⟩:=dD.o.get;obtain⟨mD,aC,gB,pB,eC⟩:=gD.o.get;obtain⟨rA,sA,rfl,hA,hc1⟩:=gC j _ nC.o;obtain⟨aB,qB,rfl,pA,hc2⟩:=xD j _ zD.o;obtain⟨eA,kA,rfl,qA,hc3⟩:=eC j _ kC.o;have yC:=(List.getElem?_eq_some_iff.1 nC.o).1;have jC:=(List.getElem?_eq_some_iff.1 zD.o).1;have iC:=(List.getElem?_eq_some_iff.1 kC.o).1;obtain⟨n1,hn1⟩:∃n1,starts.length=n1:=⟨_,rfl⟩
 obtain⟨n2,uD⟩:∃n2,params.length=n2:=⟨_,rfl⟩
 obtain⟨n3,hC⟩:∃n3,slots.length=n3:=⟨_,rfl⟩
 rw[hn1]at bB yC;rw[uD]at dB jC;rw[hC]at gB iC
 have KF:Hi (∀W,Below (p-1) w W->W.cell? ⟨rA,sA+j,none⟩=some (Iv (a:Int))/\W.cell? ⟨aB,qB+j,none⟩=some (Iv (m:Int))/\W.cell? ⟨eA,kA+j,none⟩=some (Iv (z:Int))):=λW hW=>
  ⟨(World.cell?_of_block (a:=⟨rA,sA+j,none⟩) (hW.block _ hA)).trans hc1,(World.cell?_of_block (a:=⟨aB,qB+j,none⟩) (hW.block _ pA)).trans hc2,(World.cell?_of_block (a:=⟨eA,kA+j,none⟩) (hW.block _ qA)).trans hc3⟩
 have jD:=Zh bB;have eD:=Zh dB;have sB:=Zh gB;have rD:(j:Int)<(n1:Int):=zo;have qD:(j:Int)<(n2:Int):=zo;have sD:(j:Int)<(n3:Int):=zo;clear bB dB gB eB cB pB gC xD eC hA pA qA hc1 hc2 hc3 yC jC iC hn1 uD hC;rw[HJ.o]at HY y1;have cs:=JcU K w1 p s HS.o.at' HU.o
 by_cases e:s.used=10000
 ·rw[if_pos e,zH (by simpa using e)]at cs;rw[if_pos e]at HR;clear e y0 y1 y2;go_wp2_with fail;refine cs.mono ?_;clear cs;rintro e w2 ⟨rfl,ha,hb,ht⟩;exact Qdj
 rw[if_neg e,zG (by simpa using e)]at cs;rw[if_neg e]at HR;have uC:=Zh e;clear e;go_wp2_with fail;refine cs.mono ?_;clear cs;rintro e w2 ⟨rfl,ha,hb,ht⟩;replace HS:=Zh (HS.o.next ha hb ht);replace HY:=Zh (KU HY.o ht);clear ha hb ht y0 y1 y2;obtain⟨sv,vv,cv,fr,hX⟩:∃sv vv cv fr,Qek K w2 p { s with used:=s.used+1 } sv vv cv fr:=HS.o.at';have nB:=hX.2.calls;obtain⟨ca,cc,rfl⟩:=Jv nB;have vA:w2.cell? ⟨p,19,none⟩=some (.slice ca s.calls.length cc):=Ja hX.1 19
 by_cases e:s.calls.length=100
 ·rw[if_pos e]at HR;rw[e]at vA;clear hX nB e;go_wp2_with fail;refine(Jan K w2 p { s with used:=s.used+1 } 7 HS.o.at').mono ?_;rintro e w3 ⟨rfl,ha,hb,ht⟩;exact Qdj
 rw[if_neg e]at HR;have q:((s.calls.length:Int)==100)=false:=zr;have HM:=Zh (nA.o uC.o e).2;have qC:=Zh (nA.o uC.o e).1;have HC:Hi (s.calls.length<=99):=by have:=HCC.o;unfold Hi;omega
 clear e;go_upto_region 4 with fail;clear q vA;have HX:=Zh hX;clear hX nB;have bA:=HX.o.2.vars;obtain⟨va,vc,rfl⟩:=Jv bA;clear bA;replace HX:=Zh HX.o.drew;replace HS:=Zh HS.o.drew;replace HY:Hi (w2.drew.heap[yb]?=_):=HY.o;have b16:w2.drew.cell? ⟨p,16,none⟩=some (Iv (s.pc:Nat)):=Ja HX.o.1 16;have yB:w2.drew.cell? ⟨p,18,none⟩=some (.slice va s.vars.length vc):=Ja HX.o.1 18;have vA:w2.drew.cell? ⟨p,19,none⟩=some (.slice ca s.calls.length cc):=Ja HX.o.1 19;have HP3:=Zh (Jb HX.o.1);refine LB (λW=>W.cell? ⟨p,16,none⟩=some (Iv (s.pc:Nat))/\W.cell? ⟨p,18,none⟩=some (.slice va s.vars.length vc)/\W.cell? ⟨p,19,none⟩=some (.slice ca s.calls.length cc)) 18 ⟨b16,yB,vA⟩ λhH=>?_
 clear b16 yB vA;generalize w2.drew=w3 at *;refine LK 0 rfl ?_;refine LK 1 rfl ?_;refine LK 2 rfl ?_;refine LK 3 rfl ?_;refine LK 4 rfl ?_;refine LK 5 rfl ?_;refine LK 6 rfl ?_;refine LK 7 rfl ?_;refine LK 8 rfl ?_;refine LK 9 rfl ?_;refine LK 10 rfl ?_;refine LK 11 rfl ?_;refine LK 12 rfl ?_;refine LK 13 rfl ?_;refine LO 14 rfl λKK hK=>?_
 go_simp;have HOW:=Zh (HX.o.2.calls.alloc (.cells #[Iv (s.pc:Nat),.slice va s.vars.length vc] 192));have HRW:=Zh (zQ w3 (.cells #[Iv (s.pc:Nat),.slice va s.vars.length vc] 192));have vC:(w3.alloc (.cells #[Iv (s.pc:Nat),.slice va s.vars.length vc] 192)).heap[p]?=some (.cells (mC K { s with used:=s.used+1 } sv (.slice va s.vars.length vc) (.slice ca s.calls.length cc)) 76 (0,0)):=by rw[heap_alloc_old _ _ HP3.o];exact HX.o.1
 have tA:=Zh vC;clear vC;refine zU hK ⟨Ja tA.o 16,Ja tA.o 18,Ja tA.o 19⟩ λhH=>?_
 clear hK KK;refine LO 15 rfl λKK hK=>?_
 (refine Jq (w3.alloc (.cells #[Iv (s.pc:Nat),.slice va s.vars.length vc] 192)) zt (.tmp 20) (.tmp 30) 74 192 (.agg #[Iv 0,Nl]) 2 32 zt underlying74 Jgw zt zp (p-1) (.slice ca s.calls.length cc) s.calls.length (Qdf s.calls fr) [Iv (s.pc:Nat),.slice va s.vars.length vc] zt HOW.o w3.heap.size zt HRW.o zt (by intro u hu;simp at hu;rcases hu with rfl|rfl<;>rfl) (zu HC.o) zp (by have:=HP3.o;rw[World.size_alloc];omega) ?_;intro v' w' hown' hgrow hfr)
 have dA:w'.heap[p]?=some (.cells (mC K { s with used:=s.used+1 } sv (.slice va s.vars.length vc) (.slice ca s.calls.length cc)) 76 (0,0)):=(hgrow.block p (by rw[World.size_alloc];have:=HP3.o;omega) λe=>YZ HX.o.2.calls HX.o.1 zp e.symm).trans tA.o;have yD:Below (p-1) w3 w':=(zO.alloc (zu HP3.o) _).grown hgrow (by rw[World.size_alloc];have:=HP3.o;omega) (λk hk=>by have:=(HX.o.2.calls.lt k hk).1;omega);have pC:TFr w3 w':=TFr.grown HX.o.2.calls (.inr rfl) hgrow;obtain⟨a',c',rfl⟩:=Jv hown';obtain⟨r1,r2,r3,r4⟩:=HX.o.2.called (W:=w'.setCell ⟨p,19,none⟩ (.slice a' (s.calls.length+1) c')) (pc:=s.pc) (cv':=.slice a' (s.calls.length+1) c') (JaX hgrow HX.o.1) (KT hown' dA zp _);have uB:=Zh dA;have iA:=Zh (And.intro r1 (And.intro r2 (And.intro r3 r4)));have HF4:=Zh (And.intro (yD.setCell (p:=⟨p,19,none⟩) zq (.slice a' (s.calls.length+1) c')) (pC.trans (TFr.set (j:=19) (u:=.slice a' (s.calls.length+1) c') dA)));have cA:=Zh (Jm dA 19 (.slice a' (s.calls.length+1) c'));have iD:=Jc dA 19;clear hown' hgrow hfr yD pC r1 r2 r3 r4 dA HOW HRW tA;refine zU hK ⟨Ja uB.o 16,Ja uB.o 18,Ja uB.o 19⟩ λhH=>?_
 clear hK KK;refine LO 16 rfl λKK hK=>?_
 go_simp;refine zU hK hH λhH=>?_
 clear hK KK;refine LK 17 rfl ?_;refine LZ 18 rfl λKK hK=>?_
 obtain⟨_,_,vA⟩:=hH;go_simp;clear vA iD uB hH;refine hK.out _ _ ?_;clear hK KK;replace HY:=Zh (KU HY.o HF4.o.2);have mA:=Zh (HS.o.below.trans HF4.o.1);have HST:=Zh (HS.o.tfr.trans HF4.o.2);clear HF4 HS HX;generalize World.setCell w' _ _=w4 at *;go_upto_region 5 with fail;replace HY:Hi (w4.drew.heap[yb]?=_):=HY.o;have bD:=QdZ z HZ.o;have k3:=(KF.o _ mA.o.drew).2.2;obtain⟨y0,y1,y2⟩:=Jh HY.o;have b3:w4.drew.cell? ⟨p,3,none⟩=some (.slice (some ⟨eA,kA,none⟩) n3 aC):=(Ja (w:=w4.drew) cA.o 3).trans (congrArg some sB.o);refine LB (λW=>W.cell? ⟨p,3,none⟩=some (.slice (some ⟨eA,kA,none⟩) n3 aC)/\W.cell? ⟨yb,1,none⟩=some (Iv (j:Int))/\W.cell? ⟨eA,kA+j,none⟩=some (Iv (z:Int))) 13 ⟨b3,y1,k3⟩ λhH=>?_
 clear b3 y0 y1 y2 k3;replace cA:Hi (w4.drew.heap[p]?=_):=cA.o;replace mA:=Zh mA.o.drew;replace HST:Hi (TFr w w4.drew):=HST.o;have kB:=Zh (Jb cA.o);have tC:=Zh (JkP (w:=w4.drew) (s:={ s with calls:=(s.pc,s.vars)::s.calls,used:=s.used+1 }) iA.o.1.drew iA.o.2.1.drew (iA.o.2.2.1.keep (row:=none) (W:=w4.drew) (λ_ _ _ _ _ _ h' _=>h'.drew) λ_ _ _ _=>by simp) iA.o.2.2.2 kB.o z (by unfold maxLen;have:=HZ.o;omega));clear iA;generalize w4.drew=w5 at *;refine LK 0 rfl ?_;refine LK 1 rfl ?_;refine LK 2 rfl ?_;refine LK 3 rfl ?_;refine LK 4 rfl ?_;refine LK 5 rfl ?_;refine LK 6 rfl ?_;refine LK 7 rfl ?_;refine LK 8 rfl ?_;refine LK 9 rfl ?_;refine LO 10 rfl λKK hK=>?_
 go_simp;clear bD;have yA:Hi ((w5.alloc (.cells (madeCells #[Iv 0] z) 3)).heap[p]?=_):=(heap_alloc_old w5 (.cells (madeCells #[Iv 0] z) 3) kB.o).trans cA.o;have HY5:Hi ((w5.alloc (.cells (madeCells #[Iv 0] z) 3)).heap[yb]?=_):=(heap_alloc_old w5 (.cells (madeCells #[Iv 0] z) 3) (Jb HY.o)).trans HY.o;have zA:Hi (Below (p-1) w (w5.alloc (.cells (madeCells #[Iv 0] z) 3))):=mA.o.alloc (zu kB.o) _;have gA:Hi (TFr w (w5.alloc (.cells (madeCells #[Iv 0] z) 3))):=HST.o.trans (TFr.alloc _ _);refine zU hK ⟨(Ja yA.o 3).trans (congrArg some sB.o),(Jh HY5.o).2.1,(KF.o _ zA.o).2.2⟩ λhH=>?_
 clear hK KK cA HY mA HST;generalize World.alloc w5 _=w6 at *;generalize w5.heap.size=nb at *;have yB:w6.cell? ⟨p,18,none⟩=some (.slice va s.vars.length vc):=Ja yA.o 18;have hD:w6.frozen? ⟨p,18,none⟩=false:=Jc yA.o 18;refine LO 11 rfl λKK hK=>?_
 go_simp;refine zU hK hH λhH=>?_
 clear hK KK;refine LK 12 rfl ?_;refine LZ 13 rfl λKK hK=>?_
 go_simp;refine hK.out _ _ ?_;clear hK KK yB hD hH
 have HS7:Hi (MSt K w p (QcN s m z m) (w6.setCell ⟨p,18,none⟩ (.slice (some ⟨nb,0,none⟩) z z))):=by
  rw[Jeo s HM.o];exact⟨⟨_,_,_,_,Jm yA.o 18 _,tC.o.setp yA.o⟩,zA.o.setCell zq _,gA.o.trans (TFr.set yA.o)⟩
 have HY7:=Zh (KU HY5.o (TFr.set (j:=18) (u:=.slice (some ⟨nb,0,none⟩) z z) yA.o));clear tC yA HY5 zA gA;generalize World.setCell w6 _ _=w7 at *;go_upto_region 6 with fail;obtain⟨y0,y1,y2⟩:=Jh HY7.o
 have b2:w7.cell? ⟨p,2,none⟩=some (.slice (some ⟨aB,qB,none⟩) n2 cD):=by
  obtain⟨sv,vv,cv,hbx⟩:=HS7.o.box';exact(Ja hbx 2).trans (congrArg some eD.o)
 have k2:=(KF.o _ HS7.o.below).2.1;have wk:IntKind.i64.wrap ((m:Int)-1)=(m:Int)-1:=IntWalk.i64_in _ (zv HZ.o HM.o);go_region;clear b2 k2 wk y0 y1 y2;replace HS7:=Zh HS7.o.drew;replace HY7:Hi (w7.drew.heap[yb]?=_):=HY7.o;generalize w7.drew=w8 at *;go_wp2_with fail;go_loopg [4] m λg v4 wr=>g<=m/\v4=Iv ((g:Int)-1)/\Hi (MSt K w p (QcN s m z g) wr/\wr.heap[yb]?=some (.cells #[Iv o.code,Iv (j:Int),.string (bs o.name)] 34 (0,0)))
 case atStart=>exact⟨Nat.le_refl _,rfl,HS7.o,HY7.o⟩
 case round=>
 clear HS7 HY7;obtain⟨wl,rfl⟩:=zJ wr;obtain⟨jA,rfl,hws⟩:=hrel;have xA:=Zh hws.o.1;have aA:=Zh hws.o.2;clear hws
 rcases gk with _|k
 ·have q4:decide (((0:Nat):Int)-1>=0)=false:=zp;clear jA;go_upto_region 10 with fail;replace xA:=Zh xA.o.drew;replace aA:Hi (wl.drew.heap[yb]?=_):=aA.o;have y1:=(Jh aA.o).2.1
  have b1:wl.drew.cell? ⟨p,1,none⟩=some (.slice (some ⟨rA,sA,none⟩) n1 rC):=by
   obtain⟨sv,vv,cv,hbx⟩:=xA.o.box';exact(Ja hbx 1).trans (congrArg some jD.o)
  have k1:=(KF.o _ xA.o.below).1;refine LB (λW=>W.cell? ⟨p,1,none⟩=some (.slice (some ⟨rA,sA,none⟩) n1 rC)/\W.cell? ⟨yb,1,none⟩=some (Iv (j:Int))/\W.cell? ⟨rA,sA+j,none⟩=some (Iv (a:Int))) 12 ⟨b1,y1,k1⟩ λhH=>?_
  clear b1 y1 k1
  have HFIN:Hi (MSt K w p (Qgb s a m z) (wl.drew.setCell ⟨p,16,none⟩ (Iv (a:Int)))):=by
   rw[<- Jgu];exact xA.o.set (λ_ _ _=>rfl) rfl rfl rfl
  obtain⟨sv,vv,cv,hbx⟩:=xA.o.box';have b16:=Ja hbx 16;have f16:=Jc hbx 16;simp only[mC,List.getElem?_toArray,List.getElem?_cons_succ,List.getElem?_cons_zero]at b16;clear hbx xA aA;generalize wl.drew=w9 at *;refine LK 0 rfl ?_;refine LK 1 rfl ?_;refine LK 2 rfl ?_;refine LK 3 rfl ?_;refine LK 4 rfl ?_;refine LK 5 rfl ?_;refine LK 6 rfl ?_;refine LK 7 rfl ?_;refine LK 8 rfl ?_;refine LK 9 rfl ?_;refine LO 10 rfl λKK hK=>?_
  go_simp;refine zU hK hH λhH=>?_
  clear hK KK;refine LK 11 rfl ?_;refine LZ 12 rfl λKK hK=>?_
  go_simp;refine hK.out _ _ ?_;clear hK KK hH b16 f16;go_wp2;go_end0;rw[HR.o];exact HFIN.o.fin
 ·have hk1:(((k+1:Nat):Int)-1)=(k:Int):=zo;rw[hk1];have q4:decide ((k:Int)>=0)=true:=zG zo;obtain⟨v,l,iB,xC⟩:=Jgv s HM.o jA qC.o;have vD:=JiJ s HM.o jA qC.o
  have uA:(QcN s m z (k+1)).st.length<=1000000000000:=by
   unfold QcN;simp only[List.length_drop];have:=HL.o;omega
  have tB:=Zh jA;generalize QcN s m z (k+1)=s1 at *;go_upto_region 9 with fail;obtain⟨sv,vv,cv,fr,hX⟩:∃sv vv cv fr,Qek K wl p s1 sv vv cv fr:=xA.o.at';obtain⟨n,hn⟩:∃n,l.length=n:=⟨_,rfl⟩
  have hst:=hX.2.st;have dC:s1.st.length=n+1:=by rw[iB,List.length_cons,hn]
  rw[dC]at hst uA;obtain⟨gs,cs,rfl⟩:=Vm hst zo;have bA:=hX.2.vars;obtain⟨vn,mB⟩:∃vn,s1.vars.length=vn:=⟨_,rfl⟩
  rw[mB]at bA;obtain⟨g,c,rfl⟩:=Vm bA (zu HM.o);have rB:=Zh mB;have hB:Hi (k<vn):=by have:=HM.o;unfold Hi;omega
  have k1:(k:Int)<(vn:Int):=by have:=hB.o;omega
  replace HL:=Zh uA;have HX0:=Zh hX.drew;have HP:=Zh (hX.drew.pop iB hn);have vB:=Zh xA.o.drew;have zC:Hi (wl.drew.heap[yb]?=_):=aA.o;have bC:=Zh xC;clear hst dC bA hX mB hn hk1 xC iB vD uA jA xA aA;refine wp_region_held_drew (S:=(λW'=>W'.cell? ⟨p,18,none⟩=some (.slice (some ⟨g,0,none⟩) vn c))) zk (Ja HX0.o.1 18) λhH=>?_;generalize wl.drew=w2 at *;refine zK 0 ?_
  try simp only[zX]
  refine zK 1 ?_;try simp only[zX]
  refine zK 2 ?_;try simp only[zX]
  refine zK 3 ?_;try simp only[zX]
  refine zK 4 ?_;try simp only[zX]
  refine zK 5 ?_;try simp only[zX]
  refine ZR (rs:=[6]) (AllReadyH.cons rfl (λKK hK=>?_) AllReadyH.nil)
  (go_simp;go_at_call 116;refine(Jip w2 p gs n cs v HP.o.1 HP.o.2.1 HP.o.2.2.1 HP.o.2.2.2.1 (zu HL.o)).mono ?_;rintro e zB ⟨rfl,jB⟩)
  have HX3:Hi (Qek K zB p { s1 with st:=l } (.slice (some ⟨gs,0,none⟩) n cs) (.slice (some ⟨g,0,none⟩) vn c) cv fr):=by
   rw[jB];exact HP.o.2.2.2.2
  have HF3:Hi (TFr w2 zB/\Below (p-1) w2 zB):=by
   rw[jB];exact⟨TFr.set HX0.o.1,zO.setCell zq _⟩
  clear jB;refine zU hK (Ja HX3.o.1 18) λhH=>?_;clear hK KK
  try simp only[zX]
  refine zK 7 ?_;try simp only[zX]
  obtain⟨q1,q2⟩:=HX3.o.varCell rB.o hB.o;obtain⟨x1,x2,x3⟩:=HX3.o.vset (j:=k) (by show k<s1.vars.length;have:=rB.o;have:=hB.o;omega) v;have xB:=Zh x1;have HF5:=Zh (And.intro x3 x2);clear x1 x2 x3;refine ZR (rs:=[8]) (AllReadyH.cons rfl (λKK hK=>?_) AllReadyH.nil);go_simp;clear q1 q2;generalize zB.setCell ⟨g,k,none⟩ (Iv v)=wc1 at *;refine zU hK (Ja xB.o.1 18) λhH=>?_;clear hK KK
  try simp only[zX]
  refine wpAnyH_done zk ?_ _
  have kD:Hi (MSt K w p (QcN s m z k) wc1/\wc1.heap[yb]?=some (.cells #[Iv o.code,Iv (j:Int),.string (bs o.name)] 34 (0,0))):=by
   rw[<- bC.o];exact⟨⟨⟨_,_,_,_,xB.o.1,xB.o.2⟩,(vB.o.below.trans HF3.o.2).trans HF5.o.2,(vB.o.tfr.trans HF3.o.1).trans HF5.o.1⟩,KU (KU zC.o HF3.o.1) HF5.o.1⟩
  have nD:IntKind.i64.wrap ((k:Int)-1)=(k:Int)-1:=IntWalk.i64_in _ (by have:=tB.o;have:=HM.o;have:=HZ.o;omega);clear HX0 HP vB zC bC HX3 HF3 xB HF5;go_wp2;go_roundg k
  case measure=>omega
  case rel=>exact⟨by have:=tB.o;omega,rfl,kD.o⟩
def hdl:List Nat:=[61,62,63,64,65,66,67,68,69,70,71,72,73,74,75,76,77,78,79,80,81,82,83]
def hV(k:Nat):Value:=.func (.func (hdl.getD k 0)) #[] #[]
def QeT(k:Nat):Array MapEntry:=((List.range k).map λi:Nat=>(⟨Iv (i:Int),hV i,i⟩:MapEntry)).toArray
def JiK(k:Nat):(QeT k).push ⟨Iv (k:Int),hV k,k⟩=QeT (k+1):=by
 unfold QeT;rw[List.range_succ,List.map_append,List.push_toArray];rfl
def Jbd(T:TypeDesc)(hT:∃a,T=.int a)(k:Nat):∀(l:List Nat) (i:Nat),(∀j∈l,j≠k)->Instr.findNow T (Iv (k:Int)) (l.map λi:Nat=>(⟨Iv (i:Int),hV i,i⟩:MapEntry)) i=some none
 |[],i,h=>rfl
 |j::l,i,h=>by
  obtain⟨a,rfl⟩:=hT;have hj:=h j zq;have e:((k:Int)==(j:Int))=false:=zM zo;rw[List.map_cons];unfold Instr.findNow;simp only[Instr.sameNow,if_true,e];exact Jbd _ ⟨a,rfl⟩ k l (i+1) λx hx=>h x (by simp[hx])
def Jbe(T:TypeDesc)(hT:∃a,T=.int a)(k:Nat):∀(l:List Nat) (i:Nat),k∈l->∃m,Instr.findNow T (Iv (k:Int)) (l.map λi:Nat=>(⟨Iv (i:Int),hV i,i⟩:MapEntry)) i=some (some (m,hV k))
 |[],i,h=>by simp at h
 |j::l,i,h=>by
  obtain⟨a,rfl⟩:=hT;rw[List.map_cons];unfold Instr.findNow
  by_cases hj:j=k
  ·subst hj;exact⟨i,by simp[Instr.sameNow]⟩
  ·have e:((k:Int)==(j:Int))=false:=zM zo;simp only[Instr.sameNow,if_true,e];exact Jbe _ ⟨a,rfl⟩ k l (i+1) ((List.mem_cons.1 h).resolve_left λe=>hj e.symm)
def hW(w:World)(k:Nat):World:=w.alloc (.map (QeT k) k)
def Joe(w:World)(k:Nat):(hW w k).heap[w.heap.size]?=some (.map (QeT k) k):=by exact zQ w _
def JiL:prog.underlying 77=some (.map 3 (prog.mapElemOf 77)):=zk
def KW(w:World)(k:Nat):(Instr.mapUpdate 77 (.map (some w.heap.size)) (Iv (k:Int)) (hV k)).run prog (hW w k)=.ok () (hW w (k+1)):=by
 have hd:prog.underlying 3=some (.int .i64):=underlying3;have hb:=Joe w k
 have h1:Instr.findNow (.int .i64) (Iv (k:Int)) (QeT k).toList 0=some none:=by
  unfold QeT;exact Jbd _ ⟨_,rfl⟩ k (List.range k) 0 λj hj=>by have:=List.mem_range.1 hj;omega
 simp only[Instr.mapUpdate,Sem.run_bind,Go.run_underlying JiL,Result.andThen,MapKept.run_getObj_map hb,MapKept.run_checkKey hd (k:=Iv (k:Int)) rfl,MapKept.run_findKey hd h1,MapKept.run_setObj_map _ hb,JiK]
 have e:∀(a:Array Obj) (x y:Obj),(a.push x).setIfInBounds a.size y=a.push y:=λa x y=>by
  apply Array.ext';simp
 show Result.ok () ({ w with heap:=(w.heap.push (.map (QeT k) k)).setIfInBounds w.heap.size (.map (QeT (k+1)) (k+1)) }:World)=.ok () { w with heap:=w.heap.push (.map (QeT (k+1)) (k+1)) }
 rw[e]
def QfK(W:World)(b:Nat):Prop:=W.heap[b]?=some (.map (QeT 23) 23)
def QfK.look{W:World}{b:Nat}(h:QfK W b){k:Nat}(hk:k<23):(Instr.lookup 77 (.map (some b)) (Iv (k:Int)) false).run prog W=.ok (hV k) W:=by
 have hd:prog.underlying 3=some (.int .i64):=underlying3;have h':W.heap[b]?=some (.map (QeT 23) 23):=h;obtain⟨m,h1⟩:∃m,Instr.findNow (.int .i64) (Iv (k:Int)) (QeT 23).toList 0=some (some (m,hV k)):=Jbe _ ⟨_,rfl⟩ k (List.range 23) 0 (List.mem_range.2 hk);simp[Instr.lookup,Sem.run_bind,Go.run_underlying JiL,Result.andThen,MapKept.run_getObj_map h',MapKept.run_checkKey hd (k:=Iv (k:Int)) rfl,MapKept.run_findKey hd h1]
def Jdd(w:World):Calls prog 30 #[] w (λe w'=>∃b,e=.returned (.map (some b))/\w.heap.size<=b/\QfK w' b/\Below w.heap.size w w'):=by
 obtain⟨R,hR⟩:∃R:Ending->World->Prop,(λe w'=>∃b,e=.returned (.map (some b))/\w.heap.size<=b/\QfK w' b/\Below w.heap.size w w')=R:=⟨_,rfl⟩
 rw[hR];have HR:Hi (R=λe w'=>∃b,e=.returned (.map (some b))/\w.heap.size<=b/\QfK w' b/\Below w.heap.size w w'):=hR.symm;have HF:Hi (QfK (hW w 23) w.heap.size/\Below w.heap.size w (hW w 23)):=⟨Joe w 23,zO.alloc (Nat.le_refl _) (.map (QeT 23) 23)⟩
 have u0:(Instr.mapUpdate 77 (.map (some w.heap.size)) (Iv 0) (.func (.func 61) #[] #[])).run prog (w.alloc (.map #[] 0))=.ok () (hW w 1):=KW w 0;have u1:(Instr.mapUpdate 77 (.map (some w.heap.size)) (Iv 1) (.func (.func 62) #[] #[])).run prog (hW w 1)=.ok () (hW w 2):=KW w 1;have u2:(Instr.mapUpdate 77 (.map (some w.heap.size)) (Iv 2) (.func (.func 63) #[] #[])).run prog (hW w 2)=.ok () (hW w 3):=KW w 2;have u3:(Instr.mapUpdate 77 (.map (some w.heap.size)) (Iv 3) (.func (.func 64) #[] #[])).run prog (hW w 3)=.ok () (hW w 4):=KW w 3;have u4:(Instr.mapUpdate 77 (.map (some w.heap.size)) (Iv 4) (.func (.func 65) #[] #[])).run prog (hW w 4)=.ok () (hW w 5):=KW w 4;have u5:(Instr.mapUpdate 77 (.map (some w.heap.size)) (Iv 5) (.func (.func 66) #[] #[])).run prog (hW w 5)=.ok () (hW w 6):=KW w 5;have u6:(Instr.mapUpdate 77 (.map (some w.heap.size)) (Iv 6) (.func (.func 67) #[] #[])).run prog (hW w 6)=.ok () (hW w 7):=KW w 6;have u7:(Instr.mapUpdate 77 (.map (some w.heap.size)) (Iv 7) (.func (.func 68) #[] #[])).run prog (hW w 7)=.ok () (hW w 8):=KW w 7;have u8:(Instr.mapUpdate 77 (.map (some w.heap.size)) (Iv 8) (.func (.func 69) #[] #[])).run prog (hW w 8)=.ok () (hW w 9):=KW w 8;have u9:(Instr.mapUpdate 77 (.map (some w.heap.size)) (Iv 9) (.func (.func 70) #[] #[])).run prog (hW w 9)=.ok () (hW w 10):=KW w 9;have yA:(Instr.mapUpdate 77 (.map (some w.heap.size)) (Iv 10) (.func (.func 71) #[] #[])).run prog (hW w 10)=.ok () (hW w 11):=KW w 10;have xA:(Instr.mapUpdate 77 (.map (some w.heap.size)) (Iv 11) (.func (.func 72) #[] #[])).run prog (hW w 11)=.ok () (hW w 12):=KW w 11;have bA:(Instr.mapUpdate 77 (.map (some w.heap.size)) (Iv 12) (.func (.func 73) #[] #[])).run prog (hW w 12)=.ok () (hW w 13):=KW w 12;have hA:(Instr.mapUpdate 77 (.map (some w.heap.size)) (Iv 13) (.func (.func 74) #[] #[])).run prog (hW w 13)=.ok () (hW w 14):=KW w 13;have gA:(Instr.mapUpdate 77 (.map (some w.heap.size)) (Iv 14) (.func (.func 75) #[] #[])).run prog (hW w 14)=.ok () (hW w 15):=KW w 14;have jA:(Instr.mapUpdate 77 (.map (some w.heap.size)) (Iv 15) (.func (.func 76) #[] #[])).run prog (hW w 15)=.ok () (hW w 16):=KW w 15;have cA:(Instr.mapUpdate 77 (.map (some w.heap.size)) (Iv 16) (.func (.func 77) #[] #[])).run prog (hW w 16)=.ok () (hW w 17):=KW w 16;have aA:(Instr.mapUpdate 77 (.map (some w.heap.size)) (Iv 17) (.func (.func 78) #[] #[])).run prog (hW w 17)=.ok () (hW w 18):=KW w 17;have dA:(Instr.mapUpdate 77 (.map (some w.heap.size)) (Iv 18) (.func (.func 79) #[] #[])).run prog (hW w 18)=.ok () (hW w 19):=KW w 18;have iA:(Instr.mapUpdate 77 (.map (some w.heap.size)) (Iv 19) (.func (.func 80) #[] #[])).run prog (hW w 19)=.ok () (hW w 20):=KW w 19;have zA:(Instr.mapUpdate 77 (.map (some w.heap.size)) (Iv 20) (.func (.func 81) #[] #[])).run prog (hW w 20)=.ok () (hW w 21):=KW w 20;have vA:(Instr.mapUpdate 77 (.map (some w.heap.size)) (Iv 21) (.func (.func 82) #[] #[])).run prog (hW w 21)=.ok () (hW w 22):=KW w 21;have eA:(Instr.mapUpdate 77 (.map (some w.heap.size)) (Iv 22) (.func (.func 83) #[] #[])).run prog (hW w 22)=.ok () (hW w 23):=KW w 22;have uA:=@run_makeMap prog;clear hR;go_enter func30,ntmps30;go_wp2;rw[HR.o];exact⟨_,rfl,Nat.le_refl _,HF.o.1,HF.o.2⟩
end Go.Proofs.YtfafpklefknomaaGreatDoor
