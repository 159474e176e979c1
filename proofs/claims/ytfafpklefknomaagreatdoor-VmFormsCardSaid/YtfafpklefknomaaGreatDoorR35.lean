import Derived.StillTailTactics
import Derived.Test.YtfafpklefknomaaGreatDoorR34
import Derived.Test.YtfafpklefknomaaGreatDoorR22
import Derived.Test.YtfafpklefknomaaGreatDoorR23
import Derived.Test.YtfafpklefknomaaGreatDoorR27
import Derived.Test.YtfafpklefknomaaGreatDoorR32
open List(append_eq_nil_iff length_cons map_map)
open Nat(add_zero le_refl one_mul zero_mul)
namespace Go.Proofs.YtfafpklefknomaaGreatDoor
open Go Go.ChangeShapes Go.WideShapes Go.ChangeAt Go.RowKit Go.Lib
open _root_.Go.Proofs.Tryz
set_option linter.all false
set_option maxRecDepth 100000
set_option maxHeartbeats 32000000
def MSt.drew{K:MK}{w W:World}{p:Nat}{s:StM}(h:MSt K w p s W):MSt K w p s W.drew:=h.up zO.drew
def JcV(K:MK)(w:World)(p:Nat)(s:StM)(n:Int)(ok:Bool)(h:MAt K w p s)(hl:s.st.length<=1000000000000):Calls prog 124 #[Pt p,Iv n,.bool ok] w (Qav K w p (if ok=true then s.push n else s.fail 1) (.tuple #[])):=by
 obtain⟨R,hR⟩:∃R,Qav K w p (if ok=true then s.push n else s.fail 1) (.tuple #[])=R:=⟨_,rfl⟩
 rw[hR];have HR:Hi (R=Qav K w p (if ok=true then s.push n else s.fail 1) (.tuple #[])):=hR.symm;have HS:=Zh (MSt.refl h);have HL:=Zh hl;clear hR h hl
 cases ok with
 |true=>
  go_enter func124,ntmps124;go_wp2_with fail;refine(JF K w p s n HS.o.at' HL.o).mono ?_;rintro e w2 ⟨rfl,ha,hb,ht⟩;exact Qdj
 |false=>
  go_enter func124,ntmps124;go_wp2_with fail;refine(Jan K w p s 1 HS.o.at').mono ?_;rintro e w2 ⟨rfl,ha,hb,ht⟩;exact Qdj
theorem QjR{P:Prop}(h:P:=by
  rw[HN.o,HO.o]at hdv;go_wp2_with fail;refine hdv.mono ?_;clear hdv;rintro e w3 ⟨rfl,hbw⟩;replace HS:=Zh (HS.o.up hbw);clear hbw;go_wp2_with fail;refine(JcV K w3 p { s with st:=l } n ok HS.o.at' (by have:=HL.o;rw[HT.o]at this;simp only[List.length_cons]at this |-;omega)).mono ?_;rintro e w4 ⟨rfl,ha,hb,ht⟩;replace HS:=Zh (HS.o.next ha hb ht);clear ha hb ht;rw[HE.o]at HS;go_wp2;go_end0;rw[HR.o]
  exact HS.o.fin):P:=h
theorem Qhn{P:Prop}(h:P:=by
  rw[<- hn,<- ho];unfold Hi
  by_cases e:b=0
  ·rw[if_neg (by simp[e]),if_pos e]
  ·rw[if_pos (by simp[e]),if_neg e,if_neg e]):P:=h
section
variable (K:MK)(w:World)(p:Nat)(s:StM)(o:OpM)(a b:Int)(l:List Int)(h:MAt K w p s)(hs:s.st=b::a::l)(hl:s.st.length<=1000000000000)(ha:Qbc a)(hb:Qbc b)
include K w p s o a b l h hs hl ha hb
theorem JoL:Calls prog 72 #[Pt p,.agg #[Iv o.code,Iv o.n,.string (bs o.name)]] w (Qav K w p (if b=0 then StM.fail { s with st:=l } 1 else StM.push { s with st:=l } (Qca (a.tdiv b))) (.tuple #[])):=by
 obtain⟨R,hR⟩:∃R,Qav K w p (if b=0 then StM.fail { s with st:=l } 1 else StM.push { s with st:=l } (Qca (a.tdiv b))) (.tuple #[])=R:=⟨_,rfl⟩
 rw[hR];have HR:Hi (R=Qav K w p (if b=0 then StM.fail { s with st:=l } 1 else StM.push { s with st:=l } (Qca (a.tdiv b))) (.tuple #[])):=hR.symm;have HS:=Zh (MSt.box h (.cells #[Iv o.code,Iv o.n,.string (bs o.name)] 34));have HY:=Zh (zQ w (.cells #[Iv o.code,Iv o.n,.string (bs o.name)] 34));have HL:=Zh hl;have HT:=Zh hs;clear hl hs;have HA:=Zh ha;have HB:=Zh hb;obtain⟨n,hn⟩:∃n,(if b=0 then 0 else Qca (a.tdiv b))=n:=⟨_,rfl⟩
 obtain⟨ok,ho⟩:∃ok,decide (b≠0)=ok:=⟨_,rfl⟩
 have HE:Hi ((if ok=true then StM.push { s with st:=l } n else StM.fail { s with st:=l } 1)=(if b=0 then StM.fail { s with st:=l } 1 else StM.push { s with st:=l } (Qca (a.tdiv b)))):=by
  exact Qhn
 have HN:=Zh hn;have HO:=Zh ho;clear hn ho;clear ha hb;clear hR h;go_enter func72,ntmps72;go_upto_region 1 with fail;generalize World.alloc w _=w1 at *;generalize w.heap.size=yb at *;obtain⟨y0,y1,y2⟩:=Jh HY.o;go_wp2_with fail;refine(KH K w1 p s a b l HS.o.at' HT.o HL.o).mono ?_;rintro e w2 ⟨rfl,ha,hb,ht⟩;replace HS:=Zh (HS.o.next ha hb ht);clear ha hb ht;have hdv:=Jij a b w2 HA.o HB.o;exact QjR
theorem JoM:Calls prog 73 #[Pt p,.agg #[Iv o.code,Iv o.n,.string (bs o.name)]] w (Qav K w p (if b=0 then StM.fail { s with st:=l } 1 else StM.push { s with st:=l } (Qca (a.tmod b))) (.tuple #[])):=by
 obtain⟨R,hR⟩:∃R,Qav K w p (if b=0 then StM.fail { s with st:=l } 1 else StM.push { s with st:=l } (Qca (a.tmod b))) (.tuple #[])=R:=⟨_,rfl⟩
 rw[hR];have HR:Hi (R=Qav K w p (if b=0 then StM.fail { s with st:=l } 1 else StM.push { s with st:=l } (Qca (a.tmod b))) (.tuple #[])):=hR.symm;have HS:=Zh (MSt.box h (.cells #[Iv o.code,Iv o.n,.string (bs o.name)] 34));have HY:=Zh (zQ w (.cells #[Iv o.code,Iv o.n,.string (bs o.name)] 34));have HL:=Zh hl;have HT:=Zh hs;clear hl hs;have HA:=Zh ha;have HB:=Zh hb;obtain⟨n,hn⟩:∃n,(if b=0 then 0 else Qca (a.tmod b))=n:=⟨_,rfl⟩
 obtain⟨ok,ho⟩:∃ok,decide (b≠0)=ok:=⟨_,rfl⟩
 have HE:Hi ((if ok=true then StM.push { s with st:=l } n else StM.fail { s with st:=l } 1)=(if b=0 then StM.fail { s with st:=l } 1 else StM.push { s with st:=l } (Qca (a.tmod b)))):=by
  exact Qhn
 have HN:=Zh hn;have HO:=Zh ho;clear hn ho;clear ha hb;clear hR h;go_enter func73,ntmps73;go_upto_region 1 with fail;generalize World.alloc w _=w1 at *;generalize w.heap.size=yb at *;obtain⟨y0,y1,y2⟩:=Jh HY.o;go_wp2_with fail;refine(KH K w1 p s a b l HS.o.at' HT.o HL.o).mono ?_;rintro e w2 ⟨rfl,ha,hb,ht⟩;replace HS:=Zh (HS.o.next ha hb ht);clear ha hb ht;have hdv:=Jik a b w2 HA.o HB.o;exact QjR
end
def JoN(K:MK)(w:World)(p:Nat)(s:StM)(o:OpM)(h:MAt K w p s):Calls prog 83 #[Pt p,.agg #[Iv o.code,Iv o.n,.string (bs o.name)]] w (Qav K w p { s with o:=⟨o.n,o.name,0,0⟩,fin:=true } (.tuple #[])):=by
 obtain⟨R,hR⟩:∃R,Qav K w p { s with o:=⟨o.n,o.name,0,0⟩,fin:=true } (.tuple #[])=R:=⟨_,rfl⟩
 rw[hR];have HR:Hi (R=Qav K w p { s with o:=⟨o.n,o.name,0,0⟩,fin:=true } (.tuple #[])):=hR.symm;have HS:=Zh (MSt.box h (.cells #[Iv o.code,Iv o.n,.string (bs o.name)] 34));have HY:=Zh (zQ w (.cells #[Iv o.code,Iv o.n,.string (bs o.name)] 34));clear hR h;go_enter func83,ntmps83;go_upto_region 1 with fail;generalize World.alloc w _=w1 at *;generalize w.heap.size=yb at *;obtain⟨y0,y1,y2⟩:=Jh HY.o
 have HFIN:Hi (MSt K w p { s with o:=⟨o.n,o.name,0,0⟩,fin:=true } (((((w1.setCell ⟨p,21,none⟩ (Iv o.n)).setCell ⟨p,22,none⟩ (.string (bs o.name))).setCell ⟨p,23,none⟩ (Iv 0)).setCell ⟨p,24,none⟩ (Iv 0)).setCell ⟨p,25,none⟩ (.bool true))):=by
  have h1:MSt K w p { s with o:={ s.o with action:=o.n } } (w1.setCell ⟨p,21,none⟩ (Iv o.n)):=HS.o.set (λ_ _ _=>rfl) rfl rfl rfl;have h2:MSt K w p { s with o:={ s.o with action:=o.n,reason:=o.name } } ((w1.setCell ⟨p,21,none⟩ (Iv o.n)).setCell ⟨p,22,none⟩ (.string (bs o.name))):=h1.set (λ_ _ _=>rfl) rfl rfl rfl;have h3:=h2.set (j:=23) (u:=Iv 0) (s':={ s with o:={ s.o with action:=o.n,reason:=o.name,used:=0 } }) (λ_ _ _=>rfl) rfl rfl rfl;have h4:=h3.set (j:=24) (u:=Iv 0) (s':={ s with o:=⟨o.n,o.name,0,0⟩ }) (λ_ _ _=>rfl) rfl rfl rfl;exact h4.set (j:=25) (u:=.bool true) (s':={ s with o:=⟨o.n,o.name,0,0⟩,fin:=true }) (λ_ _ _=>rfl) rfl rfl rfl
 obtain⟨sv,vv,cv,hbx⟩:=HS.o.box';have zA:=Ja hbx 21;have aA:=Jc hbx 21;have xA:=Ja hbx 22;have cA:=Jc hbx 22;have vA:=Ja hbx 23;have eA:=Jc hbx 23;have yA:=Ja hbx 24;have dA:=Jc hbx 24;have uA:=Ja hbx 25;have bA:=Jc hbx 25;simp only[mC,List.getElem?_toArray,List.getElem?_cons_succ,List.getElem?_cons_zero]at zA xA vA yA uA;clear hbx;go_wp2;go_end0;rw[HR.o];exact HFIN.o.fin
def JnT(K:MK)(w:World)(p:Nat)(s:StM)(o:OpM)(v:Int)(h:MAt K w p s)(hl:s.st.length<=1000000000000)(j:Nat)(hj:o.n=(j:Int))(hv:s.vars[j]?=some v):Calls prog 62 #[Pt p,.agg #[Iv o.code,Iv o.n,.string (bs o.name)]] w (Qav K w p (s.push v) (.tuple #[])):=by
 obtain⟨R,hR⟩:∃R,Qav K w p (s.push v) (.tuple #[])=R:=⟨_,rfl⟩
 rw[hR];have HR:Hi (R=Qav K w p (s.push v) (.tuple #[])):=hR.symm;have HS:=Zh (MSt.box h (.cells #[Iv o.code,Iv o.n,.string (bs o.name)] 34));have HY:=Zh (zQ w (.cells #[Iv o.code,Iv o.n,.string (bs o.name)] 34));have HL:=Zh hl;clear hl;have HJ:=Zh hj;clear hj;clear hR h;go_enter func62,ntmps62;go_upto_region 1 with fail;generalize World.alloc w _=w1 at *;generalize w.heap.size=yb at *;obtain⟨y0,y1,y2⟩:=Jh HY.o;obtain⟨sv,vv,cv,fr,hbx,hr⟩:=HS.o.at';have yA:=(List.getElem?_eq_some_iff.1 hv).1;have xA:=hr.vars;generalize uA:s.vars.length=vn at xA yA;obtain⟨g,c,rfl⟩:=Vm xA zo;have zA:w1.cell? ⟨p,18,none⟩=some (.slice (some ⟨g,0,none⟩) vn c):=Ja hbx 18
 have bj:w1.cell? ⟨g,j,none⟩=some (Iv v):=by
  rw[xA.cellAt j zo];unfold Qad;rw[List.getElem?_map,hv];rfl
 rw[HJ.o]at y1;have k1:(j:Int)<(vn:Int):=zo;clear hr hbx xA hv yA;go_still_tail 9,zk;change wpList _ _ _ _ _ w1.drew;replace HS:=Zh HS.o.drew;generalize w1.drew=w1' at *;go_wp2_with fail;refine(JF K w1' p s v HS.o.at' HL.o).mono ?_;rintro e w2 ⟨rfl,ha,hb,ht⟩;exact Qdj
def Qek.varCell{K:MK}{w:World}{p g vn c j:Nat}{s:StM}{sv cv:Value}{fr:List Value}(h:Qek K w p s sv (.slice (some ⟨g,0,none⟩) vn c) cv fr)(hn:s.vars.length=vn)(hj:j<vn) :
  w.cell? ⟨g,j,none⟩=some (Iv (s.vars.getD j 0))/\w.frozen? ⟨g,j,none⟩=false:=by
 have hx:(Qad s.vars)[j]?=some (Iv (s.vars.getD j 0)):=by
  unfold Qad;rw[List.getElem?_map,List.getD_eq_getElem?_getD,List.getElem?_eq_getElem zo];rfl
 have hv:=h.2.vars;rw[hn]at hv;have:=YC hv hx;exact⟨this.2.2.2.1,this.2.2.2.2⟩
def JmE(K:MK)(w:World)(p:Nat)(s:StM)(o:OpM)(v:Int)(l:List Int)(j:Nat)(h:MAt K w p s)(hs:s.st=v::l)(hl:s.st.length<=1000000000000)(hj:o.n=(j:Int))(hjl:j<s.vars.length):Calls prog 63 #[Pt p,.agg #[Iv o.code,Iv o.n,.string (bs o.name)]] w (Qav K w p { s with st:=l,vars:=s.vars.set j v } (.tuple #[])):=by
 obtain⟨R,hR⟩:∃R,Qav K w p { s with st:=l,vars:=s.vars.set j v } (.tuple #[])=R:=⟨_,rfl⟩
 rw[hR];have HR:Hi (R=Qav K w p { s with st:=l,vars:=s.vars.set j v } (.tuple #[])):=hR.symm;have HS:=Zh (MSt.box h (.cells #[Iv o.code,Iv o.n,.string (bs o.name)] 34));have HY:=Zh (zQ w (.cells #[Iv o.code,Iv o.n,.string (bs o.name)] 34));have HL:=Zh hl;have HT:=Zh hs;have HJ:=Zh hj;have xA:=Zh hjl;clear hl hs hj hjl;clear hR h;go_enter func63,ntmps63;go_upto_region 1 with fail;generalize World.alloc w _=w1 at *;generalize w.heap.size=yb at *;obtain⟨y0,y1,y2⟩:=Jh HY.o;obtain⟨sv,vv,cv,fr,hX⟩:∃sv vv cv fr,Qek K w1 p s sv vv cv fr:=HS.o.at';obtain⟨n,hn⟩:∃n,l.length=n:=⟨_,rfl⟩
 have hst:=hX.2.st;have zA:s.st.length=n+1:=by rw[HT.o,length_cons,hn]
 rw[zA]at hst;obtain⟨gs,cs,rfl⟩:=Vm hst zo;have uA:=hX.2.vars;obtain⟨vn,vA⟩:∃vn,s.vars.length=vn:=⟨_,rfl⟩
 rw[vA]at uA;obtain⟨g,c,rfl⟩:=Vm uA (zu xA.o);have dA:=Zh vA;have aA:Hi (j<vn):=by have:=xA.o;unfold Hi;omega
 have k1:(j:Int)<(vn:Int):=by have:=aA.o;omega
 rw[zA]at HL;have HX0:=Zh hX.drew;have HP:=Zh (hX.drew.pop HT.o hn);have eA:=Zh HS.o.drew;have hA:Hi (w1.drew.heap[yb]?=some (.cells #[Iv o.code,Iv (j:Int),.string (bs o.name)] 34 (0,0))):=by rw[<- HJ.o];exact HY.o
 clear hst zA uA hX vA hn y0 y1 y2;refine wp_region_held_drew (S:=(λW'=>W'.cell? ⟨p,18,none⟩=some (.slice (some ⟨g,0,none⟩) vn c)/\W'.cell? ⟨yb,1,none⟩=some (Iv (j:Int)))) zk (⟨Ja HX0.o.1 18,(Jh hA.o).2.1⟩) λhH=>?_;generalize w1.drew=w2 at *;refine zK 0 ?_
 try simp only[zX]
 refine zK 1 ?_;try simp only[zX]
 refine zK 2 ?_;try simp only[zX]
 refine zK 3 ?_;try simp only[zX]
 refine zK 4 ?_;try simp only[zX]
 refine zK 5 ?_;try simp only[zX]
 refine zK 6 ?_;try simp only[zX]
 refine ZR (rs:=[7]) (AllReadyH.cons rfl (λKK hK=>?_) AllReadyH.nil)
 (go_simp;go_at_call 116;refine(Jip w2 p gs n cs v HP.o.1 HP.o.2.1 HP.o.2.2.1 HP.o.2.2.2.1 (zu HL.o)).mono ?_;rintro e yA ⟨rfl,bA⟩)
 have HX3:Hi (Qek K yA p { s with st:=l } (.slice (some ⟨gs,0,none⟩) n cs) (.slice (some ⟨g,0,none⟩) vn c) cv fr):=by
  rw[bA];exact HP.o.2.2.2.2
 have HF3:Hi (TFr w2 yA/\Below (p-1) w2 yA):=by
  rw[bA];exact⟨TFr.set HX0.o.1,zO.setCell zq _⟩
 have gA:=Zh (KU hA.o HF3.o.1);clear bA;refine zU hK (⟨Ja HX3.o.1 18,(Jh gA.o).2.1⟩) λhH=>?_;clear hK KK
 try simp only[zX]
 refine zK 8 ?_;try simp only[zX]
 obtain⟨q1,q2⟩:=HX3.o.varCell dA.o aA.o;obtain⟨x1,x2,x3⟩:=HX3.o.vset (j:=j) (by show j<s.vars.length;have:=dA.o;have:=aA.o;omega) v;have cA:=Zh x1;have HF5:=Zh (And.intro x3 x2);clear x1 x2 x3;refine ZR (rs:=[9]) (AllReadyH.cons rfl (λKK hK=>?_) AllReadyH.nil);go_simp;clear q1 q2;generalize yA.setCell ⟨g,j,none⟩ (Iv v)=wc1 at *;have HY5:=Zh (KU gA.o HF5.o.1);refine zU hK (⟨Ja cA.o.1 18,(Jh HY5.o).2.1⟩) λhH=>?_;clear hK KK
 try simp only[zX]
 refine wpAnyH_done zk ?_ _;have HFIN:Hi (MSt K w p { s with st:=l,vars:=s.vars.set j v } wc1):=⟨⟨_,_,_,_,cA.o.1,cA.o.2⟩,(eA.o.below.trans HF3.o.2).trans HF5.o.2,(eA.o.tfr.trans HF3.o.1).trans HF5.o.1⟩
 go_wp2;go_end0;rw[HR.o];exact HFIN.o.fin
def Jgm{W:World}{p:Nat}{v:Value}{l:List By}(h:QcB W p v l)(hl:l.length<=200000000000000)(x:By):Calls prog 97 #[v,Sv x] W λe w'=>e=.returned (.bool (decide (x∈l)))/\w'=W:=by
 obtain⟨ad,cc,rfl,yA,hg⟩:=h.get
 by_cases hn:l=[]
 ·subst hn;exact Tryz.slices_Contains_string_empty ad cc (bs x) W
 ·obtain⟨a0,l',rfl⟩:=List.exists_cons_of_ne_nil hn;obtain⟨b,o,rfl,_,_⟩:=hg 0 a0 rfl;generalize hL:a0::l'=l at *;refine(Tryz.slices_Contains_string b o l.length cc (l.map bs) (bs x) W zq zo λj hj=>?_).mono λe w' hh=>?_
  ·have xA:j<l.length:=by simpa using hj
   obtain⟨b',o',e,_,h3⟩:=hg j l[j] (by rw[List.getElem?_eq_getElem xA]);simp only[Option.some.injEq,Addr.mk.injEq]at e;obtain⟨rfl,rfl,_⟩:=e;rw[show (l.map bs).getD j ByteArray.empty=bs l[j] by simp[xA]];exact h3
  ·rw[List.take_of_length_le zq,Y9]at hh;exact hh
def QfY(s:By):List (By × Int)->Nat->Int
 |[],_=>-1
 |c::l,k=>if c.1=s then (k:Int) else QfY s l (k+1)
def JcW(s:By):∀(l:List (By × Int)) (k:Nat),(QfY s l k = -1/\Qcm l s=0)\/∃(i:Nat) (a:By × Int),QfY s l k=((k+i:Nat):Int)/\l[i]?=some a/\Qcm l s=a.2
 |[],k=>.inl ⟨rfl,rfl⟩
 |c::l,k=>by
  unfold QfY Qcm
  by_cases e:c.1=s
  ·rw[if_pos e,if_pos e];exact .inr ⟨0,c,rfl,rfl,rfl⟩
  ·rw[if_neg e,if_neg e]
   rcases JcW s l (k+1) with h|⟨i,a,h1,h2,h3⟩
   ·exact .inl h
   ·exact .inr ⟨i+1,a,by rw[h1];omega,h2,h3⟩
def MAt.c15{K:MK}{w:World}{p:Nat}{s:StM}(h:MAt K w p s):w.cell? ⟨p,15,none⟩=some K.wa:=by
 obtain⟨sv,vv,cv,fr,hb,hr⟩:=h;exact Ja hb 15
def JnU(K:MK)(w:World)(p:Nat)(s:StM)(o:OpM)(h:MAt K w p s)(hl:s.st.length<=1000000000000)(hW:QcB w (p-1) K.wa K.F.words)(hwl:K.F.words.length<=200000000000000):Calls prog 66 #[Pt p,.agg #[Iv o.code,Iv o.n,.string (bs o.name)]] w (Qav K w p (s.push (QcZ K.F.words o.name)) (.tuple #[])):=by
 obtain⟨R,hR⟩:∃R,Qav K w p (s.push (QcZ K.F.words o.name)) (.tuple #[])=R:=⟨_,rfl⟩
 rw[hR];have HR:Hi (R=Qav K w p (s.push (QcZ K.F.words o.name)) (.tuple #[])):=hR.symm;have HS:=Zh (MSt.box h (.cells #[Iv o.code,Iv o.n,.string (bs o.name)] 34));have HY:=Zh (zQ w (.cells #[Iv o.code,Iv o.n,.string (bs o.name)] 34));have HL:=Zh hl;clear hl;have HW:=Zh hW;have HWL:=Zh hwl;clear hW hwl;clear hR h;go_enter func66,ntmps66;go_upto_region 1 with fail;generalize World.alloc w _=w1 at *;generalize w.heap.size=yb at *;obtain⟨y0,y1,y2⟩:=Jh HY.o;have yA:=HW.o.up HS.o.below;obtain⟨ad,cc,vA,_,_⟩:=yA.get;have xA:=Zh vA;have HW2:=Zh yA;clear yA vA y0 y1 y2;refine wp_region_held_drew (S:=(λW'=>W'.cell? ⟨p,15,none⟩=some (.slice ad K.F.words.length cc)/\W'.cell? ⟨yb,2,none⟩=some (.string (bs o.name)))) zk (⟨xA.o ▸ HS.o.at'.c15,(Jh HY.o).2.2⟩) λhH=>?_;replace HS:=Zh HS.o.drew;have zA:=Jgm (HW2.o.up zO.drew) HWL.o o.name;rw[xA.o]at zA;have bA:=Zh zA;clear zA;replace HY:Hi (w1.drew.heap[yb]?=_):=HY.o;generalize w1.drew=w1' at *;refine zK 0 ?_
 try simp only[zX]
 refine zK 1 ?_;try simp only[zX]
 refine zK 2 ?_;try simp only[zX]
 refine zK 3 ?_;try simp only[zX]
 refine zK 4 ?_;try simp only[zX]
 refine zK 5 ?_;try simp only[zX]
 refine zK 6 ?_;try simp only[zX]
 refine zK 7 ?_;try simp only[zX]
 refine ZR (rs:=[8]) (AllReadyH.cons rfl (λKK hK=>?_) AllReadyH.nil)
 (go_simp;go_at_call 97;refine bA.o.mono ?_;rintro e w2 ⟨rfl,rfl⟩)
 refine zU hK (⟨xA.o ▸ HS.o.at'.c15,(Jh HY.o).2.2⟩) λhH=>?_;clear hK KK
 try simp only[zX]
 refine ZR (rs:=[9]) (AllReadyH.cons rfl (λKK hK=>?_) AllReadyH.nil)
 (go_simp;go_at_call 117;refine(Vn K w2 p s (decide (o.name∈K.F.words)) HS.o.at' HL.o).mono ?_;rintro e w3 ⟨rfl,ha,hb,ht⟩)
 have uA:=Zh (HS.o.next ha hb ht);have aA:=Zh (KU HY.o ht);clear ha hb ht;refine zU hK (⟨xA.o ▸ uA.o.at'.c15,(Jh aA.o).2.2⟩) λhH=>?_;clear hK KK
 try simp only[zX]
 refine wpAnyH_done zk ?_ _;go_wp2;go_end0;rw[HR.o];exact uA.o.fin
theorem Qjw{P:Prop}(h:P:=by
  clear e;go_enter func119,ntmps119;go_upto_region 1 with fail;generalize World.alloc w _=w1 at *;have y0:=Ja HY.o 0;simp only[List.getElem?_toArray,List.getElem?_cons_zero]at y0;go_wp2;go_ret
  exact⟨rfl,hb'.o⟩):P:=h
def Jgn(w:World)(b T:Nat)(c0 c1:Value)(fr:Nat × Nat)(x y:By)(n:Int)(hb:w.heap[b]?=some (.cells #[c0,c1,Sv y] T fr)) :
  Calls prog 119 #[.agg #[Sv x,Iv n],Pt b] w (Qbj w (.bool (decide (x=y)))):=by
 have hb':=Zh ((Below.refl w.heap.size w).alloc (Nat.le_refl _) (.cells #[Sv x,Iv n] 82));have u1:=Jj x;have u2:=Jj y;have hn:=(Jh ((heap_alloc_old w (.cells #[Sv x,Iv n] 82) (Jb hb)).trans hb)).2.2;have HY:=Zh (zQ w (.cells #[Sv x,Iv n] 82))
 by_cases e:x=y
 ·have q:(x==y)=true:=zN e;rw[zG e];exact Qjw
 ·have q:(x==y)=false:=zM e;rw[zH e];exact Qjw
def Jgo(W:World)(p:Nat)(v:Value)(labs:List (By × Int))(h:Qdq W p v labs)(hnn:labs.length<=200000000000000)(hp:p<=W.heap.size)(b T:Nat)(c0 c1:Value)(fr:Nat × Nat)(y:By)(hb:W.heap[b]?=some (.cells #[c0,c1,Sv y] T fr)) :
  Calls prog 118 #[v,.func (.func 119) #[] #[Pt b]] W (Qbj W (Iv (QfY y labs 0))):=by
 obtain⟨q,hq⟩:∃q,QfY y labs 0=q:=⟨_,rfl⟩
 rw[hq];have HQ:Hi (QfY y (labs.drop 0) 0=q):=hq;obtain⟨n,yA⟩:∃n,labs.length=n:=⟨_,rfl⟩
 obtain⟨la,lc,rfl,cA,_⟩:=h.get;rw[yA]at h hnn cA;have HW:=Zh h;have HL:=Zh yA;have HN:=Zh hnn;have HP:=Zh hp;have HB:=Zh hb;have HB0:Hi (Bel W W):=zO;rw[yA];clear h hq yA hnn cA hp hb;go_enter func118,ntmps118;go_wp2_with fail;go_loopg [8] n λg v8 wr=>∃k:Nat,g+k=n/\v8=Iv k/\Hi (Bel W wr)/\Hi (QfY y (labs.drop k) k=q)
 case atStart=>exact⟨0,rfl,rfl,HB0,HQ⟩
 case round=>
 clear HQ HB0;obtain⟨wl,rfl⟩:=zJ wr;obtain⟨k,hg,rfl,hbw,hz⟩:=hrel;have wk:IntKind.i64.wrap ((k:Int)+1)=(k:Int)+1:=IntWalk.i64_in _ (zu HN.o)
 by_cases hi:k<n
 ·have hil:(k:Int)<(n:Int):=zo;have hlt:k<labs.length:=by rw[HL.o];exact hi
  obtain⟨a,ha⟩:∃a,labs[k]?=some a:=⟨labs[k]'hlt,List.getElem?_eq_getElem _⟩
  have aA:Qdq wl p (.slice la n lc) labs:=HW.o.up (hbw.o.mono HP.o);obtain⟨gA,hA,hv,_,uA⟩:=aA.get;obtain⟨b',o',dA,hb',hc,hc2⟩:=uA k a ha;simp only[Value.slice.injEq]at hv;have vA:=hv.1;clear hv;rw[dA]at vA;have xA:=hz.o;rw[List.drop_eq_getElem_cons hlt]at xA;have bA:labs[k]=a:=by rw[List.getElem?_eq_getElem hlt]at ha;exact Option.some.inj ha
  rw[bA]at xA;obtain⟨nm,ct⟩:=a;dsimp only at hc hc2;rw[QfY]at xA;dsimp only at xA;have zA:=Zh (Jgn wl b T c0 c1 fr nm y ct ((hbw.o.block b (Jb HB.o)).trans HB.o));have HG:=Zh hg;clear ha bA hz hlt hb' aA hg uA dA;subst vA
  by_cases e:nm=y
  ·have HE:Hi (decide (nm=y)=true):=zG e;rw[if_pos e]at xA;subst xA;rw[HE.o]at zA;clear e;go_wp2_with fail;refine zA.o.mono ?_;rintro e w2 ⟨rfl,hb2⟩;have HB2:Hi (Bel W w2):=Jd hbw.o hb2;clear hb2;go_wp2;go_ret;exact⟨rfl,HB2.o⟩
  ·have HE:Hi (decide (nm=y)=false):=zH e;rw[if_neg e]at xA;rw[HE.o]at zA;have HZ:=Zh xA;have HHI:=Zh hi;clear e xA hi;go_wp2_with fail;refine zA.o.mono ?_;rintro e w2 ⟨rfl,hb2⟩;have HB2:Hi (Bel W w2):=Jd hbw.o hb2;clear hb2 hc hc2;exact QhB
 ·have hil:¬(k:Int)<(n:Int):=zo;have xA:=hz.o;rw[List.drop_of_length_le (by rw[HL.o];omega)]at xA;have eA:q = -1:=by rw[<- xA];rfl
  subst eA;have HB2:=Zh hbw.o;clear hz xA hi hg hbw;go_wp2;go_ret;exact⟨rfl,HB2.o⟩
def MAt.c4{K:MK}{w:World}{p:Nat}{s:StM}(h:MAt K w p s):w.cell? ⟨p,4,none⟩=some K.la:=by
 obtain⟨sv,vv,cv,fr,hb,hr⟩:=h;exact Ja hb 4
def JmF(K:MK)(w:World)(p:Nat)(s:StM)(o:OpM)(h:MAt K w p s)(hl:s.st.length<=1000000000000)(hW:Qdq w (p-1) K.la K.F.labels)(hwl:K.F.labels.length<=200000000000000):Calls prog 65 #[Pt p,.agg #[Iv o.code,Iv o.n,.string (bs o.name)]] w (Qav K w p (s.push (Qcm K.F.labels o.name)) (.tuple #[])):=by
 obtain⟨R,hR⟩:∃R,Qav K w p (s.push (Qcm K.F.labels o.name)) (.tuple #[])=R:=⟨_,rfl⟩
 rw[hR];have HR:Hi (R=Qav K w p (s.push (Qcm K.F.labels o.name)) (.tuple #[])):=hR.symm;have HS:=Zh (MSt.box h (.cells #[Iv o.code,Iv o.n,.string (bs o.name)] 34));have HY:=Zh (zQ w (.cells #[Iv o.code,Iv o.n,.string (bs o.name)] 34));have HL:=Zh hl;clear hl;have HW:=Zh hW;have HWL:=Zh hwl;clear hW hwl;clear hR h;go_enter func65,ntmps65;go_upto_region 1 with fail;generalize World.alloc w _=w1 at *;generalize w.heap.size=yb at *;obtain⟨y0,y1,y2⟩:=Jh HY.o;have yA:=HS.o.at'.lt;have zA:=Jgo w1 (p-1) K.la K.F.labels (HW.o.up HS.o.below) HWL.o zo yb _ _ _ _ o.name HY.o;have b4:=HS.o.at'.c4;obtain⟨ad,cc,xA,_,_⟩:=(HW.o.up HS.o.below).get;rw[xA]at zA b4;have vA:=Zh zA;clear zA yA xA;go_wp2_with fail;refine vA.o.mono ?_;rintro e w2 ⟨rfl,hbw⟩;replace HS:=Zh (HS.o.up hbw);have b4:=HS.o.at'.c4;have aA:=HW.o.up HS.o.below;obtain⟨dA,eA,xA,bA,uA⟩:=aA.get;rw[xA]at b4;clear hbw aA xA vA
 rcases JcW o.name K.F.labels 0 with⟨e1,e2⟩|⟨i,a,e1,e2,e3⟩
 ·rw[e1];rw[e2]at HR;clear e1 e2;go_wp2_with fail;refine(JF K w2 p s 0 HS.o.at' HL.o).mono ?_;rintro e w3 ⟨rfl,ha,hb,ht⟩;exact Qdj
 ·rw[e1];rw[e3]at HR;rw[Nat.zero_add];obtain⟨b',o',cA,hb',hc,hc2⟩:=uA i a e2;have k1:(i:Int)<(K.F.labels.length:Int):=by have:=(List.getElem?_eq_some_iff.1 e2).1;omega
  have k2:¬(i:Int)<0:=zo;subst cA;clear e1 e2 e3 uA hb';generalize K.F.labels.length=nl at *;go_wp2_with fail;refine(JF K w2 p s a.2 HS.o.at' HL.o).mono ?_;rintro e w3 ⟨rfl,ha,hb,ht⟩;exact Qdj
def JnV(K:MK)(w:World)(p:Nat)(s:StM)(o:OpM)(h:MAt K w p s)(hl:s.st.length<=1000000000000)(hF:(∃a n c,K.la=.slice a n c)/\∃a n c,K.wa=.slice a n c):Calls prog 64 #[Pt p,.agg #[Iv o.code,Iv o.n,.string (bs o.name)]] w (Qav K w p (s.push (QcM K.F o.name)) (.tuple #[])):=by
 obtain⟨R,hR⟩:∃R,Qav K w p (s.push (QcM K.F o.name)) (.tuple #[])=R:=⟨_,rfl⟩
 rw[hR];have HR:Hi (R=Qav K w p (s.push (QcM K.F o.name)) (.tuple #[])):=hR.symm;have HS:=Zh (MSt.box h (.cells #[Iv o.code,Iv o.n,.string (bs o.name)] 34));have HY:=Zh (zQ w (.cells #[Iv o.code,Iv o.n,.string (bs o.name)] 34));have HL:=Zh hl;clear hl;rw[Jil]at HR;clear hR h;go_enter func64,ntmps64;go_upto_region 1 with fail;generalize World.alloc w _=w1 at *;generalize w.heap.size=yb at *;obtain⟨y0,y1,y2⟩:=Jh HY.o;have xA:=hF.1;obtain⟨cA,zA,bA,xA⟩:=xA;obtain⟨vA,yA,uA,gA⟩:=hF.2;obtain⟨sv,vv,cv,hbx⟩:=HS.o.box';have b4:=Ja hbx 4;have f4:=Jc hbx 4;have b5:=Ja hbx 5;have f5:=Jc hbx 5;have b6:=Ja hbx 6;have f6:=Jc hbx 6;have b7:=Ja hbx 7;have f7:=Jc hbx 7;have b8:=Ja hbx 8;have f8:=Jc hbx 8;have b9:=Ja hbx 9;have f9:=Jc hbx 9;have b10:=Ja hbx 10;have iA:=Jc hbx 10;have b11:=Ja hbx 11;have pA:=Jc hbx 11;have hA:=Ja hbx 12;have nA:=Jc hbx 12;have eA:=Ja hbx 13;have qA:=Jc hbx 13;have dA:=Ja hbx 14;have jA:=Jc hbx 14;have aA:=Ja hbx 15;have mA:=Jc hbx 15;simp only[mC,List.getElem?_toArray,List.getElem?_cons_succ,List.getElem?_cons_zero]at b4 b5 b6 b7 b8 b9 b10 b11 hA eA dA aA;clear hbx f4 f5 f6 f7 f8 f9 iA pA nA qA jA mA;rw[xA]at b4;rw[gA]at aA;have HC:=Zh (zQ w1 (.cells #[.slice cA zA bA,Iv K.F.likes,Iv K.F.boosts,Iv K.F.replies,Iv K.F.reports,Iv K.F.age,Iv K.F.home,Iv K.F.scope,Iv K.F.length,.bool K.F.follows,.bool K.F.reply,.slice vA yA uA] 45));replace HS:=Zh (HS.o.up (zO.alloc (Nat.le_refl _) (.cells #[.slice cA zA bA,Iv K.F.likes,Iv K.F.boosts,Iv K.F.replies,Iv K.F.reports,Iv K.F.age,Iv K.F.home,Iv K.F.scope,Iv K.F.length,.bool K.F.follows,.bool K.F.reply,.slice vA yA uA] 45)));have kA:=Zh ((heap_alloc_old w1 (.cells #[.slice cA zA bA,Iv K.F.likes,Iv K.F.boosts,Iv K.F.replies,Iv K.F.reports,Iv K.F.age,Iv K.F.home,Iv K.F.scope,Iv K.F.length,.bool K.F.follows,.bool K.F.reply,.slice vA yA uA] 45) (Jb HY.o)).trans HY.o);clear xA gA hF;generalize hnm:o.name=nm at *;have u1:=Jj nm;clear hnm;go_upto_region 2 with fail;clear b4 b5 b6 b7 b8 b9 b10 b11 hA eA dA aA y0 y1 y2;generalize World.alloc w1 _=w2 at *;generalize w1.heap.size=fb at *;obtain⟨y0,y1,y2⟩:=Jh kA.o
 by_cases h0:nm=Qco
 ·have e0:(nm==[108,105,107,101,115])=true:=zN h0;rw[if_pos h0]at HR;clear h0;have c1:=Ja HC.o 1;simp only[zW]at c1;go_wp2_with fail;refine(JF K w2 p s K.F.likes HS.o.at' HL.o).mono ?_;rintro e w3 ⟨rfl,ha,hb,ht⟩;exact Qdj
 have e0:(nm==[108,105,107,101,115])=false:=zM h0;rw[if_neg h0]at HR
 by_cases h1:nm=Qch
 ·have e1:(nm==[98,111,111,115,116,115])=true:=zN h1;rw[if_pos h1]at HR;clear h0 h1;have c1:=Ja HC.o 2;simp only[zW]at c1;go_wp2_with fail;refine(JF K w2 p s K.F.boosts HS.o.at' HL.o).mono ?_;rintro e w3 ⟨rfl,ha,hb,ht⟩;exact Qdj
 have e1:(nm==[98,111,111,115,116,115])=false:=zM h1;rw[if_neg h1]at HR
 by_cases h2:nm=QbD
 ·have e2:(nm==[114,101,112,108,105,101,115])=true:=zN h2;rw[if_pos h2]at HR;clear h0 h1 h2;have c1:=Ja HC.o 3;simp only[zW]at c1;go_wp2_with fail;refine(JF K w2 p s K.F.replies HS.o.at' HL.o).mono ?_;rintro e w3 ⟨rfl,ha,hb,ht⟩;exact Qdj
 have e2:(nm==[114,101,112,108,105,101,115])=false:=zM h2;rw[if_neg h2]at HR
 by_cases h3:nm=QbC
 ·have e3:(nm==[114,101,112,111,114,116,115])=true:=zN h3;rw[if_pos h3]at HR;clear h0 h1 h2 h3;have c1:=Ja HC.o 4;simp only[zW]at c1;go_wp2_with fail;refine(JF K w2 p s K.F.reports HS.o.at' HL.o).mono ?_;rintro e w3 ⟨rfl,ha,hb,ht⟩;exact Qdj
 have e3:(nm==[114,101,112,111,114,116,115])=false:=zM h3;rw[if_neg h3]at HR
 by_cases h4:nm=QfI
 ·have e4:(nm==[97,103,101])=true:=zN h4;rw[if_pos h4]at HR;clear h0 h1 h2 h3 h4;have c1:=Ja HC.o 5;simp only[zW]at c1;go_wp2_with fail;refine(JF K w2 p s K.F.age HS.o.at' HL.o).mono ?_;rintro e w3 ⟨rfl,ha,hb,ht⟩;exact Qdj
 have e4:(nm==[97,103,101])=false:=zM h4;rw[if_neg h4]at HR
 by_cases h5:nm=QdQ
 ·have e5:(nm==[104,111,109,101])=true:=zN h5;rw[if_pos h5]at HR;clear h0 h1 h2 h3 h4 h5;have c1:=Ja HC.o 6;simp only[zW]at c1;go_wp2_with fail;refine(JF K w2 p s K.F.home HS.o.at' HL.o).mono ?_;rintro e w3 ⟨rfl,ha,hb,ht⟩;exact Qdj
 have e5:(nm==[104,111,109,101])=false:=zM h5;rw[if_neg h5]at HR
 by_cases h6:nm=QcS
 ·have e6:(nm==[115,99,111,112,101])=true:=zN h6;rw[if_pos h6]at HR;clear h0 h1 h2 h3 h4 h5 h6;have c1:=Ja HC.o 7;simp only[zW]at c1;go_wp2_with fail;refine(JF K w2 p s K.F.scope HS.o.at' HL.o).mono ?_;rintro e w3 ⟨rfl,ha,hb,ht⟩;exact Qdj
 have e6:(nm==[115,99,111,112,101])=false:=zM h6;rw[if_neg h6]at HR
 by_cases h7:nm=Qcg
 ·have e7:(nm==[108,101,110,103,116,104])=true:=zN h7;rw[if_pos h7]at HR;clear h0 h1 h2 h3 h4 h5 h6 h7;have c1:=Ja HC.o 8;simp only[zW]at c1;go_wp2_with fail;refine(JF K w2 p s K.F.length HS.o.at' HL.o).mono ?_;rintro e w3 ⟨rfl,ha,hb,ht⟩;exact Qdj
 have e7:(nm==[108,101,110,103,116,104])=false:=zM h7;rw[if_neg h7]at HR
 by_cases h8:nm=QbE
 ·have e8:(nm==[102,111,108,108,111,119,115])=true:=zN h8;rw[if_pos h8]at HR;clear h0 h1 h2 h3 h4 h5 h6 h7 h8;have c1:=Ja HC.o 9;simp only[zW]at c1;go_wp2_with fail;refine(Vn K w2 p s K.F.follows HS.o.at' HL.o).mono ?_;rintro e w3 ⟨rfl,ha,hb,ht⟩;exact Qdj
 have e8:(nm==[102,111,108,108,111,119,115])=false:=zM h8;rw[if_neg h8]at HR;clear h0 h1 h2 h3 h4 h5 h6 h7 h8;have c1:=Ja HC.o 10;simp only[zW]at c1;go_wp2_with fail;refine(Vn K w2 p s K.F.reply HS.o.at' HL.o).mono ?_;rintro e w3 ⟨rfl,ha,hb,ht⟩;exact Qdj
def JnW(K:MK)(w:World)(p:Nat)(s:StM)(o:OpM)(q:Nat)(vs:List Int)(cl:List (Nat × List Int))(h:MAt K w p s)(hs:s.calls=(q,vs)::cl)(hl:s.calls.length<=100):Calls prog 81 #[Pt p,.agg #[Iv o.code,Iv o.n,.string (bs o.name)]] w (Qav K w p { s with pc:=q,vars:=vs,calls:=cl } (.tuple #[])):=by
 obtain⟨R,hR⟩:∃R,Qav K w p { s with pc:=q,vars:=vs,calls:=cl } (.tuple #[])=R:=⟨_,rfl⟩
 rw[hR];have HR:Hi (R=Qav K w p { s with pc:=q,vars:=vs,calls:=cl } (.tuple #[])):=hR.symm;have HS:=Zh (MSt.box h (.cells #[Iv o.code,Iv o.n,.string (bs o.name)] 34));have HY:=Zh (zQ w (.cells #[Iv o.code,Iv o.n,.string (bs o.name)] 34));have HT:=Zh hs;have HL:=Zh hl;clear hs hl;clear hR h;go_enter func81,ntmps81;go_upto_region 1 with fail;generalize World.alloc w _=w1 at *;generalize w.heap.size=yb at *;obtain⟨y0,y1,y2⟩:=Jh HY.o;obtain⟨sv,vv,cv,fr,hX⟩:∃sv vv cv fr,Qek K w1 p s sv vv cv fr:=HS.o.at';obtain⟨n,hn⟩:∃n,cl.length=n:=⟨_,rfl⟩
 have xA:=hX.2.calls;have hfr:=hX.2.frames;have zA:=hX.2.dis;rw[HT.o]at xA hfr;rw[length_cons,hn]at xA;obtain⟨g,c,rfl⟩:=Vm xA zo
 rcases fr with _|⟨fv,fr'⟩
 ·exact hfr.elim
 obtain⟨bA,hf2⟩:=hfr;have eA:=hX.2.vars
 have jA:∃k:List Value,Qdf ((q,vs)::cl) (fv::fr')=k++[Iv (q:Nat),fv]/\k.length=n*2/\Qdf cl fr'=k:=by
  have vA:∀(l:List (Nat × List Int)) (f:List Value),QeZ w1 (p-1) l f->l.length=f.length:=by
   intro l
   induction l with
   |nil=>intro f h;cases f with|nil=>rfl|cons _ _=>exact h.elim
   |cons x l ih=>intro f h;cases f with|nil=>exact h.elim|cons _ _=>simp[ih _ h.2]
  refine⟨Qdf cl fr',?_,?_,rfl⟩
  ·unfold Qdf;simp
  ·have h1:=vA cl fr' hf2
   have h2:∀l:List ((Nat × List Int) × Value),(l.flatMap λx=>[Value.int .i64 (x.1.1:Nat),x.2]).length=l.length*2:=by
    intro l
    induction l with
    |nil=>rfl
    |cons a l ih=>simp[ih];omega
   unfold Qdf;rw[h2,List.length_reverse,List.length_zip,<- h1,hn,Nat.min_self]
 obtain⟨ks,hk1,aA,cA⟩:=jA;rw[hk1]at xA
 have hcl:n+1<=c:=by
  rcases xA.2 with⟨hn,_⟩|⟨g',cap,cur,hv,_,_,h1,_⟩
  ·cases hn
  ·simp only[Value.slice.injEq]at hv;omega
 have g0:w1.cell? ⟨g,n*2,none⟩=some (Iv (q:Nat)):=(YC xA (by rw[List.getElem?_append_right zo,aA,Nat.sub_self];rfl)).2.2.2.1;have g1:w1.cell? ⟨g,n*2+1,none⟩=some fv:=(YC xA (by rw[List.getElem?_append_right zo,aA,Nat.add_sub_cancel_left];rfl)).2.2.2.1
 have mA:∃a nn cc,fv=.slice a nn cc:=by
  obtain⟨a,cc,h⟩:=Jv bA;exact⟨a,_,cc,h⟩
 obtain⟨fa,fn,fc,rfl⟩:=mA
 have kA:∃a nn cc,vv=.slice a nn cc:=by
  obtain⟨a,cc,h⟩:=Jv eA;exact⟨a,_,cc,h⟩
 obtain⟨va,vn,vc,rfl⟩:=kA;have b16:=Ja hX.1 16;have f16:=Jc hX.1 16;have hA:=Ja hX.1 18;have pA:=Jc hX.1 18;have nA:=Ja hX.1 19;have rA:=Jc hX.1 19;simp only[mC,List.getElem?_toArray,List.getElem?_cons_succ,List.getElem?_cons_zero]at b16 hA nA;have dA:s.calls.length=n+1:=by rw[HT.o,length_cons,hn]
 have hn1:=HL.o;rw[dA]at hn1;have wk:IntKind.i64.wrap ((n:Int)+1-1)=(n:Int):=by rw[IntWalk.i64_in _ zo];omega
 have qA:IntKind.i64.wrap (((n+1:Nat):Int)-1)=(n:Int):=by rw[IntWalk.i64_in _ zo];omega
 have iA:wrap64 (n:Int)=(n:Int):=IntWalk.wrap64_in _ zo;have k0:(0:Int)<=(n:Int):=zo;have k1:(n:Int)<((n+1:Nat):Int):=zo;have k2:(n:Int)<(n:Int)+1:=zo;have k3:(n:Int)<=(c:Int):=zo;have k4:n<=c:=zo;have hp1:p≠g:=λe=>YZ xA hX.1 zp (by rw[e];rfl)
 have HFIN:∀W:World,(W=((w1.drew.setCell ⟨p,16,none⟩ (Iv (q:Nat))).setCell ⟨p,18,none⟩ (.slice fa fn fc)).setCell ⟨p,19,none⟩ (.slice (some ⟨g,0,none⟩) n c))->MSt K w p { s with pc:=q,vars:=vs,calls:=cl } W:=by
  intro W hW;have hst:=HS.o.drew;have hc1:Below (p-1) w1.drew W:=by rw[hW];exact((zO.setCell zq _).setCell zq _).setCell zq _
  have hc2:TFr w1.drew W:=by
   rw[hW];exact((TFr.set (w:=w1.drew) hX.1).trans (TFr.set (Jm (w:=w1.drew) hX.1 16 _))).trans (TFr.set (Jm (Jm (w:=w1.drew) hX.1 16 _) 18 _))
  refine hst.next ⟨sv,.slice fa fn fc,.slice (some ⟨g,0,none⟩) n c,fr',?_,?_⟩ hc1 hc2
  ·rw[hW];exact Jm (Jm (Jm (w:=w1.drew) hX.1 16 _) 18 _) 19 _
  ·have uA:∀{e sz n:Nat} {v:Value} {xs:List Value},76≠e->w1.ownsRow (p-1) e sz v n xs->W.ownsRow (p-1) e sz v n xs:=by
    intro e sz n v xs he h;rw[hW];exact KT (KT (KT (w:=w1.drew) h.drew hX.1 he _) (Jm (w:=w1.drew) hX.1 16 _) he _) (Jm (Jm (w:=w1.drew) hX.1 16 _) 18 _) he _
   have hd:=List.pairwise_cons.1 zA;have gA:=List.pairwise_cons.1 hd.2;refine⟨uA zp hX.2.st,uA zp bA,?_,hf2.keep (row:=none) (λ_ _ _ _ _ he h' _=>uA (λe=>he e.symm) h') λ_ _ _ _=>by simp,List.pairwise_cons.2 ⟨λv hv=>hd.1 v (List.mem_cons_of_mem _ hv),gA.2⟩⟩;have:=JcP xA (m:=n) zo;rw[List.take_append_of_le_length zo,List.take_of_length_le zo,<- cA]at this;rw[hn];exact uA zp this
 have yA:=Zh HFIN;clear HFIN hk1 aA cA bA hf2 eA zA xA hX hn dA hn1 y0 y1 y2;go_wp2_with fail;simp only[iA];go_region;go_wp2;go_end0;rw[HR.o];exact(yA.o _ rfl).fin
def TkB(t:Tok):Prop:=(0<=t.n/\t.n<=1125899906842624)/\(t.kind=2->QcD t.text=true)
def Tk(r:List Tok):Prop:=∀t∈r,TkB t
def Tk.tail{r:List Tok}(h:Tk r):Tk r.tail:=λt ht=>h t (List.mem_of_mem_tail ht)
def Tk.hd{r:List Tok}(h:Tk r):TkB (hd r):=by
 cases r with
 |nil=>exact⟨⟨by decide,by decide⟩,λh=>absurd h zp⟩
 |cons a l=>exact h a zq
def ar0(k:Int):Nat:=if k<=5 then 0 else if k=6\/k=7 then 1 else if k=18 then 3 else 2
def QcU(fs:List QaN)(vars:List Int)(t:Int)(a:Nd)(l:List Nd):Qbp fs vars t (a::l)=(ofN fs vars a).2++(if (ofN fs vars a).1≠t then [a.off] else [])++Qbp fs vars t l:=by rw[Qbp]
def Jap(fs:List QaN)(vars:List Int)(b:Bool)(ps:List Int)(a:Nd)(l:List Nd):QcX fs vars b ps (a::l)=(ofN fs vars a).2++(if b=true/\(ofN fs vars a).1≠ps.headD 0 then [a.off] else [])++QcX fs vars b ps.tail l:=by rw[QcX]
def z0(l:List Int):List Int:=l.map λ_=>0
def VZ{fs:List QaN}{vars:List Int}{t:Int}:∀{l:List Nd},Qbp fs vars t l=[]->∀a∈l,(ofN fs vars a).2=[]
 |[],_,a,ha=>by cases ha
 |x::l,h,a,ha=>by
  rw[QcU]at h;simp only[append_eq_nil_iff]at h
  rcases List.mem_cons.1 ha with rfl|ha
  ·exact h.1.1
  ·exact VZ h.2 a ha
def JcY{fs:List QaN}{vars:List Int}{b:Bool}:∀{l:List Nd} {ps:List Int},QcX fs vars b ps l=[]->∀a∈l,(ofN fs vars a).2=[]
 |[],_,_,a,ha=>by cases ha
 |x::l,ps,h,a,ha=>by
  rw[Jap]at h;simp only[append_eq_nil_iff]at h
  rcases List.mem_cons.1 ha with rfl|ha
  ·exact h.1.1
  ·exact JcY h.2 a ha
def Jem{fs:List QaN}{vars:List Int}{k n:Int}{s:By}{o:Int}{l:List Nd}(h:(ofN fs vars (.mk k n s o l)).2=[])(h19:k≠19)(hk:0<=k/\k<21)(hl:k≠20->l.length=ar0 k):∀a∈l,(ofN fs vars a).2=[]:=by
 by_cases h5:k<=5
 ·have:=hl zo;unfold ar0 at this;rw[if_pos h5]at this;obtain rfl:=List.eq_nil_of_length_eq_zero this;intro a ha
  cases ha
 rw[Zd,if_neg zo,if_neg zo,if_neg zo]at h
 by_cases h4:k=6\/(8<=k/\k<=12)
 ·rw[if_pos h4]at h;exact VZ h
 rw[if_neg h4]at h
 by_cases h6:k=13\/k=14
 ·rw[if_pos h6]at h;exact VZ h
 rw[if_neg h6]at h
 by_cases h7:k=15
 ·subst h7;rw[if_pos rfl]at h
  match l,hl zp,h with
  |[a,b],_,h=>
   simp only[append_eq_nil_iff]at h;intro x hx;simp at hx
   rcases hx with rfl|rfl
   ·exact h.1.1
   ·exact h.1.2
 rw[if_neg h7]at h
 by_cases h8:k=7\/k=16\/k=17
 ·rw[if_pos h8]at h;exact VZ h
 rw[if_neg h8]at h
 by_cases h9:k=18
 ·subst h9;rw[if_pos rfl]at h
  match l,hl zp,h with
  |[c,a,b],_,h=>
   simp only[append_eq_nil_iff]at h;intro x hx;simp at hx
   rcases hx with rfl|rfl|rfl
   ·exact h.1.1.1.1
   ·exact h.1.1.2
   ·exact h.1.2
 rw[if_neg h9,if_neg h19,if_pos zo]at h;simp only[append_eq_nil_iff]at h;exact JcY h.2
def JnY{pa:List Nat}{k n:Int}(hk:0<=k/\k<21)(h:k≠20):QaM pa k n=ar0 k:=by
 unfold QaM ar0
 by_cases h5:k<=5
 ·rw[if_pos zo,if_pos h5]
 ·rw[if_neg zo,if_neg h5];split
  ·rfl
  ·split
   ·rfl
   ·rfl
def opE(k:Int)(l:List Exp):Exp:=.mk k 0 [] l
def Qkp(a:Exp):Exp:=opE 7 [a]
def RN.bind_val{α β:Type}(a:α)(u:Nat)(f:α->Nat->RN β):(RN.val a u).bind f=f a u:=rfl
def JiD{fs:List QaN}{n:Int}{s:By}{o:Int}{l:List Nd}{t:Int}{k:Int}(hk:k=7\/k=16\/k=17)(h:ofN fs [] (.mk k n s o l)=(t,[])):∀a∈l,ofN fs [] a=(1,[]):=by
 rw[Zd,if_neg zo,if_neg zo,if_neg zo,if_neg zo,if_neg zo,if_neg zo,if_pos hk]at h;simp only[Prod.mk.injEq]at h;have h2:=J9 h.2;clear h
 induction l with
 |nil=>intro a ha;cases ha
 |cons x r ih=>
  intro a ha;rw[List.length_cons,List.replicate_succ]at h2
  rcases List.mem_cons.1 ha with rfl|ha
  ·exact h2.1
  ·exact ih h2.2 a ha
def ty1{fs:List QaN}{t:Int}{a:Exp}(h:ofN fs [] (utN (Qkp a))=(t,[])):ofN fs [] (utN a)=(1,[]):=by
 unfold Qkp opE at h;rw[utN,utL,utL]at h;exact JiD (.inl rfl) h _ zq
def QeF.at0{w:World}{ad:Option Addr}{l:List Exp}(h:QeF w ad l)(hne:l≠[]):∃b o,ad=some ⟨b,o,none⟩/\b<w.heap.size/\∀i y,l[i]?=some y->∃dy cy,
  XAt w (In w) y #[Iv y.kind,Iv y.num,.string (bs y.name),.slice dy y.kids.length cy]/\∀W,Bel w W->W.cell? ⟨b,o+i*4,none⟩=some (Iv y.kind)/\W.cell? ⟨b,o+i*4+1,none⟩=some (Iv y.num)/\W.cell? ⟨b,o+i*4+2,none⟩=some (.string (bs y.name))/\W.cell? ⟨b,o+i*4+3,none⟩=some (.slice dy y.kids.length cy):=by
 obtain⟨b,o,h1,h2,h3⟩:=h hne;refine⟨b,o,h1,h2,λi y hi=>?_⟩;obtain⟨d,h4,h5⟩:=h3 i y hi;obtain⟨da,dc,rfl,_⟩:=h4.form;refine⟨da,dc,h4,λW hW=>?_⟩;have hc:∀j u,_->W.cell? ⟨b,o+i*4+j,none⟩=some u:=λj u hu=>(hW.cell (p:=⟨b,o+i*4+j,none⟩) h2).trans (h5 j u hu)
 exact⟨hc 0 _ rfl,hc 1 _ rfl,hc 2 _ rfl,hc 3 _ rfl⟩
def Jdb{pa:List Nat}{vars Qag:Nat}{k:Int}(hk:k≠19):∀{l:List Exp} {i:Nat},QaB pa vars Qag k i l=true->∀y∈l,QaK pa vars Qag y=true
 |[],i,h,y,hy=>by cases hy
 |a::l,i,h,y,hy=>by
  rw[QaB,if_neg λh=>hk h.1]at h;simp only[Bool.and_eq_true]at h
  rcases List.mem_cons.1 hy with rfl|hy
  ·exact h.1
  ·exact Jdb hk h.2 y hy
def evK(K:Qbw)(d:Nat)(vars:List Int)(u:Nat)(e:Exp):RN Int:=evN (Qcb K.r.funcs K.F d) K.F vars u e
structure EvH(K:Qbw)(c:Nat)(e:Exp)(cs:Array Value)(vars types:List Int)(vv:Value)(Qag:Nat)(t:Int)(W:World)(u:Nat):Prop where
 nm:NmN e
 sz:vars.length+siz (utN e)<=900000000
 x:XAt K.w0 (In K.w0) e cs
 fit:QaK (QbP K.r.sigs) types.length Qag e=true
 ty:ofN K.r.sigs types (utN e)=(t,[])
 vs:QdC types vars
 us:u<=10000
 at':Qcw K W u c
 ints:Qbo W K.p vv vars
def EvH.ok{K:Qbw}(hk:K.Ok){c:Nat}{e:Exp}{cs:Array Value}{vars types:List Int}{vv:Value}{Qag:Nat}{t:Int}{W:World}{u:Nat}(h:EvH K c e cs vars types vv Qag t W u)(d:Nat):Qev (VOk t) u (evK K d vars u e):=
 KA hk.facts (YB hk.tr hk.ty hk.facts d) e types vars Qag u t h.fit h.ty h.vs h.us
def Jlp{pa:List Nat}{vars Qag:Nat}{k n:Int}{s:By}{l:List Exp}(h:QaK pa vars Qag (.mk k n s l)=true):(0<=k/\k<21)/\(k≠20->l.length=ar0 k):=by
 obtain⟨_,hf,ha,_⟩:=JI h
 have hk:0<=k/\k<21:=by
  unfold Qam at hf;simp only[Bool.and_eq_true,decide_eq_true_eq]at hf;exact⟨hf.1.2,hf.2⟩
 exact⟨hk,λh20=>by rw[ha,JnY hk h20]⟩
def EvH.kid{K:Qbw}{c:Nat}{k nn:Int}{s:By}{l:List Exp}{cs:Array Value}{vars types:List Int}{vv:Value}{Qag:Nat}{t:Int}{W:World}{u:Nat}(h:EvH K c (.mk k nn s l) cs vars types vv Qag t W u)(h19:k≠19){i:Nat}{y:Exp}(hi:l[i]?=some y)
  {d:Array Value} (hx:XAt K.w0 (In K.w0) y d) {W':World} {u':Nat} (hm:Qcw K W' u' c) (hc:Chg [K.p] W W') (hu:u'<=10000):EvH K c y d vars types vv (Qag-1) (ofN K.r.sigs types (utN y)).1 W' u':=by
 have hmem:=List.mem_of_getElem? hi;have hnm:=h.nm;unfold NmN at hnm;have hsz:=h.sz;rw[utN,JD]at hsz;have hs:=K6 hmem;obtain⟨_,_,_,hl⟩:=JI h.fit;obtain⟨hk,xA⟩:=Jlp h.fit;have yA:=h.ty;rw[utN]at yA;have zA:=Jem (fs:=K.r.sigs) (vars:=types) (by rw[yA]) h19 hk (λh20=>by rw[Jz];exact xA h20) (utN y) (by rw[JhM];exact List.mem_map.2 ⟨y,hmem,rfl⟩);exact⟨JhR hnm.2 y hmem,by omega,hx,Jdb h19 hl y hmem,Prod.ext rfl zA,h.vs,hu,hm,h.ints.chg hc⟩
section
variable {K:Qbw}{c:Nat}{nn:Int}{s:By}{a b:Exp}{cs:Array Value}{vars types:List Int}{vv:Value}{Qag:Nat}{t:Int}{W:World}{u:Nat}(h:EvH K c (.mk 19 nn s [a,b]) cs vars types vv Qag t W u)
include K c nn s a b cs vars types vv Qag t W u h
theorem EvH.let1
  {d:Array Value} (hx:XAt K.w0 (In K.w0) a d) {W':World} {u':Nat} (hm:Qcw K W' u' c) (hc:Chg [K.p] W W') (hu:u'<=10000):EvH K c a d vars types vv (Qag-1) (ofN K.r.sigs types (utN a)).1 W' u':=by
 have hnm:=h.nm;unfold NmN NmL at hnm;have hsz:=h.sz;rw[utN,JD,utL,Ju]at hsz;obtain⟨_,_,_,hl⟩:=JI h.fit;have yA:=Kb hl;have xA:=h.ty;rw[utN,utL,utL,utL,Zd]at xA;simp at xA;exact⟨hnm.2.1,by omega,hx,yA.1,Prod.ext rfl xA.2.1,h.vs,hu,hm,h.ints.chg hc⟩
end
section
variable (K:Qbw)(d:Nat)(vars:List Int)(u:Nat)
include K d vars u
def Qeq(l:List Exp):RN (List Int):=evL (Qcb K.r.funcs K.F d) K.F vars u l
theorem Jdc(a:Exp)(l:List Exp):Qeq K d vars u (a::l)=(evK K d vars u a).bind λv u'=>(Qeq K d vars u' l).bind λvs u''=>.val (v::vs) u'':=by
 unfold Qeq evK;rw[evL]
theorem JkJ:Qeq K d vars u []=.val [] u:=by
 unfold Qeq;rw[evL]
end
end Go.Proofs.YtfafpklefknomaaGreatDoor
