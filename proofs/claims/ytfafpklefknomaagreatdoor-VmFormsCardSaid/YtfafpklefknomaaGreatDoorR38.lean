import Derived.Test.YtfafpklefknomaaGreatDoorR37
import Derived.Test.YtfafpklefknomaaGreatDoorR33
import Derived.Test.YtfafpklefknomaaGreatDoorR34
open List(getElem?_cons_succ getElem?_cons_zero getElem?_toArray)
open Nat(le_refl le_trans lt_of_lt_of_le)
namespace Go.Proofs.YtfafpklefknomaaGreatDoor
open Go Go.ChangeShapes Go.WideShapes Go.ChangeAt Go.RowKit Go.Lib
open _root_.Go.Proofs.Tryz
set_option linter.all false
set_option maxRecDepth 100000
set_option maxHeartbeats 32000000
theorem zR{P:Prop}(h:P:=by exact ⟨Ja (zA.o _ HD.o) 0,Ja (zA.o _ HD.o) 1,Ja (zA.o _ HD.o) 2,Ja (yA.o _ HD.o) 0,Ja (yA.o _ HD.o) 1,Ja (yA.o _ HD.o) 2,Ja (yA.o _ HD.o) 3,Ja (xA.o _ HD.o) 0,Ja (xA.o _ HD.o) 1,Ja (xA.o _ HD.o) 2,Ja (xA.o _ HD.o) 3,Ja (xA.o _ HD.o) 4,Ja (xA.o _ HD.o) 5,Ja (xA.o _ HD.o) 6,Ja (xA.o _ HD.o) 7,Ja (xA.o _ HD.o) 8,Ja (xA.o _ HD.o) 9,Ja (xA.o _ HD.o) 10,Ja (xA.o _ HD.o) 11⟩):P:=h
theorem zS{P:Prop}(h:P:=by exact ⟨Ja (zA.o _ HA.o) 0,Ja (zA.o _ HA.o) 1,Ja (zA.o _ HA.o) 2,Ja (yA.o _ HA.o) 0,Ja (yA.o _ HA.o) 1,Ja (yA.o _ HA.o) 2,Ja (yA.o _ HA.o) 3,Ja (xA.o _ HA.o) 0,Ja (xA.o _ HA.o) 1,Ja (xA.o _ HA.o) 2,Ja (xA.o _ HA.o) 3,Ja (xA.o _ HA.o) 4,Ja (xA.o _ HA.o) 5,Ja (xA.o _ HA.o) 6,Ja (xA.o _ HA.o) 7,Ja (xA.o _ HA.o) 8,Ja (xA.o _ HA.o) 9,Ja (xA.o _ HA.o) 10,Ja (xA.o _ HA.o) 11⟩):P:=h
theorem zT{P:Prop}(h:P:=by exact ⟨Ja (zA.o _ HBB.o) 0,Ja (zA.o _ HBB.o) 1,Ja (zA.o _ HBB.o) 2,Ja (yA.o _ HBB.o) 0,Ja (yA.o _ HBB.o) 1,Ja (yA.o _ HBB.o) 2,Ja (yA.o _ HBB.o) 3,Ja (xA.o _ HBB.o) 0,Ja (xA.o _ HBB.o) 1,Ja (xA.o _ HBB.o) 2,Ja (xA.o _ HBB.o) 3,Ja (xA.o _ HBB.o) 4,Ja (xA.o _ HBB.o) 5,Ja (xA.o _ HBB.o) 6,Ja (xA.o _ HBB.o) 7,Ja (xA.o _ HBB.o) 8,Ja (xA.o _ HBB.o) 9,Ja (xA.o _ HBB.o) 10,Ja (xA.o _ HBB.o) 11⟩):P:=h
theorem zd{P:Prop}(h:P:=by exact ⟨Ja (zA.o _ HCC.o) 0,Ja (zA.o _ HCC.o) 1,Ja (zA.o _ HCC.o) 2,Ja (yA.o _ HCC.o) 0,Ja (yA.o _ HCC.o) 1,Ja (yA.o _ HCC.o) 2,Ja (yA.o _ HCC.o) 3,Ja (xA.o _ HCC.o) 0,Ja (xA.o _ HCC.o) 1,Ja (xA.o _ HCC.o) 2,Ja (xA.o _ HCC.o) 3,Ja (xA.o _ HCC.o) 4,Ja (xA.o _ HCC.o) 5,Ja (xA.o _ HCC.o) 6,Ja (xA.o _ HCC.o) 7,Ja (xA.o _ HCC.o) 8,Ja (xA.o _ HCC.o) 9,Ja (xA.o _ HCC.o) 10,Ja (xA.o _ HCC.o) 11⟩):P:=h
theorem ze{P:Prop}(h:P:=by exact ⟨Ja (zA.o _ uA.o) 0,Ja (zA.o _ uA.o) 1,Ja (zA.o _ uA.o) 2,Ja (yA.o _ uA.o) 0,Ja (yA.o _ uA.o) 1,Ja (yA.o _ uA.o) 2,Ja (yA.o _ uA.o) 3,Ja (xA.o _ uA.o) 0,Ja (xA.o _ uA.o) 1,Ja (xA.o _ uA.o) 2,Ja (xA.o _ uA.o) 3,Ja (xA.o _ uA.o) 4,Ja (xA.o _ uA.o) 5,Ja (xA.o _ uA.o) 6,Ja (xA.o _ uA.o) 7,Ja (xA.o _ uA.o) 8,Ja (xA.o _ uA.o) 9,Ja (xA.o _ uA.o) 10,Ja (xA.o _ uA.o) 11⟩):P:=h
def CV.mono{W:World}{p q:Nat}{c:Qaf}{d:Array Value}(h:CV W p c d)(hq:p<=q):CV W q c d:=by
 obtain⟨v0,v1,v2,v3,h0,h1,h2,h3,h4⟩:=h;exact⟨v0,v1,v2,v3,h0,Qan.keep (λ_ _=>rfl) (λb hb=>lt_of_lt_of_le hb hq) (λ_ _ h=>h) h1,Qan.keep (λ_ _=>rfl) (λb hb=>lt_of_lt_of_le hb hq) (λ_ _ h=>h) h2,Qan.keep (λ_ _=>rfl) (λb hb=>lt_of_lt_of_le hb hq) (λ_ _ h=>h) h3,Qan.keep (λ_ _=>rfl) (λb hb=>lt_of_lt_of_le hb hq) (λ_ _ h=>h) h4⟩
def VJ{r:Qah}(hz:RSz r)(h:(Qac r).ops.length<=40000000):QbI (Qac r):=by
 obtain⟨l1,l2,l3,_⟩:=JL r;have:=hz.nf;exact⟨by omega,by omega,by omega,by omega⟩
def CV.rows{W:World}{p:Nat}{c:Qaf}{x0 x1 x2 x3:Value}(h:CV W p c #[x0,x1,x2,x3]):Qgc W p x0 c.ops/\QbX W p x1 c.starts/\QbX W p x2 c.params/\QbX W p x3 c.slots:=by
 obtain⟨v0,v1,v2,v3,h0,h1,h2,h3,h4⟩:=h;simp at h0;obtain⟨rfl,rfl,rfl,rfl⟩:=h0;exact⟨h1,h2,h3,h4⟩
def QbX.mono{W:World}{p q:Nat}{v:Value}{l:List Int}(h:QbX W p v l)(hq:p<=q):QbX W q v l:=Qan.keep (λ_ _=>rfl) (λb hb=>lt_of_lt_of_le hb hq) (λ_ _ h=>h) h
def Qdq.mono{W:World}{p q:Nat}{v:Value}{l:List (By × Int)}(h:Qdq W p v l)(hq:p<=q):Qdq W q v l:=Qan.keep (λ_ _=>rfl) (λb hb=>lt_of_lt_of_le hb hq) (λ_ _ h=>h) h
def QcB.mono{W:World}{p q:Nat}{v:Value}{l:List By}(h:QcB W p v l)(hq:p<=q):QcB W q v l:=Qan.keep (λ_ _=>rfl) (λb hb=>lt_of_lt_of_le hb hq) (λ_ _ h=>h) h
def JiS{r:Qah}(hk:QeH r):(∀x∈(Qac r).starts,0<=x)/\(∀x∈(Qac r).params,0<=x)/\∀x∈(Qac r).slots,0<=x/\x<=1000000000:=by
 refine⟨λx hx=>((JaV hk.right).starts x hx).1,λx hx=>?_,λx hx=>?_⟩
 ·rw[K7]at hx;obtain⟨n,_,rfl⟩:=List.mem_map.1 hx;omega
 ·obtain⟨i,hi⟩:=List.getElem?_of_mem hx;have hlt:=(List.getElem?_eq_some_iff.1 hi).1;rw[(JL r).2.2.1]at hlt
  by_cases e:i<r.funcs.length
  ·obtain⟨_,_,_,h2,_,_⟩:=YH e;rw[h2]at hi;have:=JbR hk (k:=i+1) zo;rw[Option.some.inj hi]at this;omega
  ·have e2:i=r.funcs.length:=zo;subst e2;have h2:=(YI r).1;rw[h2]at hi;have:=JbR hk (k:=0) (Nat.zero_le _);rw[Option.some.inj hi]at this;omega
def JmZ:hdl.all (λf=>match prog.funcs[f]? with|some fn=>!(fn.name=="runtime.NumGoroutine")&&!fn.body.isNone|none=>false)=true:=zk
def JkV{k:Nat}(hk:k<23)(args:Array Value)(w:World):(callFunc (hdl.getD k 0) args).run prog w=.ok (.enter (hdl.getD k 0) args) w:=by
 have hl:k<hdl.length:=hk
 have hm:hdl.getD k 0∈hdl:=by
  rw[List.getD_eq_getElem?_getD,List.getElem?_eq_getElem hl];exact List.getElem_mem hl
 have h:=List.all_eq_true.1 JmZ _ hm;generalize hdl.getD k 0=f at *
 cases hf:prog.funcs[f]? with
 |none=>rw[hf]at h;cases h
 |some fn=>
  rw[hf]at h;simp only[Bool.and_eq_true,Bool.not_eq_true']at h;unfold callFunc;have h1:¬fn.name="runtime.NumGoroutine":=by simpa using h.1
  have h2:¬fn.body=none:=by
   have:=h.2
   cases hb:fn.body with
   |none=>rw[hb]at this;cases this
   |some b=>simp
  simp[Sem.run_bind,Result.andThen,hf];rw[if_neg h1,if_neg h2]
def QbB(r:Qah)(q:Qaf)(F:Qaj):QeD:=if q=Qai r then QdM r F else⟨0,[],0,1⟩
def Joo(w:World)(o0 o1 o2 o3:Obj):Below w.heap.size w ((((w.alloc o0).alloc o1).alloc o2).alloc o3)/\((((w.alloc o0).alloc o1).alloc o2).alloc o3).heap[w.heap.size]?=some o0/\((((w.alloc o0).alloc o1).alloc o2).alloc o3).heap[w.heap.size+1]?=some o1/\
  ((((w.alloc o0).alloc o1).alloc o2).alloc o3).heap[w.heap.size+1+1]?=some o2/\((((w.alloc o0).alloc o1).alloc o2).alloc o3).heap[w.heap.size+1+1+1]?=some o3:=by
 have h0:=zQ w o0;have h1:=zQ (w.alloc o0) o1;have h2:=zQ ((w.alloc o0).alloc o1) o2;have h3:=zQ (((w.alloc o0).alloc o1).alloc o2) o3;simp only[World.size_alloc]at h1 h2 h3;exact⟨(((zO.alloc zP _).alloc (by simp only[World.size_alloc];omega) _).alloc (by simp only[World.size_alloc];omega) _).alloc (by simp only[World.size_alloc];omega) _,Jf (Jf (Jf h0)),Jf (Jf h1),Jf h2,h3⟩
theorem Qiw{P:Prop}(h:P:=by
  exact(((hb.setCell (by simpa using HOB.o) _).setCell (by simpa using HOB.o) _).setCell (by simpa using HOB.o) _).setCell (by simpa using HOB.o) _):P:=h
def KM(r:Qah)(F:Qaj)(q:Qaf)(rc d:Array Value)(lv wv:Value)(p:Nat)(w:World)(hx:QaV w (In w) r rc)(hz:RSz r)(hsh:Qat r=true->(Qac r).ops.length<=40000000)(hF:FSz F)(hl:Qbx w lv F.labels)(hw:QaT w wv F.words)(hp:p<=w.heap.size)(hd:CV w p q d)(hq:QbI q) :
  Calls prog 12 #[.agg rc,.agg d,.agg (QaI F lv wv)] w (Qfk w (QbB r q F)):=by
 obtain⟨R,hR⟩:∃R,Qfk w (QbB r q F)=R:=⟨_,rfl⟩
 rw[hR];have HR:Hi (R=Qfk w (QbB r q F)):=hR.symm;have eC:=hd;have rB:=hx;obtain⟨a0,c0,a1,c1,a2,c2,a3,c3,rfl,g0,g1,g2,g3⟩:=hd.g;obtain⟨fa,fc,ca,cc,rfl,_,_⟩:=hx.parts;obtain⟨la,lc,rfl,_⟩:=hl.form;obtain⟨wa,wc,rfl,_⟩:=hw.form;obtain⟨n0,hn0⟩:∃n,q.ops.length=n:=⟨_,rfl⟩
 obtain⟨n1,hn1⟩:∃n,q.starts.length=n:=⟨_,rfl⟩
 obtain⟨n2,iC⟩:∃n,q.params.length=n:=⟨_,rfl⟩
 obtain⟨n3,uC⟩:∃n,q.slots.length=n:=⟨_,rfl⟩
 obtain⟨nf,uD⟩:∃n,r.funcs.length=n:=⟨_,rfl⟩
 obtain⟨nc,eD⟩:∃n,r.clauses.length=n:=⟨_,rfl⟩
 obtain⟨ln,qB⟩:∃n,F.labels.length=n:=⟨_,rfl⟩
 obtain⟨wn,tB⟩:∃n,F.words.length=n:=⟨_,rfl⟩
 rw[hn0,hn1,iC,uC]at eC |-;rw[uD,eD]at rB |-;rw[qB]at hl |-;rw[tB]at hw |-;unfold QaI;have hbx:=Joo w (.cells #[.slice fa nf fc,.slice ca nc cc,Iv r.action] 25) (.cells #[.slice a0 n0 c0,.slice a1 n1 c1,.slice a2 n2 c2,.slice a3 n3 c3] 31) (.cells #[.slice la ln lc,Iv F.likes,Iv F.boosts,Iv F.replies,Iv F.reports,Iv F.age,Iv F.home,Iv F.scope,Iv F.length,.bool F.follows,.bool F.reply,.slice wa wn wc] 45) (.cells #[Iv 0,Em,Iv 0,Iv 0] 48);have HB:=Zh hbx.1;have zA:=Zh (BxB.of hbx.2.1);have yA:=Zh (BxB.of hbx.2.2.1);have xA:=Zh (BxB.of hbx.2.2.2.1);have rA:=Zh (BxB.of hbx.2.2.2.2);have qC:=Zh rB;have HZ:=Zh hz;have bD:=Zh hsh;have pB:=Zh hF;have gD:=Zh hl;have pD:=Zh hw;have HCV:=Zh eC;have rD:=Zh hq;have HPS:=Zh hp;have eE:=Zh g0;have iE:=Zh g3;have HN:=Zh (And.intro hn0 (And.intro hn1 (And.intro iC uC)));have pE:=Zh (And.intro qB tB);clear hR hd eC hx rB hl hw hz hsh hF hp hq g0 g1 g2 g3 hn0 hn1 iC uC uD eD qB tB hbx;go_enter func12,ntmps12;go_upto_region 1 with fail
 try simp only[World.size_alloc]
 obtain⟨ob,vD⟩:∃ob,w.heap.size+1+1+1=ob:=⟨_,rfl⟩
 obtain⟨fb,jD⟩:∃fb,w.heap.size+1+1=fb:=⟨_,rfl⟩
 obtain⟨cb,hcb⟩:∃cb,w.heap.size+1=cb:=⟨_,rfl⟩
 obtain⟨rb,nD⟩:∃rb,w.heap.size=rb:=⟨_,rfl⟩
 rw[vD]at rA |-;rw[jD]at xA |-;rw[hcb]at yA |-;rw[nD]at zA |-;have HOB:Hi (w.heap.size<=ob):=by unfold Hi;omega
 clear vD jD hcb nD;generalize World.alloc (World.alloc (World.alloc (World.alloc w _) _) _) _=w1 at *;have HD:Hi (Below w1.heap.size w1 w1.drew):=zO.drew;have CR:=Zh λW (hb:Below w1.heap.size w1 W)=>KR r _ W (qC.o.up' (HB.o.trans (hb.mono HB.o.size))) HZ.o;have CF:=Zh λW (hb:Below w1.heap.size w1 W)=>Y3 F (.slice la ln lc) (.slice wa wn wc) W pB.o (gD.o.up (HB.o.trans (hb.mono HB.o.size))) (pD.o.up (HB.o.trans (hb.mono HB.o.size)));have CO:=Zh λW (hb:Below w1.heap.size w1 W)=>Ki r _ W (qC.o.up' (HB.o.trans (hb.mono HB.o.size))) HZ.o bD.o
 cases hrt:Qat r with
 |false=>
  have cr:=CR.o w1.drew HD.o;rw[hrt]at cr
  have HV:Hi (QbB r q F=⟨0,[],0,1⟩):=by
   unfold Hi QbB QdM;rw[hrt];split
   ·rw[if_neg zq]
   ·rfl
  clear hrt CR CF CO;refine wp_region_held_drew (S:=(λW=>W.cell? ⟨rb,0,none⟩=some (.slice fa nf fc)/\W.cell? ⟨rb,1,none⟩=some (.slice ca nc cc)/\W.cell? ⟨rb,2,none⟩=some (Iv r.action)/\W.cell? ⟨cb,0,none⟩=some (.slice a0 n0 c0)/\W.cell? ⟨cb,1,none⟩=some (.slice a1 n1 c1)/\W.cell? ⟨cb,2,none⟩=some (.slice a2 n2 c2)/\W.cell? ⟨cb,3,none⟩=some (.slice a3 n3 c3)/\W.cell? ⟨fb,0,none⟩=some (.slice la ln lc)/\W.cell? ⟨fb,1,none⟩=some (Iv F.likes)/\W.cell? ⟨fb,2,none⟩=some (Iv F.boosts)/\W.cell? ⟨fb,3,none⟩=some (Iv F.replies)/\W.cell? ⟨fb,4,none⟩=some (Iv F.reports)/\W.cell? ⟨fb,5,none⟩=some (Iv F.age)/\W.cell? ⟨fb,6,none⟩=some (Iv F.home)/\W.cell? ⟨fb,7,none⟩=some (Iv F.scope)/\W.cell? ⟨fb,8,none⟩=some (Iv F.length)/\W.cell? ⟨fb,9,none⟩=some (.bool F.follows)/\W.cell? ⟨fb,10,none⟩=some (.bool F.reply)/\W.cell? ⟨fb,11,none⟩=some (.slice wa wn wc))) zk zR λhH=>?_;refine zK 0 ?_
  try simp only[zX]
  refine ZS 1 rfl λK hK=>?_
  (go_simp;go_at_call 11;refine(cr).mono ?_;rintro e wA ⟨rfl,dA⟩)
  have HA:Hi (Below w1.heap.size w1 wA):=HD.o.trans (dA.mono HD.o.size);clear dA;refine zU hK zS λhH=>?_;clear hK K
  try simp only[zX]
  refine zK 2 ?_;try simp only[zX]
  refine zK 3 ?_;try simp only[zX]
  refine zL 4 ?_
  try simp only[zX]
  refine zL 5 ?_
  try simp only[zX]
  refine zL 6 ?_
  try simp only[zX]
  refine zK 7 ?_;try simp only[zX]
  refine zK 8 ?_;try simp only[zX]
  refine zL 9 ?_
  try simp only[zX]
  refine zL 10 ?_
  try simp only[zX]
  refine zL 11 ?_
  try simp only[zX]
  refine zL 12 ?_
  try simp only[zX]
  refine zL 13 ?_
  try simp only[zX]
  refine zK 14 ?_;try simp only[zX]
  refine wpAnyH_done zk ?_ _;have HQ:=Zh (rA.o _ HA.o);have q0:=Ja HQ.o 0;have q1:=Ja HQ.o 1;have q2:=Ja HQ.o 2;have q3:=Ja HQ.o 3;have f0:=Jc HQ.o 0;have f1:=Jc HQ.o 1;have f2:=Jc HQ.o 2;have f3:=Jc HQ.o 3;simp only[zW]at q0 q1 q2 q3;go_wp2;clear q0 q1 q2 q3 f0 f1 f2 f3;refine bodyPost_ret (v:=.agg #[Iv 0,Em,Iv 0,Iv 1]) (results_cell_row rfl _ _ ob 48 _ (0,0) _ rfl (Qer _ _ _ _ HQ.o) underlying48 rfl QdG) rfl ?_;rw[HR.o,HV.o];refine⟨rfl,?_⟩;have hb:=HB.o.trans (HA.o.mono HB.o.size);exact Qiw
 |true=>
 cases hfm:QaF F with
 |false=>
  have cr:=CR.o w1.drew HD.o;rw[hrt]at cr
  have HV:Hi (QbB r q F=⟨0,[],0,1⟩):=by
   unfold Hi QbB QdM;rw[hfm];split
   ·rw[if_neg zq]
   ·rfl
  clear hrt CR CO;refine wp_region_held_drew (S:=(λW=>W.cell? ⟨rb,0,none⟩=some (.slice fa nf fc)/\W.cell? ⟨rb,1,none⟩=some (.slice ca nc cc)/\W.cell? ⟨rb,2,none⟩=some (Iv r.action)/\W.cell? ⟨cb,0,none⟩=some (.slice a0 n0 c0)/\W.cell? ⟨cb,1,none⟩=some (.slice a1 n1 c1)/\W.cell? ⟨cb,2,none⟩=some (.slice a2 n2 c2)/\W.cell? ⟨cb,3,none⟩=some (.slice a3 n3 c3)/\W.cell? ⟨fb,0,none⟩=some (.slice la ln lc)/\W.cell? ⟨fb,1,none⟩=some (Iv F.likes)/\W.cell? ⟨fb,2,none⟩=some (Iv F.boosts)/\W.cell? ⟨fb,3,none⟩=some (Iv F.replies)/\W.cell? ⟨fb,4,none⟩=some (Iv F.reports)/\W.cell? ⟨fb,5,none⟩=some (Iv F.age)/\W.cell? ⟨fb,6,none⟩=some (Iv F.home)/\W.cell? ⟨fb,7,none⟩=some (Iv F.scope)/\W.cell? ⟨fb,8,none⟩=some (Iv F.length)/\W.cell? ⟨fb,9,none⟩=some (.bool F.follows)/\W.cell? ⟨fb,10,none⟩=some (.bool F.reply)/\W.cell? ⟨fb,11,none⟩=some (.slice wa wn wc))) zk zR λhH=>?_;refine zK 0 ?_
  try simp only[zX]
  refine ZS 1 rfl λK hK=>?_
  (go_simp;go_at_call 11;refine(cr).mono ?_;rintro e wA ⟨rfl,dA⟩)
  have HA:Hi (Below w1.heap.size w1 wA):=HD.o.trans (dA.mono HD.o.size);clear dA;refine zU hK zS λhH=>?_;clear hK K
  try simp only[zX]
  refine zK 2 ?_;try simp only[zX]
  refine zK 3 ?_;try simp only[zX]
  refine zK 4 ?_;try simp only[zX]
  refine ZS 5 rfl λK hK=>?_;have cf:=CF.o wA HA.o;unfold QaI at cf;rw[hfm]at cf
  (go_simp;go_at_call 13;refine cf.mono ?_;clear cf;rintro e wB ⟨rfl,jA⟩)
  have HBB:Hi (Below w1.heap.size w1 wB):=HA.o.trans (jA.mono HA.o.size);clear jA;refine zU hK zT λhH=>?_;clear hK K
  try simp only[zX]
  refine zK 6 ?_;try simp only[zX]
  refine zK 7 ?_;try simp only[zX]
  refine zK 8 ?_;try simp only[zX]
  refine zL 9 ?_
  try simp only[zX]
  refine zL 10 ?_
  try simp only[zX]
  refine zL 11 ?_
  try simp only[zX]
  refine zL 12 ?_
  try simp only[zX]
  refine zL 13 ?_
  try simp only[zX]
  refine zK 14 ?_;try simp only[zX]
  refine wpAnyH_done zk ?_ _;have HQ:=Zh (rA.o _ HBB.o);have q0:=Ja HQ.o 0;have q1:=Ja HQ.o 1;have q2:=Ja HQ.o 2;have q3:=Ja HQ.o 3;have f0:=Jc HQ.o 0;have f1:=Jc HQ.o 1;have f2:=Jc HQ.o 2;have f3:=Jc HQ.o 3;simp only[zW]at q0 q1 q2 q3;go_wp2;clear q0 q1 q2 q3 f0 f1 f2 f3;refine bodyPost_ret (v:=.agg #[Iv 0,Em,Iv 0,Iv 1]) (results_cell_row rfl _ _ ob 48 _ (0,0) _ rfl (Qer _ _ _ _ HQ.o) underlying48 rfl QdG) rfl ?_;rw[HR.o,HV.o];refine⟨rfl,?_⟩;have hb:=HB.o.trans (HBB.o.mono HB.o.size);exact Qiw
 |true=>
 have HCM:Hi (Qai r=Qac r):=by unfold Hi Qai;rw[if_pos hrt]
 have eA:=bD.o hrt
 by_cases hqc:q=Qai r
 rotate_left
 ·have cr:=CR.o w1.drew HD.o;rw[hrt]at cr
  have HV:Hi (QbB r q F=⟨0,[],0,1⟩):=by
   unfold Hi QbB;rw[if_neg hqc]
  have gB:decide (q=Qai r)=false:=zH hqc;clear hrt CR hqc;refine wp_region_held_drew (S:=(λW=>W.cell? ⟨rb,0,none⟩=some (.slice fa nf fc)/\W.cell? ⟨rb,1,none⟩=some (.slice ca nc cc)/\W.cell? ⟨rb,2,none⟩=some (Iv r.action)/\W.cell? ⟨cb,0,none⟩=some (.slice a0 n0 c0)/\W.cell? ⟨cb,1,none⟩=some (.slice a1 n1 c1)/\W.cell? ⟨cb,2,none⟩=some (.slice a2 n2 c2)/\W.cell? ⟨cb,3,none⟩=some (.slice a3 n3 c3)/\W.cell? ⟨fb,0,none⟩=some (.slice la ln lc)/\W.cell? ⟨fb,1,none⟩=some (Iv F.likes)/\W.cell? ⟨fb,2,none⟩=some (Iv F.boosts)/\W.cell? ⟨fb,3,none⟩=some (Iv F.replies)/\W.cell? ⟨fb,4,none⟩=some (Iv F.reports)/\W.cell? ⟨fb,5,none⟩=some (Iv F.age)/\W.cell? ⟨fb,6,none⟩=some (Iv F.home)/\W.cell? ⟨fb,7,none⟩=some (Iv F.scope)/\W.cell? ⟨fb,8,none⟩=some (Iv F.length)/\W.cell? ⟨fb,9,none⟩=some (.bool F.follows)/\W.cell? ⟨fb,10,none⟩=some (.bool F.reply)/\W.cell? ⟨fb,11,none⟩=some (.slice wa wn wc))) zk zR λhH=>?_;refine zK 0 ?_
  try simp only[zX]
  refine ZS 1 rfl λK hK=>?_
  (go_simp;go_at_call 11;refine(cr).mono ?_;rintro e wA ⟨rfl,dA⟩)
  have HA:Hi (Below w1.heap.size w1 wA):=HD.o.trans (dA.mono HD.o.size);clear dA;refine zU hK zS λhH=>?_;clear hK K
  try simp only[zX]
  refine zK 2 ?_;try simp only[zX]
  refine zK 3 ?_;try simp only[zX]
  refine zK 4 ?_;try simp only[zX]
  refine ZS 5 rfl λK hK=>?_;have cf:=CF.o wA HA.o;unfold QaI at cf;rw[hfm]at cf
  (go_simp;go_at_call 13;refine cf.mono ?_;clear cf;rintro e wB ⟨rfl,jA⟩)
  have HBB:Hi (Below w1.heap.size w1 wB):=HA.o.trans (jA.mono HA.o.size);clear jA;refine zU hK zT λhH=>?_;clear hK K
  try simp only[zX]
  refine zK 6 ?_;try simp only[zX]
  refine zK 7 ?_;try simp only[zX]
  refine zK 8 ?_;try simp only[zX]
  refine zK 9 ?_;try simp only[zX]
  refine zK 10 ?_;try simp only[zX]
  refine ZS 11 rfl λK hK=>?_;have bB:=CO.o wB HBB.o
  (go_simp;go_at_call 10;refine bB.mono ?_;clear bB;rintro e wC ⟨dd,rfl,zB,mA⟩)
  have HCC:Hi (Below w1.heap.size w1 wC):=HBB.o.trans (mA.mono HBB.o.size);have kB:=Zh zB;clear mA zB;refine zU hK zd λhH=>?_;clear hK K
  try simp only[zX]
  refine ZS 12 rfl λK hK=>?_;have cs:=JcT q (Qai r) rD.o (by rw[HCM.o];exact VJ HZ.o eA) wC.heap.size wC zP _ dd ((HCV.o.up (HB.o.mono HPS.o |>.trans (HCC.o.mono (le_trans HPS.o HB.o.size)))).mono (le_trans HPS.o (le_trans HB.o.size HCC.o.size))) kB.o;rw[gB]at cs
  (go_simp;go_at_call 29;refine cs.mono ?_;clear cs;rintro e wE ⟨rfl,vB⟩)
  have uA:Hi (Below w1.heap.size w1 wE):=HCC.o.trans (vB.mono HCC.o.size);clear vB;refine zU hK ze λhH=>?_;clear hK K
  try simp only[zX]
  refine zK 13 ?_;try simp only[zX]
  refine zK 14 ?_;try simp only[zX]
  refine wpAnyH_done zk ?_ _;have HQ:=Zh (rA.o _ uA.o);have q0:=Ja HQ.o 0;have q1:=Ja HQ.o 1;have q2:=Ja HQ.o 2;have q3:=Ja HQ.o 3;have f0:=Jc HQ.o 0;have f1:=Jc HQ.o 1;have f2:=Jc HQ.o 2;have f3:=Jc HQ.o 3;simp only[zW]at q0 q1 q2 q3;go_wp2;clear q0 q1 q2 q3 f0 f1 f2 f3;refine bodyPost_ret (v:=.agg #[Iv 0,Em,Iv 0,Iv 1]) (results_cell_row rfl _ _ ob 48 _ (0,0) _ rfl (Qer _ _ _ _ HQ.o) underlying48 rfl QdG) rfl ?_;rw[HR.o,HV.o];refine⟨rfl,?_⟩;have hb:=HB.o.trans (uA.o.mono HB.o.size);exact Qiw
 ·have cr:=CR.o w1.drew HD.o;rw[hrt]at cr
  have HV:Hi (QbB r q F=QdM r F):=by
   unfold Hi QbB;rw[if_pos hqc]
  have gB:decide (q=Qai r)=true:=zG hqc;have qA:Hi (q=Qac r):=hqc.trans HCM.o;have xC:=Zh hrt;have HFM:=Zh hfm;clear hrt CR hqc;refine wp_region_held_drew (S:=(λW=>W.cell? ⟨rb,0,none⟩=some (.slice fa nf fc)/\W.cell? ⟨rb,1,none⟩=some (.slice ca nc cc)/\W.cell? ⟨rb,2,none⟩=some (Iv r.action)/\W.cell? ⟨cb,0,none⟩=some (.slice a0 n0 c0)/\W.cell? ⟨cb,1,none⟩=some (.slice a1 n1 c1)/\W.cell? ⟨cb,2,none⟩=some (.slice a2 n2 c2)/\W.cell? ⟨cb,3,none⟩=some (.slice a3 n3 c3)/\W.cell? ⟨fb,0,none⟩=some (.slice la ln lc)/\W.cell? ⟨fb,1,none⟩=some (Iv F.likes)/\W.cell? ⟨fb,2,none⟩=some (Iv F.boosts)/\W.cell? ⟨fb,3,none⟩=some (Iv F.replies)/\W.cell? ⟨fb,4,none⟩=some (Iv F.reports)/\W.cell? ⟨fb,5,none⟩=some (Iv F.age)/\W.cell? ⟨fb,6,none⟩=some (Iv F.home)/\W.cell? ⟨fb,7,none⟩=some (Iv F.scope)/\W.cell? ⟨fb,8,none⟩=some (Iv F.length)/\W.cell? ⟨fb,9,none⟩=some (.bool F.follows)/\W.cell? ⟨fb,10,none⟩=some (.bool F.reply)/\W.cell? ⟨fb,11,none⟩=some (.slice wa wn wc))) zk zR λhH=>?_;refine zK 0 ?_
  try simp only[zX]
  refine ZS 1 rfl λK hK=>?_
  (go_simp;go_at_call 11;refine(cr).mono ?_;rintro e wA ⟨rfl,dA⟩)
  have HA:Hi (Below w1.heap.size w1 wA):=HD.o.trans (dA.mono HD.o.size);clear dA;refine zU hK zS λhH=>?_;clear hK K
  try simp only[zX]
  refine zK 2 ?_;try simp only[zX]
  refine zK 3 ?_;try simp only[zX]
  refine zK 4 ?_;try simp only[zX]
  refine ZS 5 rfl λK hK=>?_;have cf:=CF.o wA HA.o;unfold QaI at cf;rw[hfm]at cf
  (go_simp;go_at_call 13;refine cf.mono ?_;clear cf;rintro e wB ⟨rfl,jA⟩)
  have HBB:Hi (Below w1.heap.size w1 wB):=HA.o.trans (jA.mono HA.o.size);clear jA;refine zU hK zT λhH=>?_;clear hK K
  try simp only[zX]
  refine zK 6 ?_;try simp only[zX]
  refine zK 7 ?_;try simp only[zX]
  refine zK 8 ?_;try simp only[zX]
  refine zK 9 ?_;try simp only[zX]
  refine zK 10 ?_;try simp only[zX]
  refine ZS 11 rfl λK hK=>?_;have bB:=CO.o wB HBB.o
  (go_simp;go_at_call 10;refine bB.mono ?_;clear bB;rintro e wC ⟨dd,rfl,zB,mA⟩)
  have HCC:Hi (Below w1.heap.size w1 wC):=HBB.o.trans (mA.mono HBB.o.size);have kB:=Zh zB;clear mA zB;refine zU hK zd λhH=>?_;clear hK K
  try simp only[zX]
  refine ZS 12 rfl λK hK=>?_;have cs:=JcT q (Qai r) rD.o (by rw[HCM.o];exact VJ HZ.o eA) wC.heap.size wC zP _ dd ((HCV.o.up (HB.o.mono HPS.o |>.trans (HCC.o.mono (le_trans HPS.o HB.o.size)))).mono (le_trans HPS.o (le_trans HB.o.size HCC.o.size))) kB.o;rw[gB]at cs
  (go_simp;go_at_call 29;refine cs.mono ?_;clear cs;rintro e wE ⟨rfl,vB⟩)
  have uA:Hi (Below w1.heap.size w1 wE):=HCC.o.trans (vB.mono HCC.o.size);clear vB;refine zU hK ze λhH=>?_;clear hK K
  try simp only[zX]
  refine zK 13 ?_;try simp only[zX]
  refine zK 14 ?_;try simp only[zX]
  refine wpAnyH_done zk ?_ _;clear gB hfm cr CF CO kB;obtain⟨l1,l2,l3,l4⟩:=JL r;obtain⟨nz,rfl⟩:∃nz,n3=nz+1:=⟨r.funcs.length,by have h:=HN.o.2.2.2;rw[qA.o,l3]at h;omega⟩
  have hnz:nz=r.funcs.length:=by have h:=HN.o.2.2.2;rw[qA.o,l3]at h;omega
  obtain⟨sl,_⟩:=YI r;have sB:QeH r:=⟨xC.o,eA,HZ.o.nf,λf hf=>(HZ.o.fn f hf).2.1⟩
  have yC:=JbR sB (k:=0) (Nat.zero_le _);obtain⟨z,hz⟩:∃z:Nat,QbK (Qac r) 0=(z:Int):=⟨(QbK (Qac r) 0).toNat,by omega⟩
  rw[hz]at sl yC;rw[<- hnz,<- qA.o]at sl;obtain⟨b3,o3,rfl,k3⟩:=iE.o nz _ sl;have KZ:Hi (∀W,Below w1.heap.size w1 W->W.cell? ⟨b3,o3+nz,none⟩=some (Iv (z:Nat))):=λW hW=>k3 _ (HB.o.mono HPS.o |>.trans (hW.mono (le_trans HPS.o HB.o.size)))
  have mB:=HZ.o.nf;have tE:IntKind.i64.wrap ((nz:Int)+1-1)=(nz:Int):=by rw[IntWalk.i64_in _ zo];omega
  have rE:IntKind.i64.wrap (((nz+1:Nat):Int)-1)=(nz:Int):=by rw[IntWalk.i64_in _ zo];omega
  have nE:IntKind.i64.wrap (nz:Int)=(nz:Int):=IntWalk.i64_in _ zo;have mE:wrap64 (nz:Int)=(nz:Int):=IntWalk.wrap64_in _ zo;have j0:0<=(nz:Int):=Int.natCast_nonneg nz;have j1:(nz:Int)<((nz+1:Nat):Int):=Int.ofNat_lt.2 (Nat.lt_succ_self nz);have j2:(nz:Int)<(nz:Int)+1:=Int.lt_add_one_of_le (Int.le_refl _);have vE:=QdZ z zo;have mD:=Zh (And.intro hz yC);have nB:=Zh sB;have HNZ:=Zh hnz;clear hz yC sB hnz k3 l1 l2 l3 l4 sl mB eA;go_upto_region 3 with fail;have vA:Hi (Below w1.heap.size w1 wE.drew):=uA.o.drew;refine LB (λW=>W.cell? ⟨cb,0,none⟩=some (.slice a0 n0 c0)/\W.cell? ⟨cb,1,none⟩=some (.slice a1 n1 c1)/\W.cell? ⟨cb,2,none⟩=some (.slice a2 n2 c2)/\W.cell? ⟨cb,3,none⟩=some (.slice (some ⟨b3,o3,none⟩) (nz+1) c3)/\W.cell? ⟨fb,0,none⟩=some (.slice la ln lc)/\W.cell? ⟨fb,1,none⟩=some (Iv F.likes)/\W.cell? ⟨fb,2,none⟩=some (Iv F.boosts)/\W.cell? ⟨fb,3,none⟩=some (Iv F.replies)/\W.cell? ⟨fb,4,none⟩=some (Iv F.reports)/\W.cell? ⟨fb,5,none⟩=some (Iv F.age)/\W.cell? ⟨fb,6,none⟩=some (Iv F.home)/\W.cell? ⟨fb,7,none⟩=some (Iv F.scope)/\W.cell? ⟨fb,8,none⟩=some (Iv F.length)/\W.cell? ⟨fb,9,none⟩=some (.bool F.follows)/\W.cell? ⟨fb,10,none⟩=some (.bool F.reply)/\W.cell? ⟨fb,11,none⟩=some (.slice wa wn wc)/\W.cell? ⟨b3,o3+nz,none⟩=some (Iv (z:Nat))) 13 ⟨Ja (yA.o _ vA.o) 0,Ja (yA.o _ vA.o) 1,Ja (yA.o _ vA.o) 2,Ja (yA.o _ vA.o) 3,Ja (xA.o _ vA.o) 0,Ja (xA.o _ vA.o) 1,Ja (xA.o _ vA.o) 2,Ja (xA.o _ vA.o) 3,Ja (xA.o _ vA.o) 4,Ja (xA.o _ vA.o) 5,Ja (xA.o _ vA.o) 6,Ja (xA.o _ vA.o) 7,Ja (xA.o _ vA.o) 8,Ja (xA.o _ vA.o) 9,Ja (xA.o _ vA.o) 10,Ja (xA.o _ vA.o) 11,KZ.o _ vA.o⟩ λhH=>?_
  clear uA;generalize wE.drew=wD at *;refine LK 0 rfl ?_;refine LK 1 rfl ?_;refine LK 2 rfl ?_;refine LK 3 rfl ?_;refine LK 4 rfl ?_;refine LK 5 rfl ?_;refine LK 6 rfl ?_;refine LK 7 rfl ?_;refine LK 8 rfl ?_;refine LK 9 rfl ?_;refine LO 10 rfl λKK hK=>?_
  go_simp;clear vE;have aA:Hi (Below w1.heap.size w1 (wD.alloc (.cells (madeCells #[Iv 0] z) 3))):=vA.o.alloc vA.o.size _;refine zU hK ⟨Ja (yA.o _ aA.o) 0,Ja (yA.o _ aA.o) 1,Ja (yA.o _ aA.o) 2,Ja (yA.o _ aA.o) 3,Ja (xA.o _ aA.o) 0,Ja (xA.o _ aA.o) 1,Ja (xA.o _ aA.o) 2,Ja (xA.o _ aA.o) 3,Ja (xA.o _ aA.o) 4,Ja (xA.o _ aA.o) 5,Ja (xA.o _ aA.o) 6,Ja (xA.o _ aA.o) 7,Ja (xA.o _ aA.o) 8,Ja (xA.o _ aA.o) 9,Ja (xA.o _ aA.o) 10,Ja (xA.o _ aA.o) 11,KZ.o _ aA.o⟩ λhH=>?_
  clear hK KK;refine LK 11 rfl ?_;refine LO 12 rfl λKK hK=>?_
  go_simp;have bA:Hi (Below w1.heap.size w1 ((wD.alloc (.cells (madeCells #[Iv 0] z) 3)).alloc (.cells #[.slice a0 n0 c0,.slice a1 n1 c1,.slice a2 n2 c2,.slice (some ⟨b3,o3,none⟩) (nz+1) c3,.slice la ln lc,Iv F.likes,Iv F.boosts,Iv F.replies,Iv F.reports,Iv F.age,Iv F.home,Iv F.scope,Iv F.length,.bool F.follows,.bool F.reply,.slice wa wn wc,Iv 0,Nl,.slice (some ⟨wD.heap.size,0,none⟩) z z,Nl,Iv 0,Iv 0,Em,Iv 0,Iv 0,.bool false] 76))):=aA.o.alloc aA.o.size _;refine zU hK ⟨Ja (yA.o _ bA.o) 0,Ja (yA.o _ bA.o) 1,Ja (yA.o _ bA.o) 2,Ja (yA.o _ bA.o) 3,Ja (xA.o _ bA.o) 0,Ja (xA.o _ bA.o) 1,Ja (xA.o _ bA.o) 2,Ja (xA.o _ bA.o) 3,Ja (xA.o _ bA.o) 4,Ja (xA.o _ bA.o) 5,Ja (xA.o _ bA.o) 6,Ja (xA.o _ bA.o) 7,Ja (xA.o _ bA.o) 8,Ja (xA.o _ bA.o) 9,Ja (xA.o _ bA.o) 10,Ja (xA.o _ bA.o) 11,KZ.o _ bA.o⟩ λhH=>?_
  clear hK KK;refine LZ 13 rfl λKK hK=>?_
  go_simp;refine hK.out _ _ ?_;clear hK KK hH;obtain⟨r0,r1,r2,r3⟩:=HCV.o.rows;have aB:w.heap.size<=wD.heap.size:=le_trans HB.o.size vA.o.size;have pA:Below w.heap.size w wD:=HB.o.trans (vA.o.mono HB.o.size);have jC:=Yc wD (.cells (madeCells #[Iv 0] z) 3) (.cells #[.slice a0 n0 c0,.slice a1 n1 c1,.slice a2 n2 c2,.slice (some ⟨b3,o3,none⟩) (nz+1) c3,.slice la ln lc,Iv F.likes,Iv F.boosts,Iv F.replies,Iv F.reports,Iv F.age,Iv F.home,Iv F.scope,Iv F.length,.bool F.follows,.bool F.reply,.slice wa wn wc,Iv 0,Nl,.slice (some ⟨wD.heap.size,0,none⟩) z z,Nl,Iv 0,Iv 0,Em,Iv 0,Iv 0,.bool false] 76);have hC:=Jaa wD (.cells (madeCells #[Iv 0] z) 3) (.cells #[.slice a0 n0 c0,.slice a1 n1 c1,.slice a2 n2 c2,.slice (some ⟨b3,o3,none⟩) (nz+1) c3,.slice la ln lc,Iv F.likes,Iv F.boosts,Iv F.replies,Iv F.reports,Iv F.age,Iv F.home,Iv F.scope,Iv F.length,.bool F.follows,.bool F.reply,.slice wa wn wc,Iv 0,Nl,.slice (some ⟨wD.heap.size,0,none⟩) z z,Nl,Iv 0,Iv 0,Em,Iv 0,Iv 0,.bool false] 76);obtain⟨K,hK⟩:∃K:MK,K=⟨.slice a0 n0 c0,.slice a1 n1 c1,.slice a2 n2 c2,.slice (some ⟨b3,o3,none⟩) (nz+1) c3,F,.slice la ln lc,.slice wa wn wc⟩:=⟨_,rfl⟩
  have sD:K.F=F:=by rw[hK]
  obtain⟨g1,g2,g3⟩:=JiS nB.o;rw[qA.o]at r0 r1 r2 r3;have dB:p<=wD.heap.size:=le_trans HPS.o aB
  have tA:QcY K (Qac r) _ (wD.heap.size+1):=QcY.up (w:=wD) (W:=(wD.alloc (.cells (madeCells #[Iv 0] z) 3)).alloc (.cells #[.slice a0 n0 c0,.slice a1 n1 c1,.slice a2 n2 c2,.slice (some ⟨b3,o3,none⟩) (nz+1) c3,.slice la ln lc,Iv F.likes,Iv F.boosts,Iv F.replies,Iv F.reports,Iv F.age,Iv F.home,Iv F.scope,Iv F.length,.bool F.follows,.bool F.reply,.slice wa wn wc,Iv 0,Nl,.slice (some ⟨wD.heap.size,0,none⟩) z z,Nl,Iv 0,Iv 0,Em,Iv 0,Iv 0,.bool false] 76)) (by
   subst hK
   exact⟨(r1.up (pA.mono HPS.o)).mono dB,(r2.up (pA.mono HPS.o)).mono dB,(r3.up (pA.mono HPS.o)).mono dB,(Qdq.up (p:=w.heap.size) gD.o pA).mono aB,(QcB.up (p:=w.heap.size) pD.o pA).mono aB,pB.o.nl,pB.o.nw,g1,g2,λx hx=>(g3 x hx).2,λx hx=>(g3 x hx).1⟩) (by rw[Nat.add_sub_cancel];exact jC)
  have hat:MAt K ((wD.alloc (.cells (madeCells #[Iv 0] z) 3)).alloc (.cells #[.slice a0 n0 c0,.slice a1 n1 c1,.slice a2 n2 c2,.slice (some ⟨b3,o3,none⟩) (nz+1) c3,.slice la ln lc,Iv F.likes,Iv F.boosts,Iv F.replies,Iv F.reports,Iv F.age,Iv F.home,Iv F.scope,Iv F.length,.bool F.follows,.bool F.reply,.slice wa wn wc,Iv 0,Nl,.slice (some ⟨wD.heap.size,0,none⟩) z z,Nl,Iv 0,Iv 0,Em,Iv 0,Iv 0,.bool false] 76)) (wD.heap.size+1) (Qbf (Qac r)):=by
   have uE:(Qac r).slots.getLastD 0=(z:Int):=mD.o.1;have iD:(Qbf (Qac r)).vars=List.replicate z 0:=by unfold Qbf;rw[uE,Int.toNat_natCast]
   have hsz:(Qbf (Qac r)).vars.length=z:=by rw[iD,List.length_replicate]
   refine⟨Nl,.slice (some ⟨wD.heap.size,0,none⟩) z z,Nl,[],?_,?_⟩
   ·subst hK;exact hC.2
   ·refine⟨⟨by simp[Qbf,Qad],.inl ⟨rfl,rfl⟩⟩,⟨by simp[Qbf,Qad],.inr ⟨wD.heap.size,z,madeCells #[Iv 0] z,?_,by omega,hC.1,?_,by unfold maxLen;have:=mD.o.2;omega,by rw[size_madeCells,Nat.mul_one],?_⟩⟩,⟨by simp[Qbf,Qdf],.inl ⟨rfl,rfl⟩⟩,trivial,?_⟩
    ·rw[hsz]
    ·rw[hsz];exact le_refl _
    ·rw[toList_madeCells_one,iD];simp[Qad]
    ·exact List.pairwise_cons.2 ⟨λv hv k h=>by simp[Value.ownBlock]at h,List.pairwise_cons.2 ⟨λv hv=>by simp at hv,List.Pairwise.nil⟩⟩
  have zC:Hi (OpG w p (Qac r).ops a0):=by
   have h:=eE.o;rw[qA.o]at h;exact h
  have mA:BxB 31 w1 cb _:=yA.o;have iB:Hi (Below w1.heap.size w1 ((wD.alloc (.cells (madeCells #[Iv 0] z) 3)).alloc (.cells #[.slice a0 n0 c0,.slice a1 n1 c1,.slice a2 n2 c2,.slice (some ⟨b3,o3,none⟩) (nz+1) c3,.slice la ln lc,Iv F.likes,Iv F.boosts,Iv F.replies,Iv F.reports,Iv F.age,Iv F.home,Iv F.scope,Iv F.length,.bool F.follows,.bool F.reply,.slice wa wn wc,Iv 0,Nl,.slice (some ⟨wD.heap.size,0,none⟩) z z,Nl,Iv 0,Iv 0,Em,Iv 0,Iv 0,.bool false] 76))):=vA.o.trans (jC.mono vA.o.size);have cA:=Zh hat;have hB:=Zh tA;have gE:=Zh sD;have hE:Hi (p<=wD.heap.size/\w.heap.size<=wD.heap.size/\w1.heap.size<=wD.heap.size):=⟨dB,aB,vA.o.size⟩
  obtain⟨sE,⟨kT,aD⟩,yD,kA⟩:=VC xC.o HFM.o;have cB:=Zh (And.intro aD (And.intro yD kA));have hn0:=HN.o.1;have vC:Hi ((Qac r).ops.length=n0):=by rw[<- qA.o];exact hn0
  clear aB pA jC hC hK sD g1 g2 g3 r0 r1 r2 r3 dB tA hat aD yD kA hn0 mA aA bA vA;generalize World.alloc (World.alloc wD _) _=w4 at *;obtain⟨pm,tC⟩:∃pm,wD.heap.size+1=pm:=⟨_,rfl⟩
  have dE:Hi (wD.heap.size=pm-1/\1<=pm):=by unfold Hi;omega
  rw[tC]at cA hB |-;clear tC;go_wp2_with fail;refine(Jdd w4).mono ?_;rintro e w5 ⟨hb,rfl,aE,yB,hbel⟩;replace hB:=Zh (hB.o.up (hbel.mono (zu cA.o.lt)));replace cA:=Zh (cA.o.up hbel);replace iB:=Zh (iB.o.trans (hbel.mono iB.o.size));have hA:=Zh yB;clear aE yB hbel;go_wp2_with fail;go_loopg [9] kT λg v9 wr=>Hi (∃s j,g+j=kT/\Qaw (Qac r) F j (Qbf (Qac r))=some s/\MAt K wr pm s/\QfK wr hb/\Below (pm-1) w5 wr)
  case atStart=>exact⟨Qbf (Qac r),0,Nat.add_zero _,rfl,cA.o,hA.o,zO⟩
  case round=>
  have HWS:Hi (w1.heap.size<=pm-1/\pm-1<=w5.heap.size):=⟨by have:=hE.o;have:=dE.o;omega,by have:=cA.o.lt;omega⟩
  clear cA hA;obtain⟨wl,rfl⟩:=zJ wr;obtain⟨s,j,xD,hst,hat,gC,hbw⟩:=hrel.o;clear hrel;have cA:=Zh hat;have hA:=Zh gC;have HBW:=Zh hbw;have HWL:Hi (Below w1.heap.size w1 wl):=iB.o.trans (hbw.mono HWS.o.1);obtain⟨sv,vv,cv,fr,hbx,_⟩:=hat
  cases hfin:s.fin with
  |true=>
   have kD:s=sE:=Jas j kT _ s sE hst hfin cB.o.1 cB.o.2.1;have HFIN:Hi (s.fin=true):=hfin;have HO:Hi (({ s.o with used:=s.used }:QeD)=QdM r F):=by rw[kD];exact cB.o.2.2
   have uB:=Ja hbx 25;simp only[mC,getElem?_toArray,getElem?_cons_succ,getElem?_cons_zero,hfin]at uB;clear kD hst xD gC hbw hfin;have cD:=Ja hbx 20;have eB:=Ja hbx 23;have yE:=Jc hbx 23;simp only[mC,getElem?_toArray,getElem?_cons_succ,getElem?_cons_zero]at cD eB;go_upto_region 10 with fail;clear uB cD eB yE hbx;have bC:Hi (MAt K (wl.setCell ⟨pm,23,none⟩ (Iv (s.used:Nat))) pm { s with o:={ s.o with used:=s.used } }):=cA.o.set (λ_ _ _=>rfl) rfl rfl rfl;have pC:Hi (Below w1.heap.size w1 (wl.setCell ⟨pm,23,none⟩ (Iv (s.used:Nat)))):=HWL.o.setCell (by have:=HWS.o;simp;omega) _;clear cA HWL;generalize World.setCell wl _ _=w9 at *;obtain⟨sv,vv,cv,fr,hbx,_⟩:=bC.o;have zD:=Ja hbx 21;have kC:=Ja hbx 22;have eB:=Ja hbx 23;have nC:=Ja hbx 24;simp only[mC,getElem?_toArray,getElem?_cons_succ,getElem?_cons_zero]at zD kC eB nC;clear hbx;have HQ:=Zh (rA.o _ pC.o);have q0:=Ja HQ.o 0;have q1:=Ja HQ.o 1;have q2:=Ja HQ.o 2;have q3:=Ja HQ.o 3;have f0:=Jc HQ.o 0;have f1:=Jc HQ.o 1;have f2:=Jc HQ.o 2;have f3:=Jc HQ.o 3;simp only[zW]at q0 q1 q2 q3;go_wp2;clear q0 q1 q2 q3 f0 f1 f2 f3 zD kC eB nC;refine bodyPost_ret (v:=.agg #[Iv s.o.action,.string (bs s.o.reason),Iv (s.used:Nat),Iv s.o.fault]) (results_cell_row rfl _ _ ob 48 _ (0,0) _ rfl (Qer _ _ _ _ HQ.o) underlying48 rfl QdG) rfl ?_;rw[HR.o,HV.o,<- HO.o];refine⟨rfl,?_⟩;have hb:=HB.o.trans (pC.o.mono HB.o.size);exact Qiw
  |false=>
   obtain⟨zE,o,s',hG,qD,hs'⟩:=JkU xC.o HFM.o nB.o.ops cB.o.1 cB.o.2.1 hst zo hfin;obtain⟨g,rfl⟩:∃g,gk=g+1:=⟨gk-1,by omega⟩
   have HJ:Hi (g+(j+1)=kT):=by unfold Hi;omega
   have HG:=Zh hG;have bE:=Zh qD;have xE:=Zh hs';have uB:=Ja hbx 25;simp only[mC,getElem?_toArray,getElem?_cons_succ,getElem?_cons_zero,hfin]at uB;have b16:=Ja hbx 16;simp only[mC,getElem?_toArray,getElem?_cons_succ,getElem?_cons_zero]at b16;clear qD hs' hst xD gC hbw zE hfin hbx;have x0:=Ja (yA.o _ HWL.o) 0;obtain⟨b0,o0,rfl,k0⟩:=zC.o _ _ hG.at';obtain⟨p0,p1,p2⟩:=k0 wl (HB.o.mono HPS.o |>.trans (HWL.o.mono (le_trans HPS.o HB.o.size)));obtain⟨pc,dC⟩:∃pc,s.pc=pc:=⟨_,rfl⟩
   have j0:0<=(pc:Int):=Int.natCast_nonneg pc;have j1:(pc:Int)<(n0:Int):=by have:=hG.pc;have:=vC.o;omega
   rw[dC]at b16 p0 p1 p2;have HPC:=Zh dC;have qE:=Zh k0;have aC:pc<40000001:=by have:=hG.pc;have:=nB.o.ops;omega
   have kE:IntKind.i64.wrap ((pc:Int)+1)=(pc:Int)+1:=by rw[IntWalk.i64_in _ zo]
   clear dC k0 hG aC;go_upto_region 6 with fail;clear uB;go_region_held (λW=>W.cell? ⟨cb,0,none⟩=some (.slice (some ⟨b0,o0,none⟩) n0 c0)/\W.cell? ⟨pm,16,none⟩=some (Iv (pc:Nat))/\W.cell? ⟨b0,o0+pc*3,none⟩=some (Iv o.code)/\W.cell? ⟨b0,o0+pc*3+1,none⟩=some (Iv o.n)/\W.cell? ⟨b0,o0+pc*3+2,none⟩=some (.string (bs o.name))) (go_keep) (fail);obtain⟨yb,rC⟩:∃yb,wl.heap.size=yb:=⟨_,rfl⟩
   have HY5:=Zh (zQ wl (.cells #[Iv o.code,Iv o.n,.string (bs o.name)] 34));have jB:Below wl.heap.size wl (wl.alloc (.cells #[Iv o.code,Iv o.n,.string (bs o.name)] 34)).drew:=(zO.alloc zP _).drew;rw[rC]at HY5 |-;replace HBW:=Zh (HBW.o.trans (jB.mono (zu cA.o.lt)));replace cA:=Zh (cA.o.up jB);replace hA:Hi (QfK _ hb):=(jB.block _ (Jb hA.o)).trans hA.o;replace HY5:Hi ((wl.alloc (.cells #[Iv o.code,Iv o.n,.string (bs o.name)] 34)).drew.heap[yb]?=_):=HY5.o;clear rC jB b16 x0 p0 p1 p2 HWL;generalize (wl.alloc (.cells #[Iv o.code,Iv o.n,.string (bs o.name)] 34)).drew=w6 at *;obtain⟨sv,vv,cv,fr,hbx,_⟩:=cA.o;have b16:=Ja hbx 16;have f16:=Jc hbx 16;simp only[mC,getElem?_toArray,getElem?_cons_succ,getElem?_cons_zero]at b16;rw[HPC.o]at b16;go_upto_region 8 with fail;clear b16 f16 hbx;have sA:Hi (MAt K (w6.setCell ⟨pm,16,none⟩ (Iv ((pc:Int)+1))) pm { s with pc:=s.pc+1 }):=cA.o.set (λ_ _ _=>by rw[<- HPC.o];rfl) rfl rfl rfl;have ht7:=(cA.o.tset (j:=16) (u:=Iv ((pc:Int)+1)))
   have gA:Hi (QfK (w6.setCell ⟨pm,16,none⟩ (Iv ((pc:Int)+1))) hb):=(ht7.1 hb _ hA.o (by intro cs fr;simp)).trans hA.o;have HY7:=Zh (KU HY5.o ht7.1);have nA:=Zh (HBW.o.trans ht7.2);clear cA hA HY5 HBW ht7;generalize World.setCell w6 _ _=w7 at *;obtain⟨y0,y1,y2⟩:=Jh HY7.o;obtain⟨k,iA,hk⟩:=HG.o.code;have hh:=Jep K (Qac r) w7 pm { s with pc:=s.pc+1 } s' o sA.o (hB.o.up nA.o) (by rw[gE.o];exact bE.o) HG.o.len HG.o.inr HG.o.used HG.o.calls HG.o.jump HG.o.call k hk iA;have lk:=gA.o.look iA;unfold hV at lk;rw[<- hk]at lk;obtain⟨tD,hD⟩:∃tD,hdl.getD k 0=tD:=⟨_,rfl⟩
   have hcf:=JkV iA #[Pt pm,.agg #[Iv o.code,Iv o.n,.string (bs o.name)]] w7;rw[hD]at hh lk hcf;clear hk iA hD;go_wp2_with fail;refine hh.mono ?_;clear hh lk hcf y0 y1 y2;rintro e w8 ⟨rfl,xB,hb8,dD⟩;have jE:Hi (∃s j,g+j=kT/\Qaw (Qac r) F j (Qbf (Qac r))=some s/\MAt K w8 pm s/\QfK w8 hb/\Below (pm-1) w5 w8):=⟨s',j+1,HJ.o,xE.o,xB,(dD hb _ gA.o (by intro cs fr;simp)).trans gA.o,nA.o.trans hb8⟩
   clear xB hb8 dD gA nA sA HY7;go_wp2;go_roundg g
   case measure=>omega
   case rel=>exact jE
end Go.Proofs.YtfafpklefknomaaGreatDoor
