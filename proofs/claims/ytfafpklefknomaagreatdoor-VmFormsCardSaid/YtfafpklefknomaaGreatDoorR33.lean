import Derived.Test.YtfafpklefknomaaGreatDoorR30
import Derived.Test.YtfafpklefknomaaGreatDoorR31
import Derived.Test.YtfafpklefknomaaGreatDoorR32
open List(append_assoc cons_append length_append length_cons length_nil)
open Nat(le_of_lt le_refl)
namespace Go.Proofs.YtfafpklefknomaaGreatDoor
open Go Go.ChangeShapes Go.WideShapes Go.ChangeAt Go.RowKit Go.Lib
open _root_.Go.Proofs.Tryz
set_option linter.all false
set_option maxRecDepth 100000
set_option maxHeartbeats 32000000
mutual
def JbP{pa:List Nat}(hpa:∀n∈pa,n<=1000000):∀(e:Exp) (vars Qag:Nat),QaK pa vars Qag e=true->ArN e
 |.mk k n s l,vars,Qag,hf=>by
  obtain⟨_,hfi,har,hk⟩:=JI hf;rw[ArN]
  have h1:QaM pa k n<=1000000:=by
   unfold QaM
   repeat' split
   all_goals try omega
   rw[List.getD_eq_getElem?_getD]
   cases hx:pa[n.toNat]? with
   |none=>exact Nat.zero_le _
   |some x=>exact hpa x (List.mem_of_getElem? hx)
  refine⟨λh=>?_,λh=>?_,by omega,Jft hpa l vars (Qag-1) k 0 hk⟩
  ·rw[har];unfold QaM;rw[if_neg (by omega),if_neg (by omega),if_neg (by omega),if_neg (by omega)]
  ·rw[har,h];rfl
def Jft{pa:List Nat}(hpa:∀n∈pa,n<=1000000):∀(l:List Exp) (vars Qag:Nat) (k:Int) (i:Nat),QaB pa vars Qag k i l=true->ArL l
 |[],vars,Qag,k,i,hf=>by rw[ArL];trivial
 |a::l,vars,Qag,k,i,hf=>by
  rw[QaB]at hf;simp only[Bool.and_eq_true]at hf;rw[ArL];exact⟨JbP hpa a _ Qag hf.1,Jft hpa l vars Qag k (i+1) hf.2⟩
end
mutual
def Jei{pa:List Nat}(hpa:∀n∈pa,n<=1000000):∀(e:Exp) (vars Qag:Nat),vars+Qag<=1000000000->QaK pa vars Qag e=true->LoN e
 |.mk k n s l,vars,Qag,hv,hf=>by
  have ha:=JbP hpa _ _ _ hf;obtain⟨h1,hfi,har,hk⟩:=JI hf;rw[ArN]at ha;rw[LoN];refine⟨λe=>?_,ha.2.2.1,Jfu hpa l vars (Qag-1) k 0 (by omega) hk⟩;unfold Qam at hfi;simp[e]at hfi;have:=hfi.1;omega
def Jfu{pa:List Nat}(hpa:∀n∈pa,n<=1000000):∀(l:List Exp) (vars Qag:Nat) (k:Int) (i:Nat),vars+1+Qag<=1000000000->QaB pa vars Qag k i l=true->LoL l
 |[],vars,Qag,k,i,hv,hf=>by rw[LoL];trivial
 |a::l,vars,Qag,k,i,hv,hf=>by
  rw[QaB]at hf;simp only[Bool.and_eq_true]at hf;rw[LoL];exact⟨Jei hpa a _ Qag (by split<;>omega) hf.1,Jfu hpa l vars Qag k (i+1) hv hf.2⟩
end
def Jej:∀(l:List ClM) (p:Nat) (x:ClM),cC p (l++[x])=cC p l++cC (p+(cC p l).length) [x]
 |[],p,x=>by rw[List.nil_append,cC];simp[cC]
 |y::l,p,x=>by
  rw[cons_append,cC,cC,Jej l];simp only[cons_append,append_assoc,length_cons,length_append]
  congr 6
  omega
def Jek:∀(l:List FnM) (p:Nat) (x:FnM),cF p (l++[x])=cF p l++cF (p+(cF p l).length) [x]/\QaC p (l++[x])=QaC p l++[((p+(cF p l).length:Nat):Int)]
 |[],p,x=>by rw[List.nil_append,cF,QaC];simp[cF,QaC]
 |y::l,p,x=>by
  obtain⟨h1,h2⟩:=Jek l (p+(cE p y.body).length+1) x;rw[cons_append,cF,cF,QaC,QaC,h1,h2];simp only[cons_append,append_assoc,length_cons,length_append];refine⟨?_,?_⟩
  ·congr 4
   omega
  ·congr 4
   omega
def JaY:∀(l:List ClM) (x:ClM),0<=QaD x.cond->Qbv (l++[x])=max (Qbv l) (QaD x.cond)
 |[],x,h=>by rw[List.nil_append,Qbv,Qbv,Qbv];omega
 |y::l,x,h=>by rw[cons_append,Qbv,Qbv,JaY l x h];omega
def QeR:(prog.info? 31).map (λx=>x.size)=some 4:=zk
def QiF{W:World}{b t:Nat}{a0 a1 a2 a3 a4 a5:Value}{fr:Nat × Nat}(h:W.heap[b]?=some (.cells #[a0,a1,a2,a3,a4,a5] t fr)) :
  W.cell? ⟨b,0,none⟩=some a0/\W.cell? ⟨b,1,none⟩=some a1/\W.cell? ⟨b,2,none⟩=some a2/\W.cell? ⟨b,3,none⟩=some a3/\W.cell? ⟨b,4,none⟩=some a4/\W.cell? ⟨b,5,none⟩=some a5:=by
 refine⟨?_,?_,?_,?_,?_,?_⟩<;>(rw[Ja h];rfl)
structure CSt(w3:World)(pb yb T:Nat)(cs:Array Value)(l:List OpM)(W:World):Prop where
 at':BAt W pb l
 fr:BFr pb w3 W
 aside:QdA W pb yb
 box:W.heap[yb]?=some (.cells cs T (0,0))
def CSt.next{w3 W W':World}{pb yb T:Nat}{cs:Array Value}{l l':List OpM}(h:CSt w3 pb yb T cs l W)(ha:BAt W' pb l')(hf:BFr pb W W'):CSt w3 pb yb T cs l' W':=
 ⟨ha,h.fr.trans hf,(h.aside.on hf).1,(h.aside.on hf).2.trans h.box⟩
def CSt.up{w3 W W':World}{pb yb T:Nat}{cs:Array Value}{l:List OpM}(h:CSt w3 pb yb T cs l W)(hb:Below W.heap.size W W'):CSt w3 pb yb T cs l W':=
 h.next (h.at'.up hb) ⟨hb.mono (le_of_lt h.at'.lt),λk hk _ _=>hb.block k hk,λk hk=>.inl (by unfold QfG at hk |-;rwa [hb.block _ h.at'.lt]at hk)⟩
def CSt.first{w3 w:World}{pb T:Nat}{cs:Array Value}{l:List OpM}(h:BAt w pb l)(hf:BFr pb w3 w):CSt w3 pb w.heap.size T cs l (w.alloc (.cells cs T)):=
 ⟨h.up (zO.alloc zP _),hf.trans (BFr.alloc h.lt _),QdA.new h _,zQ w _⟩
def Jlo(p:Nat)(x:ClM):cC p [x]=op0 21::(cE (p+1) x.cond++[⟨17,((p+(cE (p+1) x.cond).length+3:Nat):Int),[]⟩,⟨22,x.action,x.reason⟩]):=by
 rw[cC,cC]
def Qel{W:World}{b t:Nat}{a0 a1 a2 a3 a4 a5 a6:Value}{fr:Nat × Nat}(h:W.heap[b]?=some (.cells #[a0,a1,a2,a3,a4,a5,a6] t fr)) :
  W.cell? ⟨b,0,none⟩=some a0/\W.cell? ⟨b,1,none⟩=some a1/\W.cell? ⟨b,2,none⟩=some a2/\W.cell? ⟨b,3,none⟩=some a3/\W.cell? ⟨b,4,none⟩=some a4/\W.cell? ⟨b,5,none⟩=some a5/\W.cell? ⟨b,6,none⟩=some a6:=by
 refine⟨?_,?_,?_,?_,?_,?_,?_⟩<;>(rw[Ja h];rfl)
def JnP(p:Nat)(f:FnM):cF p [f]=cE p f.body++[op0 20]:=by rw[cF,cF]
def Jir{W:World}{b t:Nat}{a0:Value}{fr:Nat × Nat}(h:W.heap[b]?=some (.cells #[a0] t fr)):W.cell? ⟨b,0,none⟩=some a0:=Ja h 0
def JaZ:∀l:List Int,QbM (λa c=>c=[Iv a]) l (Qad l)
 |[]=>rfl
 |a::l=>⟨_,_,rfl,rfl,JaZ l⟩
def JcR:∀l:List OpM,QbM (λ(a:OpM) c=>c=[Iv a.code,Iv a.n,.string (bs a.name)]) l (Qfd l)
 |[]=>rfl
 |a::l=>⟨_,_,rfl,by unfold Qfd;rw[List.flatMap_cons];rfl,JcR l⟩
def QfA(w:World)(cm:Qaf)(e:Ending)(w':World):Prop:=∃d,e=.returned (.agg d)/\CV w' w'.heap.size cm d/\Below w.heap.size w w'
def QaV.up'{w W:World}{r:Qah}{c:Array Value}(h:QaV w (In w) r c)(hb:Below w.heap.size w W):QaV W (In W) r c:=
 h.keep (λb hb'=>hb.block b hb') λb hb'=>Nat.lt_of_lt_of_le hb' hb.size
def JcS(W:World)(p:Nat):CV W p QcK #[Nl,Nl,Nl,Nl]:=
 ⟨_,_,_,_,rfl,⟨none,0,[],rfl,le_refl _,rfl,.inl rfl⟩,⟨none,0,[],rfl,le_refl _,rfl,.inl rfl⟩,⟨none,0,[],rfl,le_refl _,rfl,.inl rfl⟩,⟨none,0,[],rfl,le_refl _,rfl,.inl rfl⟩⟩
structure QdN(pb cx:Nat)(l:List OpM)(sv pv lv:Value)(S P L:List Int)(W:World):Prop where
 bat:BAt W pb l
 box:W.heap[cx]?=some (.cells #[Nl,sv,pv,lv] 31 (0,0))
 rs:W.ownsRow (cx+1) 3 1 sv S.length (Qad S)
 rp:W.ownsRow (cx+1) 3 1 pv P.length (Qad P)
 rl:W.ownsRow (cx+1) 3 1 lv L.length (Qad L)
 d1:Qcf sv pv
 d2:Qcf sv lv
 d3:Qcf pv lv
 lt:pb<cx
def Y0{w:World}{b b' e e' sz sz' n n':Nat}{v v':Value}{xs xs':List Value}(h:w.ownsRow b e sz v n xs)(h':w.ownsRow b' e' sz' v' n' xs')(hne:e≠e'):Qcf v v':=λk hk hk'=>by
 rcases h'.2 with⟨rfl,_⟩|⟨g',cap',cur',rfl,_,hg',_⟩
 ·simp[Value.ownBlock]at hk'
 ·simp[Value.ownBlock]at hk';subst hk';exact hne (KL h hk hg').symm
def Qcf.symm{a b:Value}(h:Qcf a b):Qcf b a:=λk h1 h2=>h k h2 h1
def QdN.bld{pb cx:Nat}{l l':List OpM}{sv pv lv:Value}{S P L:List Int}{W W':World}(h:QdN pb cx l sv pv lv S P L W)(ha:BAt W' pb l')(hf:BFr pb W W'):QdN pb cx l' sv pv lv S P L W':=by
 obtain⟨bv,hb1,hb2⟩:=h.bat;have hrow:∀k,QfG W pb=some k->bv.ownBlock=some k:=λk hk=>by rwa [Vl hb1]at hk
 have xA:∀{v:Value} {n:Nat} {xs:List Value},W.ownsRow (cx+1) 3 1 v n xs->W'.ownsRow (cx+1) 3 1 v n xs:=λ{v n xs} hv=>Kh hv λk hk=>hf.keep k (hv.lt k hk).2 (zv ((hv.lt k hk).1) h.lt) λe=>Y0 hv hb2 zp k hk (hrow k e)
 have yA:W'.heap[cx]?=W.heap[cx]?:=hf.keep cx (Jb h.box) (zu h.lt) λe=>absurd (KL hb2 (hrow _ e) h.box) zp
 exact⟨ha,yA.trans h.box,xA h.rs,xA h.rp,xA h.rl,h.d1,h.d2,h.d3,h.lt⟩
def QdN.up{pb cx:Nat}{l:List OpM}{sv pv lv:Value}{S P L:List Int}{W W':World}(h:QdN pb cx l sv pv lv S P L W)(hb:Below W.heap.size W W'):QdN pb cx l sv pv lv S P L W':=
 ⟨h.bat.up hb,(hb.block _ (Jb h.box)).trans h.box,JX h.rs hb,JX h.rp hb,JX h.rl hb,h.d1,h.d2,h.d3,h.lt⟩
structure Grw(W w':World)(cx:Nat)(v v':Value)(l:List Int)(x:Int)(X:Obj):Prop where
 own:w'.ownsRow (cx+1) 3 1 v' (l.length+1) (Qad l++[Iv x])
 grow:(W.alloc X).grownBy w' v.ownBlock
 fr:v'.ownBlock=v.ownBlock\/v'.ownBlock=some (W.alloc X).heap.size
section
variable {pb cx:Nat} {lo:List OpM} {sv pv lv v v':Value} {S P L l:List Int} {W w':World} {x:Int} {X:Obj}
def Grw.keep(h:Grw W w' cx v v' l x X)(hv:W.ownsRow (cx+1) 3 1 v l.length (Qad l)){b e sz n:Nat}{u z:Value}{xs:List Value}{j:Nat}(hu:W.ownsRow b e sz u n xs)(ha:Qcf u v)(hc:∀k,u.ownBlock=some k->k≠cx):(w'.setCell ⟨cx,j,none⟩ z).ownsRow b e sz u n xs:=by
 refine Kh ((hu.alloc X).kept h.grow (by
  cases ho:u.ownBlock with
  |none=>exact .inl rfl
  |some k=>exact .inr λe=>ha k ho e.symm)) λk hk=>heap_setCell_other _ _ _ _ (by simpa using hc k hk)
def Grw.blk(h:Grw W w' cx v v' l x X){k:Nat}(hk:k<W.heap.size)(hn:v.ownBlock≠some k):w'.heap[k]?=W.heap[k]?:=
 (h.grow.block k zr λe=>hn e.symm).trans (heap_alloc_old _ _ hk)
def Grw.new(h:Grw W w' cx v v' l x X){u:Value}{b e sz n:Nat}{xs:List Value}(hu:W.ownsRow b e sz u n xs)(ha:Qcf v u):Qcf v' u:=λk h1 h2=>by
 rcases h.fr with e|e
 ·exact ha k (e.symm.trans h1) h2
 ·rw[h1]at e;have:=(hu.lt k h2).2;simp at e;omega
def Grw.own'(h:Grw W w' cx v v' l x X){j:Nat}{z:Value}:(w'.setCell ⟨cx,j,none⟩ z).ownsRow (cx+1) 3 1 v' (l++[x]).length (Qad (l++[x])):=by
 have e:Qad (l++[x])=Qad l++[Iv x]:=by unfold Qad;simp
 rw[e,length_append];exact Jfl h.own zq z
def Jal(hv:W.ownsRow (cx+1) 3 1 v l.length (Qad l)):∀k,v.ownBlock=some k->k≠cx:=λk hk=>by have:=(hv.lt k hk).1;omega
section
variable (h:QdN pb cx lo sv pv lv S P L W)
include h
theorem QdN.bat'(g:Grw W w' cx v v' l x X)(hv:W.ownsRow (cx+1) 3 1 v l.length (Qad l)){j:Nat}{z:Value}:BAt (w'.setCell ⟨cx,j,none⟩ z) pb lo:=by
 obtain⟨bv,hb1,hb2⟩:=h.bat;have hl:=h.lt;have h1:w'.heap[pb]?=W.heap[pb]?:=g.blk (Jb hb1) (λe=>by have:=(hv.lt pb e).1;omega);refine⟨bv,(heap_setCell_other _ _ _ _ zr).trans (h1.trans hb1),g.keep hv hb2 (λk a b=>Y0 hv hb2 zp k b a) λk hk e=>?_⟩;subst e;exact absurd (KL hb2 hk h.box) zp
theorem QdN.cx'(g:Grw W w' cx v v' l x X)(hv:W.ownsRow (cx+1) 3 1 v l.length (Qad l)):w'.heap[cx]?=some (.cells #[Nl,sv,pv,lv] 31 (0,0)):=
 (g.blk (Jb h.box) λe=>Jal hv cx e rfl).trans h.box
theorem QdN.app1(g:Grw W w' cx sv v' S x X):QdN pb cx lo v' pv lv (S++[x]) P L (w'.setCell ⟨cx,1,none⟩ v'):=
 ⟨h.bat' g h.rs,Jm (h.cx' g h.rs) 1 v',g.own',g.keep h.rs h.rp h.d1.symm (Jal h.rp),g.keep h.rs h.rl h.d2.symm (Jal h.rl),g.new h.rp h.d1,g.new h.rl h.d2,h.d3,h.lt⟩
theorem QdN.app2(g:Grw W w' cx pv v' P x X):QdN pb cx lo sv v' lv S (P++[x]) L (w'.setCell ⟨cx,2,none⟩ v'):=
 ⟨h.bat' g h.rp,Jm (h.cx' g h.rp) 2 v',g.keep h.rp h.rs h.d1 (Jal h.rs),g.own',g.keep h.rp h.rl h.d3.symm (Jal h.rl),(g.new h.rs h.d1.symm).symm,h.d2,g.new h.rl h.d3,h.lt⟩
theorem QdN.app3(g:Grw W w' cx lv v' L x X):QdN pb cx lo sv pv v' S P (L++[x]) (w'.setCell ⟨cx,3,none⟩ v'):=
 ⟨h.bat' g h.rl,Jm (h.cx' g h.rl) 3 v',g.keep h.rl h.rs h.d2 (Jal h.rs),g.keep h.rl h.rp h.d3 (Jal h.rp),g.own',h.d1,(g.new h.rs h.d2.symm).symm,(g.new h.rp h.d3.symm).symm,h.lt⟩
end
def Grw.below(g:Grw W w' cx v v' l x X)(hv:W.ownsRow (cx+1) 3 1 v l.length (Qad l)){m j:Nat}{z:Value}(hm:m<=cx)(hs:m<=W.heap.size):Below m W (w'.setCell ⟨cx,j,none⟩ z):=
 (((zO.alloc hs X).grown g.grow zr λk hk=>by have:=(hv.lt k hk).1;omega)).setCell (by simpa using hm) z
end
def Ki(r:Qah)(c:Array Value)(w:World)(hx:QaV w (In w) r c)(hz:RSz r)(hsh:Qat r=true->(Qac r).ops.length<=40000000):Calls prog 10 #[.agg c] w (QfA w (Qai r)):=by
 obtain⟨R,hR⟩:∃R,QfA w (Qai r)=R:=⟨_,rfl⟩
 rw[hR];have HR:Hi (R=QfA w (Qai r)):=hR.symm;have uD:=hx;obtain⟨fv,cv,rfl,hF,hC⟩:=hx;obtain⟨fa,fc,rfl,gF⟩:=Qdy.of (m:=7) (λa c h=>by obtain⟨_,_,_,_,h1,_⟩:=h.form;rw[h1];rfl) hF;obtain⟨ca,cc,rfl,gC⟩:=Qdy.of (m:=6) (λa c h=>by obtain⟨_,_,h1,_⟩:=h.form;rw[h1];rfl) hC;obtain⟨nf,aD⟩:∃nf,r.funcs.length=nf:=⟨_,rfl⟩
 obtain⟨nc,iD⟩:∃nc,r.clauses.length=nc:=⟨_,rfl⟩
 rw[aD,iD]at uD |-;have hbx:=Jaa w (.cells #[.slice fa nf fc,.slice ca nc cc,Iv r.action] 25) (.cells #[Nl,Nl,Nl,Nl] 31);have hbb:=Yc w (.cells #[.slice fa nf fc,.slice ca nc cc,Iv r.action] 25) (.cells #[Nl,Nl,Nl,Nl] 31);have HX0:=Zh hbx.1;have HX1:=Zh hbx.2;have gB:=Zh hbb;have qE:=Zh uD;have HZ:=Zh hz;have aF:=Zh hsh;have dF:=Zh gF;have zF:=Zh gC;have bD:=Zh aD;have tC:=Zh iD;clear hR uD hF hC gF gC hbx hbb hz hsh aD iD;go_enter func10,ntmps10;go_upto_region 1 with fail
 try simp only[World.size_alloc]
 have nE:Hi (w.heap.size≠w.heap.size+1):=by unfold Hi;omega
 obtain⟨qb,bE⟩:∃qb,w.heap.size+1=qb:=⟨_,rfl⟩
 obtain⟨rb,kE⟩:∃rb,w.heap.size=rb:=⟨_,rfl⟩
 rw[bE]at HX1 nE |-;rw[kE]at HX0 nE |-;have HLO:Hi (w.heap.size<=rb/\w.heap.size<=qb):=by unfold Hi;omega
 clear bE kE;generalize World.alloc (World.alloc w _) _=w1 at *;obtain⟨b0,b1,b2⟩:=Qay HX0.o;have iB:=KR r _ w1 (qE.o.up' gB.o) HZ.o
 cases hrt:Qat r with
 |false=>
  rw[hrt]at iB;have HCM:Hi (Qai r=QcK):=by unfold Hi Qai;rw[hrt];rfl
  clear hrt;go_wp2_with fail;refine iB.mono ?_;clear iB;rintro e w2 ⟨rfl,hb2⟩;have hq:=(hb2.block _ (Jb HX1.o)).trans HX1.o;have HQ:=Zh hq;have HB2:Hi (Below w.heap.size w w2):=gB.o.trans (hb2.mono gB.o.size);clear hb2 hq b0 b1 b2;have q0:=Ja HQ.o 0;have q1:=Ja HQ.o 1;have q2:=Ja HQ.o 2;have q3:=Ja HQ.o 3;have f0:=Jc HQ.o 0;have f1:=Jc HQ.o 1;have f2:=Jc HQ.o 2;have f3:=Jc HQ.o 3;simp only[zW]at q0 q1 q2 q3;go_wp2;clear q0 q1 q2 q3 f0 f1 f2 f3;refine bodyPost_ret (v:=.agg #[Nl,Nl,Nl,Nl]) (results_cell_row rfl _ _ qb 31 _ (0,0) _ rfl (Jm (Jm (Jm (Jm HQ.o 0 _) 1 _) 2 _) 3 _) underlying31 rfl QeR) rfl ?_;rw[HR.o,HCM.o];exact⟨_,rfl,JcS _ _,(((HB2.o.setCell (by simpa using HLO.o.2) _).setCell (by simpa using HLO.o.2) _).setCell (by simpa using HLO.o.2) _).setCell (by simpa using HLO.o.2) _⟩
 |true=>
 rw[hrt]at iB;have HCM:Hi (Qai r=Qac r):=by unfold Hi Qai;rw[if_pos hrt]
 have yD:=aF.o hrt;have zE:=KS hrt;have dE:=Zh zE.1
 have kC:Hi (∀n∈QbP r.sigs,n<=1000000):=by
  intro n hn;rw[VU]at hn;obtain⟨f,hf,rfl⟩:=List.mem_map.1 hn;exact(HZ.o.fn f hf).2.1
 clear zE hrt;go_wp2_with fail;refine iB.mono ?_;clear iB b0 b1 b2;rintro e w2 ⟨rfl,hb2⟩;have dA:=Zh ((hb2.block _ (Jb HX0.o)).trans HX0.o);have eA:=Zh ((hb2.block _ (Jb HX1.o)).trans HX1.o);have HB2:Hi (Below w.heap.size w w2):=gB.o.trans (hb2.mono gB.o.size);clear hb2 HX0 HX1 gB;go_upto_region 5 with fail;have nC:=Jaa w2 (.cells #[Nl] 65) (.cells #[Nl,Nl,Nl,Nl] 31);have hb2:=Yc w2 (.cells #[Nl] 65) (.cells #[Nl,Nl,Nl,Nl] 31);have HX3:=Zh ((hb2.block _ (Jb dA.o)).trans dA.o);have vE:=Zh ((hb2.block _ (Jb eA.o)).trans eA.o);have aE:=Zh nC.1;have qC:=Zh nC.2;have aB:Hi (Below w.heap.size w _):=HB2.o.trans (hb2.mono HB2.o.size)
 try simp only[World.size_alloc]
 have gA:Hi (rb≠w2.heap.size/\qb≠w2.heap.size/\w2.heap.size+1≠w2.heap.size/\rb≠w2.heap.size+1/\qb≠w2.heap.size+1):=by
  have h1:=Jb dA.o;have h2:=Jb eA.o;unfold Hi;omega
 have bA:Hi (w.heap.size<=w2.heap.size):=HB2.o.size;have iA:Hi (rb<w2.heap.size/\qb<w2.heap.size):=⟨Jb dA.o,Jb eA.o⟩
 clear nC hb2 dA eA HB2;obtain⟨cx,pC⟩:∃cx,w2.heap.size+1=cx:=⟨_,rfl⟩
 have hA:=Zh pC;rw[pC]at qC gA |-;clear pC;generalize World.alloc (World.alloc w2 _) _=w3 at *;generalize w2.heap.size=pb at *;have HBA:Hi (BAt w3 pb []):=⟨_,aE.o,⟨by simp[Qfd],.inl ⟨rfl,rfl⟩⟩⟩
 have vB:Hi (QfG w3 pb=none):=(Vl aE.o).trans rfl;obtain⟨b0,b1,b2⟩:=Qay HX3.o;go_wp2_with fail;clear b0 b1 b2;go_loopg [5,20] nc λg v5 v20 wr=>∃i:Nat,g+i=nc/\v20=Iv (i:Int)/\v5=Iv (Qbv (r.clauses.take i))/\Hi (BAt wr pb (cC 0 (r.clauses.take i))/\BFr pb w3 wr)
 case atStart=>exact⟨0,rfl,rfl,rfl,by rw[List.take_zero,cC];exact HBA.o,BFr.refl _ _⟩
 case round=>
 clear HBA;obtain⟨wl,rfl⟩:=zJ wr;obtain⟨i,hg,rfl,rfl,hws⟩:=hrel;have zB:=Zh hws.o.1;have HFR:=Zh hws.o.2;clear hws
 by_cases hi:i<nc
 ·as_aux_lemma=>
  have dil:decide ((i:Int)<(nc:Int))=true:=zG zo;have diN:decide (i<nc)=true:=zG hi;obtain⟨x,hx⟩:∃x,r.clauses[i]?=some x:=⟨_,List.getElem?_eq_getElem (by rw[tC.o];exact hi)⟩
  have gD:=List.mem_of_getElem? hx;have cD:=YY dE.o gD;have rB:=JbP kC.o _ _ _ cD;have hlx:=Jei kC.o _ _ _ zo cD;have zD:=Jah x.cond hlx;have aA:r.clauses.take (i+1)=r.clauses.take i++[x]:=by rw[List.take_add_one,hx];rfl
  have jC:Qbv (r.clauses.take (i+1))=max (Qbv (r.clauses.take i)) (QaD x.cond):=by rw[aA,JaY _ _ zD.1]
  have eB:cC 0 (r.clauses.take (i+1))=cC 0 (r.clauses.take i)++cC (cC 0 (r.clauses.take i)).length [x]:=by rw[aA,Jej,Nat.zero_add]
  have sA:(cC 0 (r.clauses.take (i+1))).length<=40000000:=by
   have h1:(cC 0 r.clauses).length<=40000000:=by have:=(JL r).2.2.2;omega
   have h2:r.clauses=r.clauses.take (i+1)++r.clauses.drop (i+1):=(List.take_append_drop _ _).symm;rw[h2]at h1
   have h3:∀(y z:List ClM),(cC 0 y).length<=(cC 0 (y++z)).length:=by
    intro y z
    induction z generalizing y with
    |nil=>rw[List.append_nil];exact le_refl _
    |cons a z ih=>
     have h4:=ih (y++[a]);rw[append_assoc,List.singleton_append]at h4;refine Nat.le_trans ?_ h4;rw[Jej,length_append];omega
   have:=h3 (r.clauses.take (i+1)) (r.clauses.drop (i+1));omega
  rw[eB,Jlo]at sA;rw[Jlo]at eB;obtain⟨L,hL⟩:∃L,cC 0 (r.clauses.take i)=L:=⟨_,rfl⟩
  obtain⟨V,hV⟩:∃V,Qbv (r.clauses.take i)=V:=⟨_,rfl⟩
  rw[hL]at eB sA zB;rw[hV]at jC |-;obtain⟨Z,hZ⟩:∃Z,QaD x.cond=Z:=⟨_,rfl⟩
  rw[hZ]at jC zD;obtain⟨E,hE⟩:∃E,cE (L.length+1) x.cond=E:=⟨_,rfl⟩
  rw[hE]at eB sA;simp only[length_append,length_cons,length_nil]at sA;obtain⟨b1,o1,rfl,hk1⟩:=zF.o (List.ne_nil_of_mem gD);obtain⟨d1,hr1,hc1⟩:=hk1 i x hx;obtain⟨xa,xc,rfl,nB⟩:=hr1.form;have HBW:Hi (Bel w wl):=Jag aB.o bA.o HFR.o
  obtain⟨p0,p1,p2,p3,p4,p5⟩:wl.cell? ⟨b1,o1+i*6,none⟩=some (Iv x.cond.kind)/\wl.cell? ⟨b1,o1+i*6+1,none⟩=some (Iv x.cond.num)/\wl.cell? ⟨b1,o1+i*6+2,none⟩=some (.string (bs x.cond.name))/\wl.cell? ⟨b1,o1+i*6+3,none⟩=some (.slice xa x.cond.kids.length xc)/\wl.cell? ⟨b1,o1+i*6+4,none⟩=some (Iv x.action)/\wl.cell? ⟨b1,o1+i*6+5,none⟩=some (.string (bs x.reason)):=
   ⟨hc1 wl HBW.o 0 _ rfl,hc1 wl HBW.o 1 _ rfl,hc1 wl HBW.o 2 _ rfl,hc1 wl HBW.o 3 _ rfl,hc1 wl HBW.o 4 _ rfl,hc1 wl HBW.o 5 _ rfl⟩
  have k0:0<=(i:Int):=zo;have k1:(i:Int)<(nc:Int):=zo;have mB:=HZ.o.nc;rw[tC.o]at mB;have wk:IntKind.i64.wrap ((i:Int)+1)=((i+1:Nat):Int):=by rw[IntWalk.i64_in _ zo];omega
  have zC:=Zh nB;have rC:=Zh rB;have hD:=Zh hlx;have HCS:=Zh eB;have pA:=Zh sA;have uF:=Zh jC;have HE:=Zh hE;have HZZ:=Zh hZ;have HGI:=Zh (And.intro hg hi);clear hx gD cD rB hlx zD aA jC eB sA hL hV hZ hE hk1 hr1 hc1 nB hg hi mB;go_upto_region 9 with fail;have HS:=Zh (CSt.first (T:=39) (cs:=#[Iv x.cond.kind,Iv x.cond.num,.string (bs x.cond.name),.slice xa x.cond.kids.length xc,Iv x.action,.string (bs x.reason)]) zB.o HFR.o);clear p0 p1 p2 p3 p4 p5 zB HFR HBW;generalize World.alloc wl _=w5 at *;generalize wl.heap.size=yb at *;go_wp2_with fail;refine(JU w5 pb L 21 0 [] HS.o.at' (zu pA.o)).mono ?_;rintro e w6 ⟨rfl,hat,hfr⟩;replace HS:=Zh (HS.o.next hat hfr);clear hat hfr;obtain⟨y0,y1,y2,y3,y4,y5⟩:=QiF HS.o.box;have HBW:Hi (Bel w w6):=Jag aB.o bA.o HS.o.fr;have vD:(L++[(⟨21,0,[]⟩:OpM)]).length=L.length+1:=zq;have cx1:=Jai (p:=pb) bA.o x.cond rC.o _ (L++[⟨21,0,[]⟩]) w6 zC.o HBW.o HS.o.at' (by rw[vD,HE.o];have:=pA.o;omega);rw[vD,HE.o]at cx1;clear vD;go_wp2_with fail;refine cx1.mono ?_;clear cx1 y0 y1 y2 y3 y4 y5 HBW;rintro e w7 ⟨rfl,hat,hfr⟩;replace HS:=Zh (HS.o.next hat hfr);clear hat hfr;obtain⟨l2,iC⟩:∃l2,L++[(⟨21,0,[]⟩:OpM)]++E=l2:=⟨_,rfl⟩
  have aC:l2.length=L.length+1+E.length:=by rw[<- iC];simp;omega
  rw[iC]at HS;have xC:=Zh (And.intro iC aC);clear iC aC;go_wp2_with fail;refine(JU w7 pb l2 17 0 [] HS.o.at' (zv pA.o xC.o.2)).mono ?_;rintro e w8 ⟨rfl,hat,hfr⟩;replace HS:=Zh (HS.o.next hat hfr);clear hat hfr;obtain⟨y0,y1,y2,y3,y4,y5⟩:=QiF HS.o.box;go_wp2_with fail;refine(JU w8 pb _ 22 x.action x.reason HS.o.at' (by have:=pA.o;have:=xC.o.2;simp only[length_append,length_cons,length_nil];omega)).mono ?_;clear y0 y1 y2 y3 y4 y5;rintro e w9 ⟨rfl,hat,hfr⟩;replace HS:=Zh (HS.o.next hat hfr);have e3:l2++[(⟨17,0,[]⟩:OpM)]++[⟨22,x.action,x.reason⟩]=l2++(⟨17,0,[]⟩:OpM)::[⟨22,x.action,x.reason⟩]:=zq;rw[e3]at HS;clear hat hfr e3;go_wp2_with fail;refine(VD w9 pb _ l2.length ⟨17,0,[]⟩ HS.o.at' (by have:=pA.o;have:=xC.o.2;simp only[length_append,length_cons,length_nil];omega) (JcL _ _ _)).mono ?_;rintro e hB ⟨rfl,hat,hfr⟩;rw[JcM]at hat;replace HS:=Zh (HS.o.next hat hfr);clear hat hfr;obtain⟨y0,y1,y2,y3,y4,y5⟩:=QiF HS.o.box;have HBW:Hi (Bel w hB):=Jag aB.o bA.o HS.o.fr;have dB:=JbL x.cond _ hB hD.o zC.o HBW.o;rw[HZZ.o]at dB;go_wp2_with fail;refine dB.mono ?_;clear dB y0 y1 y2 y3 y4 y5 HBW;rintro e sB ⟨rfl,kB⟩;replace HS:=Zh (HS.o.up kB);clear kB
  have HFIN:Hi (BAt sB pb (cC 0 (r.clauses.take (i+1)))/\BFr pb w3 sB):=by
   refine⟨?_,HS.o.fr⟩;have h:=HS.o.at';rw[HCS.o];have e4:((l2++(⟨17,0,[]⟩:OpM)::[⟨22,x.action,x.reason⟩]).length:Nat)=L.length+E.length+3:=by simp[xC.o.2];omega
   rw[e4,<- xC.o.1]at h;simpa[op0] using h
  clear HS;go_wp2;go_roundg (nc-(i+1))
  case measure=>have:=HGI.o;omega
  case rel=>exact⟨i+1,by have:=HGI.o;omega,rfl,by rw[uF.o],HFIN.o⟩
 ·as_aux_lemma=>
  have dil:decide ((i:Int)<(nc:Int))=false:=zH zo;have diN:decide (i<nc)=false:=zH hi;have aA:r.clauses.take i=r.clauses:=List.take_of_length_le (by rw[tC.o];omega);rw[aA]at zB |-;obtain⟨V,hV⟩:∃V,Qbv r.clauses=V:=⟨_,rfl⟩
  obtain⟨L0,bC⟩:∃L0,cC 0 r.clauses=L0:=⟨_,rfl⟩
  rw[bC]at zB;rw[hV];have hcl:=(JL r).2.2.2;rw[bC]at hcl;have pA:Hi (L0.length+1+(cF (L0.length+1) r.funcs).length<=40000000):=by unfold Hi;omega
  have sD:=Zh (And.intro hV bC);have vC:Hi (QdA w3 pb rb/\QdA w3 pb qb/\QdA w3 pb cx):=⟨⟨Jb HX3.o,gA.o.1,by rw[vB.o];simp⟩,⟨Jb vE.o,gA.o.2.1,by rw[vB.o];simp⟩,⟨Jb qC.o,gA.o.2.2.1,by rw[vB.o];simp⟩⟩
  have rD:=Zh ((vC.o.1.on HFR.o).2.trans HX3.o);obtain⟨b0,b1,b2⟩:=Qay rD.o;clear hi hg aA hV bC hcl yD;go_wp2_with fail;refine(JU wl pb L0 22 r.action [] zB.o (zu pA.o)).mono ?_;clear b0 b1 b2;rintro e w4 ⟨rfl,hat,hfr⟩;have cA:=Zh (HFR.o.trans hfr);have uB:=Zh hat;clear hat hfr HFR zB rD;have HX4:=Zh ((vC.o.1.on cA.o).2.trans HX3.o);have jF:=Zh ((vC.o.2.1.on cA.o).2.trans vE.o);have HC4:=Zh ((vC.o.2.2.on cA.o).2.trans qC.o);have jA:Hi (Below pb w3 w4):=cA.o.below;clear vC cA;obtain⟨M,hM⟩:∃M,L0++[(⟨22,r.action,[]⟩:OpM)]=M:=⟨_,rfl⟩
  have dD:M.length=L0.length+1:=by rw[<- hM];simp
  rw[hM]at uB;have xE:=Zh (And.intro hM dD);rw[<- dD]at pA
  have qD:Hi (QdN pb cx (M++cF M.length (r.funcs.take 0)) Nl Nl Nl (QaC M.length (r.funcs.take 0)) ((r.funcs.take 0).map λf=>(f.params.length:Int)) ((r.funcs.take 0).map λf=>max (f.params.length:Int) (QaD f.body)) w4):=by
   have h0:∀W:World,W.ownsRow (cx+1) 3 1 Nl 0 []:=λW=>⟨by simp,.inl ⟨rfl,rfl⟩⟩
   refine⟨by rw[List.take_zero,cF,List.append_nil];exact uB.o,HC4.o,h0 _,h0 _,h0 _,(λk h=>by simp[Value.ownBlock]at h),(λk h=>by simp[Value.ownBlock]at h),(λk h=>by simp[Value.ownBlock]at h),by have:=hA.o;omega⟩
  clear hM dD uB HC4;obtain⟨b0,b1,b2⟩:=Qay HX4.o;go_wp2_with fail;clear b0 b1 b2;go_loopg [54] nf λg v54 wr=>∃(j:Nat) (sv pv lv:Value),g+j=nf/\v54=Iv (j:Int)/\Hi (QdN pb cx (M++cF M.length (r.funcs.take j)) sv pv lv (QaC M.length (r.funcs.take j)) ((r.funcs.take j).map λf=>(f.params.length:Int)) ((r.funcs.take j).map λf=>max (f.params.length:Int) (QaD f.body)) wr/\Below pb w4 wr)
  case atStart=>exact⟨0,_,_,_,rfl,rfl,qD.o,zO⟩
  case round=>
  clear qD;obtain⟨xA,rfl⟩:=zJ wr;obtain⟨j,sv,pv,lv,hg,rfl,hws⟩:=hrel;have HF:=Zh hws.o.1;have HB:=Zh hws.o.2;clear hws
  by_cases hi:j<nf
  ·as_aux_lemma=>
   have dil:decide ((j:Int)<(nf:Int))=true:=zG zo;have diN:decide (j<nf)=true:=zG hi;obtain⟨f,hf⟩:∃f,r.funcs[j]?=some f:=⟨_,List.getElem?_eq_getElem (by rw[bD.o];exact hi)⟩
   have eC:=List.mem_of_getElem? hf;have eD:=YX dE.o eC;have sE:=(HZ.o.fn f eC).2.1;have rB:=JbP kC.o _ _ _ eD;have hlx:=Jei kC.o _ _ _ zo eD;have aA:r.funcs.take (j+1)=r.funcs.take j++[f]:=by rw[List.take_add_one,hf];rfl
   obtain⟨hc1,hc2⟩:=Jek (r.funcs.take j) M.length f;rw[<- aA,JnP]at hc1;rw[<- aA]at hc2
   have sA:(cF M.length (r.funcs.take (j+1))).length<=(cF M.length r.funcs).length:=by
    have h2:r.funcs=r.funcs.take (j+1)++r.funcs.drop (j+1):=(List.take_append_drop _ _).symm
    have h3:∀(y z:List FnM),(cF M.length y).length<=(cF M.length (y++z)).length:=by
     intro y z
     induction z generalizing y with
     |nil=>rw[List.append_nil];exact le_refl _
     |cons a z ih=>
      have h4:=ih (y++[a]);rw[append_assoc,List.singleton_append]at h4;refine Nat.le_trans ?_ h4;rw[(Jek y M.length a).1,length_append];omega
    have:=h3 (r.funcs.take (j+1)) (r.funcs.drop (j+1))
    rwa [<- h2]at this
   have mD:(r.funcs.take (j+1)).map (λf=>(f.params.length:Int))=(r.funcs.take j).map (λf=>(f.params.length:Int))++[(f.params.length:Int)]:=by rw[aA,List.map_append];rfl
   have dC:(r.funcs.take (j+1)).map (λf=>max (f.params.length:Int) (QaD f.body))=(r.funcs.take j).map (λf=>max (f.params.length:Int) (QaD f.body))++[max (f.params.length:Int) (QaD f.body)]:=by rw[aA,List.map_append];rfl
   obtain⟨LL,xB⟩:∃LL,M++cF M.length (r.funcs.take j)=LL:=⟨_,rfl⟩
   have yE:LL.length=M.length+(cF M.length (r.funcs.take j)).length:=by rw[<- xB,length_append]
   obtain⟨E,hE⟩:∃E,cE LL.length f.body=E:=⟨_,rfl⟩
   rw[<- yE]at hc1 hc2;rw[hE]at hc1;have kD:M++cF M.length (r.funcs.take (j+1))=LL++E++[op0 20]:=by rw[hc1,<- xB];simp
   have iE:LL.length+E.length+1<=40000000:=by
    have h1:=congrArg List.length kD;simp only[length_append,length_cons,length_nil]at h1;have:=pA.o;omega
   obtain⟨SS,yB⟩:∃SS,QaC M.length (r.funcs.take j)=SS:=⟨_,rfl⟩
   obtain⟨PP,tA⟩:∃PP,(r.funcs.take j).map (λf=>(f.params.length:Int))=PP:=⟨_,rfl⟩
   obtain⟨QQ,qA⟩:∃QQ,(r.funcs.take j).map (λf=>max (f.params.length:Int) (QaD f.body))=QQ:=⟨_,rfl⟩
   have qB:SS.length<=1000000/\PP.length<=1000000/\QQ.length<=1000000:=by
    have:=HZ.o.nf;rw[<- yB,<- tA,<- qA,K8,List.length_map,List.length_map,List.length_take];omega
   rw[xB,yB,tA,qA]at HF;rw[yB]at hc2;rw[tA]at mD;rw[qA]at dC;obtain⟨Z,hZ⟩:∃Z,QaD f.body=Z:=⟨_,rfl⟩
   rw[hZ]at dC;obtain⟨b1,o1,rfl,hk1⟩:=dF.o (List.ne_nil_of_mem eC);obtain⟨d1,hr1,vA⟩:=hk1 j f hf;obtain⟨pa,pc,xa,xc,rfl,_,nB⟩:=hr1.form;have HBW:Hi (Bel w xA):=Below.trans (Below.trans aB.o (jA.o.mono bA.o)) (HB.o.mono bA.o)
   obtain⟨p0,p1,p2,p3,p4,p5,p6⟩:xA.cell? ⟨b1,o1+j*7,none⟩=some (.string (bs f.name))/\xA.cell? ⟨b1,o1+j*7+1,none⟩=some (.slice pa f.params.length pc)/\xA.cell? ⟨b1,o1+j*7+2,none⟩=some (Iv f.result)/\xA.cell? ⟨b1,o1+j*7+3,none⟩=some (Iv f.body.kind)/\xA.cell? ⟨b1,o1+j*7+4,none⟩=some (Iv f.body.num)/\xA.cell? ⟨b1,o1+j*7+5,none⟩=some (.string (bs f.body.name))/\xA.cell? ⟨b1,o1+j*7+6,none⟩=some (.slice xa f.body.kids.length xc):=
    ⟨vA xA HBW.o 0 _ rfl,vA xA HBW.o 1 _ rfl,vA xA HBW.o 2 _ rfl,vA xA HBW.o 3 _ rfl,vA xA HBW.o 4 _ rfl,vA xA HBW.o 5 _ rfl,vA xA HBW.o 6 _ rfl⟩
   have k0:0<=(j:Int):=zo;have k1:(j:Int)<(nf:Int):=zo;have jB:=HZ.o.nf;rw[bD.o]at jB;have wk:IntKind.i64.wrap ((j:Int)+1)=((j+1:Nat):Int):=by rw[IntWalk.i64_in _ zo];omega
   have zC:=Zh nB;have rC:=Zh rB;have hD:=Zh hlx;have HCC:=Zh kD;have HC2:=Zh hc2;have HM1:=Zh mD;have HM2:=Zh dC;have jE:=Zh iE;have cB:=Zh qB;have HE:=Zh hE;have HZZ:=Zh hZ;have HGI:=Zh (And.intro hg hi);clear hf eC eD sE rB hlx aA hc1 hc2 sA mD dC xB yE hE kD iE yB tA qA qB hZ hk1 hr1 vA nB hg hi jB;go_upto_region 20 with fail;clear p0 p1 p2 p3 p4 p5 p6;obtain⟨yb,xD⟩:∃yb,xA.heap.size=yb:=⟨_,rfl⟩
   have HY:=Zh (zQ xA (.cells #[.string (bs f.name),.slice pa f.params.length pc,Iv f.result,Iv f.body.kind,Iv f.body.num,.string (bs f.body.name),.slice xa f.body.kids.length xc] 41));have nD:=(Below.refl xA.heap.size xA).alloc zP (.cells #[.string (bs f.name),.slice pa f.params.length pc,Iv f.result,Iv f.body.kind,Iv f.body.num,.string (bs f.body.name),.slice xa f.body.kids.length xc] 41);have mE:cx<yb:=by rw[<- xD];exact Jb HF.o.box
   replace HF:=Zh ((HF.o.up nD).up zO.drew);replace HB:=Zh ((HB.o.trans (nD.mono (zu HF.o.lt))).drew);rw[xD]at HY |-;replace HY:Hi ((xA.alloc (.cells #[.string (bs f.name),.slice pa f.params.length pc,Iv f.result,Iv f.body.kind,Iv f.body.num,.string (bs f.body.name),.slice xa f.body.kids.length xc] 41)).drew.heap[yb]?=_):=HY.o;have jD:=Zh mE;clear xD nD HBW mE;generalize xA.alloc _=w5 at *;obtain⟨bv,zA,yA⟩:=HF.o.bat;obtain⟨ba,bc,rfl⟩:=Jv yA;have uA:=Zh zA;clear zA yA;obtain⟨sa,sc,rfl⟩:=Jv HF.o.rs;have s1:w5.drew.cell? ⟨cx,1,none⟩=some (.slice sa SS.length sc):=Ja HF.o.box 1;have s2:w5.drew.cell? ⟨pb,0,none⟩=some (.slice ba LL.length bc):=Ja uA.o 0;refine LB (λW=>W.cell? ⟨cx,1,none⟩=some (.slice sa SS.length sc)/\W.cell? ⟨pb,0,none⟩=some (.slice ba LL.length bc)) 10 ⟨s1,s2⟩ λhH=>?_
   clear s1 s2;generalize w5.drew=w6 at *;refine LK 0 rfl ?_;refine LK 1 rfl ?_;refine LK 2 rfl ?_;refine LK 3 rfl ?_;refine LK 4 rfl ?_;refine LK 5 rfl ?_;refine LK 6 rfl ?_;refine LO 7 rfl λKK hK=>?_
   go_simp;have HOW:=Zh (HF.o.rs.alloc (.cells #[Iv (LL.length:Nat)] 3));have HRW:=Zh (zQ w6 (.cells #[Iv (LL.length:Nat)] 3));refine zU hK (by obtain⟨s1,s2⟩:=hH;simp[*,World.cell?_alloc_some]) λhH=>?_
   clear hK KK;refine LO 8 rfl λKK hK=>?_
   (refine Jq (w6.alloc (.cells #[Iv (LL.length:Nat)] 3)) zt (.tmp 59) (.tmp 65) 29 3 (Iv 0) 1 8 zt underlying29 QcP zt zp (cx+1) _ SS.length (Qad SS) [Iv (LL.length:Nat)] zt HOW.o w6.heap.size zt HRW.o zt (by intro u hu;simp at hu;subst hu;rfl) (zu cB.o) zp (by have:=Jb HF.o.box;rw[World.size_alloc];omega) ?_;intro v' w' hown' hgrow hfr)
   obtain⟨a',c',rfl⟩:=Jv hown';have HG:=Zh (Grw.mk hown' hgrow hfr);have HBX:=Zh (HF.o.cx' HG.o HF.o.rs);have rA:=Zh ((HG.o.blk (Jb uA.o) λe=>by have:=(HF.o.rs.lt pb e).1;have:=HF.o.lt;omega).trans uA.o);have mA:=Zh ((HG.o.blk (Jb HY.o) λe=>absurd (KL HF.o.rs e HY.o) zp).trans HY.o);clear hown' hgrow hfr HOW HRW;refine zU hK ⟨Ja HBX.o 1,Ja rA.o 0⟩ λhH=>?_
   clear hK KK;refine LK 9 rfl ?_;refine LZ 10 rfl λKK hK=>?_
   have s1:=Ja HBX.o 1;have f1:=Jc HBX.o 1;simp only[zW]at s1;go_simp;refine hK.out _ _ ?_;clear hK KK s1 f1 hH;replace HY:=Zh ((heap_setCell_other w' ⟨cx,1,none⟩ yb (.slice a' (SS.length+1) c') (by have:=jD.o;simp;omega)).trans mA.o);replace HB:=Zh (HB.o.trans (HG.o.below HF.o.rs (j:=1) (z:=.slice a' (SS.length+1) c') (le_of_lt HF.o.lt) (zv (Jb HF.o.box) HF.o.lt)));replace HF:=Zh (HF.o.app1 HG.o);clear HG HBX rA mA uA;generalize World.setCell w' _ _=w7 at *;obtain⟨qa,qc,rfl⟩:=Jv HF.o.rp;have s1:w7.cell? ⟨cx,2,none⟩=some (.slice qa PP.length qc):=Ja HF.o.box 2;obtain⟨y0,y1,y2,y3,y4,y5,y6⟩:=Qel HY.o;obtain⟨i0,hi,pB,uC,yC⟩:=info_parts QcP;go_wp2_with (at_builtin;go_loud (refine Ka _ rfl _ _ 29 rfl (cx+1) 3 i0 (Iv 0) 1 8 underlying29 hi pB uC yC rfl zp _ _ _ rfl (HF.o.rp.alloc _) ⟨w7.heap.size,0,none⟩ 1 1 [Iv (f.params.length:Nat)] rfl rfl ?d1 ?d2 zp ?d3 ?d4 ?d5 ?d6))
   case d1=>
    intro j u hj;rw[Kw];simpa using hj
   case d2=>intro u hu;simp at hu;subst hu;rfl
   case d3=>unfold maxLen;have:=cB.o;omega
   case d4=>have:=cB.o;omega
   case d5=>simp;have:=Jb HF.o.box;omega
   intro v' w' hown' hgrow hfr;obtain⟨bv,zA,yA⟩:=HF.o.bat;obtain⟨ba,bc,rfl⟩:=Jv yA;have uA:=Zh zA;clear zA yA;obtain⟨a',c',rfl⟩:=Jv hown';have HG:=Zh (Grw.mk hown' hgrow (by rw[World.size_alloc];exact hfr));have HBX:=Zh (HF.o.cx' HG.o HF.o.rp);have rA:=Zh ((HG.o.blk (Jb uA.o) λe=>by have:=(HF.o.rp.lt pb e).1;have:=HF.o.lt;omega).trans uA.o);have mA:=Zh ((HG.o.blk (Jb HY.o) λe=>absurd (KL HF.o.rp e HY.o) zp).trans HY.o);clear hown' hgrow hfr;clear s1 y0 y1 y2 y3 y4 y5 y6 hi pB uC yC;have s1:=Ja HBX.o 2;have f1:=Jc HBX.o 2;simp only[zW]at s1;go_upto_region 22 with fail;clear s1 f1;replace HY:=Zh ((heap_setCell_other w' ⟨cx,2,none⟩ yb (.slice a' (PP.length+1) c') (by have:=jD.o;simp;omega)).trans mA.o);replace HB:=Zh (HB.o.trans (HG.o.below HF.o.rp (j:=2) (z:=.slice a' (PP.length+1) c') (le_of_lt HF.o.lt) (zv (Jb HF.o.box) HF.o.lt)));replace HF:=Zh (HF.o.app2 HG.o);clear HG HBX rA mA uA;generalize World.setCell w' _ _=w8 at *;replace HF:=Zh (HF.o.up (Below.refl w8.heap.size w8).drew);replace HB:=Zh HB.o.drew;replace HY:Hi (w8.drew.heap[yb]?=_):=HY.o;obtain⟨va,vc,rfl⟩:=Jv HF.o.rl;have s3:w8.drew.cell? ⟨cx,3,none⟩=some (.slice va QQ.length vc):=Ja HF.o.box 3;obtain⟨y0,y1,y2,y3,y4,y5,y6⟩:=Qel HY.o;refine LB (λW=>W.cell? ⟨cx,3,none⟩=some (.slice va QQ.length vc)/\W.cell? ⟨yb,1,none⟩=some (.slice pa f.params.length pc)/\W.cell? ⟨yb,3,none⟩=some (Iv f.body.kind)/\W.cell? ⟨yb,4,none⟩=some (Iv f.body.num)/\W.cell? ⟨yb,5,none⟩=some (.string (bs f.body.name))/\W.cell? ⟨yb,6,none⟩=some (.slice xa f.body.kids.length xc)) 12 ⟨s3,y1,y3,y4,y5,y6⟩ λhH=>?_
   clear s3 y0 y1 y2 y3 y4 y5 y6;generalize w8.drew=w9 at *;refine LK 0 rfl ?_;refine LK 1 rfl ?_;refine LK 2 rfl ?_;refine LK 3 rfl ?_;refine LK 4 rfl ?_;refine LK 5 rfl ?_;refine LK 6 rfl ?_;refine LO 7 rfl λKK hK=>?_
   have HBW:Hi (Bel w w9):=Below.trans (Below.trans aB.o (jA.o.mono bA.o)) (HB.o.mono bA.o);have dB:=JbL f.body _ w9 hD.o zC.o HBW.o;rw[HZZ.o]at dB;go_simp;go_at_call 23;refine dB.mono ?_;clear dB HBW hH;rintro e hB ⟨rfl,nA⟩;replace HB:=Zh (HB.o.trans (nA.mono (le_of_lt HF.o.bat.lt)));replace HF:=Zh (HF.o.up nA);replace HY:=Zh ((nA.block _ (Jb HY.o)).trans HY.o);clear nA;obtain⟨y0,y1,y2,y3,y4,y5,y6⟩:=Qel HY.o;refine zU hK ⟨Ja HF.o.box 3,y1,y3,y4,y5,y6⟩ λhH=>?_
   clear hK KK y0 y1 y2 y3 y4 y5 y6;refine LK 8 rfl ?_;refine LO 9 rfl λKK hK=>?_
   go_simp;have HOW:=Zh (HF.o.rl.alloc (.cells #[Iv (max (f.params.length:Int) Z)] 3));have HRW:=Zh (zQ hB (.cells #[Iv (max (f.params.length:Int) Z)] 3));refine zU hK (by obtain⟨s1,s2,s3,s4,s5,s6⟩:=hH;simp[*,World.cell?_alloc_some]) λhH=>?_
   clear hK KK;obtain⟨bv,zA,yA⟩:=HF.o.bat;obtain⟨ba,bc,rfl⟩:=Jv yA;have uA:=Zh zA;clear zA yA;refine LO 10 rfl λKK hK=>?_
   (refine Jq (hB.alloc (.cells #[Iv (max (f.params.length:Int) Z)] 3)) zt (.tmp 77) (.tmp 85) 29 3 (Iv 0) 1 8 zt underlying29 QcP zt zp (cx+1) _ QQ.length (Qad QQ) [Iv (max (f.params.length:Int) Z)] zt HOW.o hB.heap.size zt HRW.o zt (by intro u hu;simp at hu;subst hu;rfl) (zu cB.o) zp (by have:=Jb HF.o.box;rw[World.size_alloc];omega) ?_;intro v' w' hown' hgrow hfr)
   obtain⟨a',c',rfl⟩:=Jv hown';have HG:=Zh (Grw.mk hown' hgrow hfr);have HBX:=Zh (HF.o.cx' HG.o HF.o.rl);have rA:=Zh ((HG.o.blk (Jb uA.o) λe=>by have:=(HF.o.rl.lt pb e).1;have:=HF.o.lt;omega).trans uA.o);have mA:=Zh ((HG.o.blk (Jb HY.o) λe=>absurd (KL HF.o.rl e HY.o) zp).trans HY.o);clear hown' hgrow hfr HOW HRW;obtain⟨y0,y1,y2,y3,y4,y5,y6⟩:=Qel mA.o;refine zU hK ⟨Ja HBX.o 3,y1,y3,y4,y5,y6⟩ λhH=>?_
   clear hK KK y0 y1 y2 y3 y4 y5 y6;refine LK 11 rfl ?_;refine LZ 12 rfl λKK hK=>?_
   have s1:=Ja HBX.o 3;have f1:=Jc HBX.o 3;simp only[zW]at s1;go_simp;refine hK.out _ _ ?_;clear hK KK s1 f1 hH;replace HY:=Zh ((heap_setCell_other w' ⟨cx,3,none⟩ yb (.slice a' (QQ.length+1) c') (by have:=jD.o;simp;omega)).trans mA.o);replace HB:=Zh (HB.o.trans (HG.o.below HF.o.rl (j:=3) (z:=.slice a' (QQ.length+1) c') (le_of_lt HF.o.lt) (zv (Jb HF.o.box) HF.o.lt)));replace HF:=Zh (HF.o.app3 HG.o);clear HG HBX rA mA uA;generalize World.setCell w' _ _=sB at *;obtain⟨y0,y1,y2,y3,y4,y5,y6⟩:=Qel HY.o;have HBW:Hi (Bel w sB):=Below.trans (Below.trans aB.o (jA.o.mono bA.o)) (HB.o.mono bA.o);have cx1:=Jai (p:=pb) bA.o f.body rC.o _ LL sB zC.o HBW.o HF.o.bat (by rw[HE.o];have:=jE.o;omega);rw[HE.o]at cx1;go_wp2_with fail;refine cx1.mono ?_;clear cx1 y0 y1 y2 y3 y4 y5 y6 HBW HY;rintro e iF ⟨rfl,hat,hfr⟩;replace HF:=Zh (HF.o.bld hat hfr);replace HB:=Zh (HB.o.trans hfr.below);clear hat hfr;go_wp2_with fail;refine(JU iF pb (LL++E) 20 0 [] HF.o.bat (by rw[length_append];have:=jE.o;omega)).mono ?_;rintro e bF ⟨rfl,hat,hfr⟩;replace HF:=Zh (HF.o.bld hat hfr);replace HB:=Zh (HB.o.trans hfr.below);clear hat hfr
   have HFIN:Hi (∃sv pv lv,QdN pb cx (M++cF M.length (r.funcs.take (j+1))) sv pv lv (QaC M.length (r.funcs.take (j+1))) ((r.funcs.take (j+1)).map λf=>(f.params.length:Int)) ((r.funcs.take (j+1)).map λf=>max (f.params.length:Int) (QaD f.body)) bF):=by
    rw[HCC.o,HC2.o,HM1.o,HM2.o];exact⟨_,_,_,HF.o⟩
   clear HF;go_wp2;go_roundg (nf-(j+1))
   case measure=>have:=HGI.o;omega
   case rel=>
    obtain⟨sv,pv,lv,h⟩:=HFIN.o;exact⟨j+1,sv,pv,lv,by have:=HGI.o;omega,rfl,h,HB.o⟩
  ·as_aux_lemma=>
   have dil:decide ((j:Int)<(nf:Int))=false:=zH zo;have diN:decide (j<nf)=false:=zH hi;have aA:r.funcs.take j=r.funcs:=List.take_of_length_le (by rw[bD.o];omega);rw[aA]at HF;clear hi hg aA;obtain⟨LL,xB⟩:∃LL,M++cF M.length r.funcs=LL:=⟨_,rfl⟩
   obtain⟨SS,yB⟩:∃SS,QaC M.length r.funcs=SS:=⟨_,rfl⟩
   obtain⟨PP,tA⟩:∃PP,r.funcs.map (λf=>(f.params.length:Int))=PP:=⟨_,rfl⟩
   obtain⟨QQ,qA⟩:∃QQ,r.funcs.map (λf=>max (f.params.length:Int) (QaD f.body))=QQ:=⟨_,rfl⟩
   have qB:QQ.length<=1000000:=by rw[<- qA,List.length_map];exact HZ.o.nf
   have uE:Qac r=⟨LL,SS,PP,QQ++[V]⟩:=by
    unfold Qac;rw[sD.o.2,sD.o.1,<- xB,<- yB,<- tA,<- qA,xE.o.2,<- xE.o.1];simp
   rw[xB,yB,tA,qA]at HF;have vF:=Zh uE;have cB:=Zh qB;clear xB yB tA qA qB uE;obtain⟨bv,zA,yA⟩:=HF.o.bat;obtain⟨ba,bc,rfl⟩:=Jv yA;have uA:=Zh (And.intro zA yA);clear zA yA;obtain⟨sa,sc,rfl⟩:=Jv HF.o.rs;obtain⟨qa,qc,rfl⟩:=Jv HF.o.rp;obtain⟨va,vc,rfl⟩:=Jv HF.o.rl;have s1:xA.cell? ⟨cx,3,none⟩=some (.slice va QQ.length vc):=Ja HF.o.box 3;obtain⟨i0,hi,pB,uC,yC⟩:=info_parts QcP;go_wp2_with (at_builtin;go_loud (refine Ka _ rfl _ _ 29 rfl (cx+1) 3 i0 (Iv 0) 1 8 underlying29 hi pB uC yC rfl zp _ _ _ rfl (HF.o.rl.alloc _) ⟨xA.heap.size,0,none⟩ 1 1 [Iv V] rfl rfl ?e1 ?e2 zp ?e3 ?e4 ?e5 ?e6))
   case e1=>
    intro j u hj;rw[Kw];simpa using hj
   case e2=>intro u hu;simp at hu;subst hu;rfl
   case e3=>unfold maxLen;have:=cB.o;omega
   case e4=>have:=cB.o;omega
   case e5=>simp;have:=Jb HF.o.box;omega
   intro v' w' hown' hgrow hfr;obtain⟨a',c',rfl⟩:=Jv hown';have HG:=Zh (Grw.mk hown' hgrow (by rw[World.size_alloc];exact hfr));have HBX:=Zh (HF.o.cx' HG.o HF.o.rl);clear hown' hgrow hfr s1 hi pB uC yC;have s1:=Ja HBX.o 3;have f1:=Jc HBX.o 3;simp only[zW]at s1;go_upto_region 27 with fail;clear s1 f1;have HF2:=Zh (HF.o.app3 HG.o);have rA:=Zh ((heap_setCell_other w' ⟨cx,3,none⟩ pb (.slice a' (QQ.length+1) c') (by have:=hA.o;simp;omega)).trans ((HG.o.blk (Jb uA.o.1) λe=>by have:=(HF.o.rl.lt pb e).1;have:=HF.o.lt;omega).trans uA.o.1))
   have pD:=Zh (HG.o.keep HF.o.rl (j:=3) (z:=.slice a' (QQ.length+1) c') uA.o.2 (λk a b=>Y0 HF.o.rl uA.o.2 zp k b a) (λk hk e=>by
    subst e
    exact absurd (KL uA.o.2 hk HF.o.box) zp))
   replace HB:=Zh (HB.o.trans (HG.o.below HF.o.rl (j:=3) (z:=.slice a' (QQ.length+1) c') (le_of_lt HF.o.lt) (zv (Jb HF.o.box) HF.o.lt)));have yF:=Zh ((HB.o.block qb iA.o.2).trans jF.o);clear HF HG HBX uA;generalize World.setCell w' _ _=w5 at *;have s0:=Ja HF2.o.box 0;have s1:=Ja HF2.o.box 1;have s2:=Ja HF2.o.box 2;have s3:=Ja HF2.o.box 3;have f0:=Jc HF2.o.box 0;simp only[zW]at s0 s1 s2 s3;have p0:=Jir rA.o;go_upto_region 28 with fail;clear s0 s1 s2 s3 f0 p0;have hbx:=Jm HF2.o.box 0 (.slice ba LL.length bc);have HBX:=Zh hbx;have tD:qb≠cx:=gA.o.2.2.2.2;have kA:=Zh ((heap_setCell_other w5 ⟨cx,0,none⟩ qb (.slice ba LL.length bc) (by simpa using tD)).trans yF.o)
   have gE:Hi (∀W,W=w5.setCell ⟨cx,0,none⟩ (.slice ba LL.length bc)->∀k,k≠cx->W.heap[k]?=w5.heap[k]?):=by
    rintro W rfl k hk;exact heap_setCell_other _ _ _ _ (by simpa using hk)
   have HB6:Hi (Below pb w4 (w5.setCell ⟨cx,0,none⟩ (.slice ba LL.length bc))):=HB.o.setCell (by have:=hA.o;simp;omega) _;have xF:Hi (∃W,W=w5.setCell ⟨cx,0,none⟩ (.slice ba LL.length bc)):=⟨_,rfl⟩
   clear hbx tD;generalize pE:w5.setCell ⟨cx,0,none⟩ (.slice ba LL.length bc)=w6 at *;have rE:=Zh (gE.o w6 rfl);clear pE gE xF;have s0:=Ja HBX.o 0;have s1:=Ja HBX.o 1;have s2:=Ja HBX.o 2;have s3:=Ja HBX.o 3;have q0:=Ja kA.o 0;have q1:=Ja kA.o 1;have q2:=Ja kA.o 2;have q3:=Ja kA.o 3;have f0:=Jc kA.o 0;have f1:=Jc kA.o 1;have f2:=Jc kA.o 2;have f3:=Jc kA.o 3;simp only[List.getElem?_toArray,List.getElem?_cons_succ,List.getElem?_cons_zero,List.setIfInBounds_toArray,List.set_cons_zero]at s0 s1 s2 s3 q0 q1 q2 q3;go_wp2;clear s0 s1 s2 s3 q0 q1 q2 q3 f0 f1 f2 f3;have eF:=Jm (Jm (Jm (Jm kA.o 0 (.slice ba LL.length bc)) 1 (.slice sa SS.length sc)) 2 (.slice qa PP.length qc)) 3 (.slice a' (QQ.length+1) c');refine bodyPost_ret (v:=.agg #[.slice ba LL.length bc,.slice sa SS.length sc,.slice qa PP.length qc,.slice a' (QQ.length+1) c']) (results_cell_row rfl _ _ qb 31 _ (0,0) _ rfl eF underlying31 rfl QeR) rfl ?_;rw[HR.o,HCM.o,vF.o];generalize eE:(((w6.setCell ⟨qb,0,none⟩ (.slice ba LL.length bc)).setCell ⟨qb,1,none⟩ (.slice sa SS.length sc)).setCell ⟨qb,2,none⟩ (.slice qa PP.length qc)).setCell ⟨qb,3,none⟩ (.slice a' (QQ.length+1) c')=Wf
   have hk:∀k,k≠cx->k≠qb->Wf.heap[k]?=w5.heap[k]?:=λk h1 h2=>by
    rw[<- eE];rw[heap_setCell_other _ _ _ _ (by simpa using h2),heap_setCell_other _ _ _ _ (by simpa using h2),heap_setCell_other _ _ _ _ (by simpa using h2),heap_setCell_other _ _ _ _ (by simpa using h2)];exact rE.o k h1
   have tE:Below w.heap.size w Wf:=by
    have h1:Below w.heap.size w w6:=(aB.o.trans (jA.o.mono bA.o)).trans (HB6.o.mono bA.o);rw[<- eE];exact(((h1.setCell (by simpa using HLO.o.2) _).setCell (by simpa using HLO.o.2) _).setCell (by simpa using HLO.o.2) _).setCell (by simpa using HLO.o.2) _
   have bB:∀{v:Value} {l:List Int},w5.ownsRow (cx+1) 3 1 v l.length (Qad l)->QbX Wf Wf.heap.size v l:=λ{v l} hv=>
    Qan.own (Kh hv λk hk'=>hk k (zu ((hv.lt k hk').1)) (by have:=(hv.lt k hk').1;have:=iA.o.2;have:=hA.o;omega)) (JaZ l) λg hg=>((Kh hv λk hk'=>hk k (zu ((hv.lt k hk').1)) (by have:=(hv.lt k hk').1;have:=iA.o.2;have:=hA.o;omega)).lt g hg).2
   have tB:=Kh pD.o λk hk'=>hk k (λe=>by subst e;exact absurd (KL pD.o hk' HF2.o.box) zp) (zv ((pD.o.lt k hk').1) iA.o.2)
   refine⟨_,rfl,⟨_,_,_,_,rfl,Qan.own tB (JcR LL) λg hg=>(tB.lt g hg).2,bB HF2.o.rs,bB HF2.o.rp,bB HF2.o.rl⟩,tE⟩
end Go.Proofs.YtfafpklefknomaaGreatDoor
