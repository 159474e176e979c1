import Derived.StillTailTactics
import Derived.Test.YtfafpklefknomaaGreatDoorM08
import Derived.Test.YtfafpklefknomaaGreatDoorM09
open List(append_assoc cons_append length_append length_cons length_nil)
open Nat(le_of_lt le_refl le_trans)
namespace Go.Proofs.YtfafpklefknomaaGreatDoor
open Go Go.ChangeShapes Go.WideShapes Go.ChangeAt Go.RowKit Go.Lib
open _root_.Go.Proofs.Tryz
set_option linter.all false
set_option maxRecDepth 100000
set_option maxHeartbeats 32000000
mutual
def JbP{pa:List Nat}(U5:∀n∈pa,n<=1000000):∀(e:Exp)(M0 Qag:Nat),QaK pa M0 Qag e=true->ArN e
 |.mk k n s l,M0,Qag,hf=>by
  obtain⟨_,hfi,har,hk⟩:=JI hf;rw[ArN]
  have h1:QaM pa k n<=1000000:=by
   unfold QaM
   repeat' split
   all_goals try omega
   rw[List.getD_eq_getElem?_getD]
   cases hx:pa[n.toNat]? with
   |none=>exact Nat.zero_le _
   |some x=>exact U5 x (List.mem_of_getElem? hx)
  refine⟨λh=>?_,λh=>?_,by omega,Jft U5 l M0 (Qag-1) k 0 hk⟩
  ·rw[har];unfold QaM;(iterate 4 rw[if_neg (by omega)])
  ·rw[har,h];rfl
def Jft{pa:List Nat}(U5:∀n∈pa,n<=1000000):∀(l:List Exp)(M0 Qag:Nat)(k:Int)(i:Nat),QaB pa M0 Qag k i l=true->ArL l
 |[],M0,Qag,k,i,hf=>by rw[ArL];trivial
 |a::l,M0,Qag,k,i,hf=>by
  rw[QaB]at hf;simp only[Bool.and_eq_true]at hf;rw[ArL];exact⟨JbP U5 a _ Qag hf.1,Jft U5 l M0 Qag k (i+1) hf.2⟩
end
mutual
def Jei{pa:List Nat}(U5:∀n∈pa,n<=1000000):∀(e:Exp)(M0 Qag:Nat),M0+Qag<=1000000000->QaK pa M0 Qag e=true->LoN e
 |.mk k n s l,M0,Qag,hv,hf=>by
  have ha:=JbP U5 _ _ _ hf;obtain⟨h1,hfi,har,hk⟩:=JI hf;rw[ArN]at ha;rw[LoN];refine⟨λe=>?_,ha.2.2.1,Jfu U5 l M0 (Qag-1) k 0 (by omega) hk⟩;unfold Qam at hfi;simp[e]at hfi;have:=hfi.1;omega
def Jfu{pa:List Nat}(U5:∀n∈pa,n<=1000000):∀(l:List Exp)(M0 Qag:Nat)(k:Int)(i:Nat),M0+1+Qag<=1000000000->QaB pa M0 Qag k i l=true->LoL l
 |[],M0,Qag,k,i,hv,hf=>by rw[LoL];trivial
 |a::l,M0,Qag,k,i,hv,hf=>by
  rw[QaB]at hf;simp only[Bool.and_eq_true]at hf;rw[LoL];exact⟨Jei U5 a _ Qag (by split<;>omega) hf.1,Jfu U5 l M0 Qag k (i+1) hv hf.2⟩
end
def Jej:∀(l:List ClM)(p:Nat)(x:ClM),cC p (l++[x])=cC p l++cC (p+(cC p l).length) [x]
 |[],p,x=>by rw[List.nil_append,cC];simp[cC]
 |y::l,p,x=>by
  rw[cons_append,cC,cC,Jej l];simp only[cons_append,append_assoc,length_cons,length_append]
  congr 6
  omega
def Jek:∀(l:List FnM)(p:Nat)(x:FnM),cF p (l++[x])=cF p l++cF (p+(cF p l).length) [x]/\QaC p (l++[x])=QaC p l++[((p+(cF p l).length:Nat):Int)]
 |[],p,x=>by rw[List.nil_append,cF,QaC];simp[cF,QaC]
 |y::l,p,x=>by
  obtain⟨h1,h2⟩:=Jek l (p+(cE p y.body).length+1) x;rw[cons_append,cF,cF,QaC,QaC,h1,h2];simp only[cons_append,append_assoc,length_cons,length_append];refine⟨?_,?_⟩
  ·congr 4
   omega
  ·congr 4
   omega
def JaY:∀(l:List ClM)(x:ClM),0<=QaD x.cond->Qbv (l++[x])=max (Qbv l) (QaD x.cond)
 |[],x,h=>by rw[List.nil_append,Qbv,Qbv,Qbv];omega
 |y::l,x,h=>by rw[cons_append,Qbv,Qbv,JaY l x h];omega
def QeR:(prog.info? 31).map (λx=>x.size)=some 4:=zk
variable{W w3 W':World}{a0 a1 a2 sv u z:Value}{fr:Nat×Nat}{t pb T e sz n j:Nat}
def QiF{b:Nat}{a3 a4 a5:Value}(h:W.heap[b]?=some (.cells #[a0,a1,a2,a3,a4,a5] t fr)):
  yZ W b a0 a1 a2 a3 a4 a5:=by
 refine⟨?_,?_,?_,?_,?_,?_⟩<;>(rw[Ja h];rfl)
structure CSt(w3:World)(pb yb T:Nat)(cs:Array Value)(l:List OpM)(W:World):Prop where
 at':BAt W pb l
 fr:BFr pb w3 W
 aside:QdA W pb yb
 box:W.heap[yb]?=some (.cells cs T (0,0))
variable{cs:Array Value}
def CSt.next{yb:Nat}{l l':List OpM}(h:CSt w3 pb yb T cs l W)(ha:BAt W' pb l')(hf:BFr pb W W'):CSt w3 pb yb T cs l' W':=
 ⟨ha,h.fr.trans hf,(h.aside.on hf).1,(h.aside.on hf).2.trans h.box⟩
def CSt.up{yb:Nat}{l:List OpM}(h:CSt w3 pb yb T cs l W)(hb:yr W W'):CSt w3 pb yb T cs l W':=
 h.next (h.at'.up hb) ⟨hb.mono (le_of_lt h.at'.lt),λk hk _ _=>hb.block k hk,λk hk=>.inl (by unfold QfG at hk |-;rwa [hb.block _ h.at'.lt]at hk)⟩
def CSt.first{w:World}{l:List OpM}(h:BAt w pb l)(hf:BFr pb w3 w):CSt w3 pb w.heap.size T cs l (w.alloc (.cells cs T)):=
 ⟨h.up (zO.alloc zP _),hf.trans (BFr.alloc h.lt _),QdA.new h _,zQ w _⟩
def Jlo(p:Nat)(x:ClM):cC p [x]=op0 21::(cE (p+1) x.cond++[⟨17,((p+(cE (p+1) x.cond).length+3:Nat):Int),[]⟩,⟨22,x.action,x.reason⟩]):=by
 rw[cC,cC]
def Qel{b:Nat}{a3 a4 a5 a6:Value}(h:W.heap[b]?=some (.cells #[a0,a1,a2,a3,a4,a5,a6] t fr)):
  yW W b a0 a1 a2 a3 a4 a5 a6:=by
 refine⟨?_,?_,?_,?_,?_,?_,?_⟩<;>(rw[Ja h];rfl)
def JnP(p:Nat)(f:FnM):cF p [f]=cE p f.body++[op0 20]:=by rw[cF,cF]
def Jir{b:Nat}(h:W.heap[b]?=some (.cells #[a0] t fr)):W.cell? ⟨b,0,none⟩=some a0:=Ja h 0
def JaZ:∀l:List Int,QbM (λa c=>c=[Iv a]) l (Qad l)
 |[]=>rfl
 |a::l=>⟨_,_,rfl,rfl,JaZ l⟩
def JcR:∀l:List OpM,QbM (λ(a:OpM) c=>c=[Iv a.code,Iv a.n,Sv a.name]) l (Qfd l)
 |[]=>rfl
 |a::l=>⟨_,_,rfl,by unfold Qfd;rw[List.flatMap_cons];rfl,JcR l⟩
def QfA(w:World)(cm:Qaf)(e:Ending)(w':World):Prop:=∃d,e=.returned (.agg d)/\CV w' w'.heap.size cm d/\yr w w'
def QaV.up'{w:World}{r:Qah}{c:Array Value}(h:QaV w (In w) r c)(hb:yr w W):QaV W (In W) r c:=
 h.keep (λb hb'=>hb.block b hb') λb hb'=>Nat.lt_of_lt_of_le hb' hb.size
def JcS(W:World)(p:Nat):CV W p QcK #[Nl,Nl,Nl,Nl]:=
 ⟨_,_,_,_,rfl,⟨none,0,[],rfl,le_refl _,rfl,.inl rfl⟩,⟨none,0,[],rfl,le_refl _,rfl,.inl rfl⟩,⟨none,0,[],rfl,le_refl _,rfl,.inl rfl⟩,⟨none,0,[],rfl,le_refl _,rfl,.inl rfl⟩⟩
structure QdN(pb cx:Nat)(l:List OpM)(sv pv lv:Value)(S P L:List Int)(W:World):Prop where
 bat:BAt W pb l
 box:W.heap[cx]?=some (.cells #[Nl,sv,pv,lv] 31 (0,0))
 rs:W.ownsRow (cx+1) 3 1 sv S.length (Qad S)
 rp:W.ownsRow (cx+1) 3 1 pv P.length (Qad P)
 rl:W.ownsRow (cx+1) 3 1 lv L.length (Qad L)
 d1:Qcf sv pv
 d2:Qcf sv lv
 d3:Qcf pv lv
 lt:pb<cx
variable{xs:List Value}
def Y0{w:World}{b b' e' sz' n':Nat}{v v':Value}{xs':List Value}(h:w.ownsRow b e sz v n xs)(h':w.ownsRow b' e' sz' v' n' xs')(hne:e≠e'):Qcf v v':=λk hk hk'=>by
 rcases h'.2 with⟨rfl,_⟩|⟨g',cap',cur',rfl,_,hg',_⟩
 ·simp[Value.ownBlock]at hk'
 ·simp[Value.ownBlock]at hk';subst hk';exact hne (KL h hk hg').symm
def Qcf.symm{a b:Value}(h:Qcf a b):Qcf b a:=λk h1 h2=>h k h2 h1
def QdN.bld{cx:Nat}{l l':List OpM}{pv lv:Value}{S P L:List Int}(h:QdN pb cx l sv pv lv S P L W)(ha:BAt W' pb l')(hf:BFr pb W W'):QdN pb cx l' sv pv lv S P L W':=by
 obtain⟨bv,L1,I0⟩:=h.bat;have hrow:∀k,QfG W pb=some k->bv.ownBlock=some k:=λk hk=>by rwa [Vl L1]at hk
 have xA:∀{v:Value}{n:Nat}{xs:List Value},W.ownsRow (cx+1) 3 1 v n xs->W'.ownsRow (cx+1) 3 1 v n xs:=λ{v n xs} hv=>Kh hv λk hk=>hf.keep k (hv.lt k hk).2 (zv ((hv.lt k hk).1) h.lt) λe=>Y0 hv I0 zp k hk (hrow k e)
 have yA:W'.heap[cx]?=W.heap[cx]?:=hf.keep cx (Jb h.box) (zu h.lt) λe=>absurd (KL I0 (hrow _ e) h.box) zp
 exact⟨ha,yA.trans h.box,xA h.rs,xA h.rp,xA h.rl,h.d1,h.d2,h.d3,h.lt⟩
def QdN.up{cx:Nat}{l:List OpM}{pv lv:Value}{S P L:List Int}(h:QdN pb cx l sv pv lv S P L W)(hb:yr W W'):QdN pb cx l sv pv lv S P L W':=
 ⟨h.bat.up hb,(hb.block _ (Jb h.box)).trans h.box,JX h.rs hb,JX h.rp hb,JX h.rl hb,h.d1,h.d2,h.d3,h.lt⟩
structure Grw(W w':World)(cx:Nat)(v v':Value)(l:List Int)(x:Int)(X:Obj):Prop where
 own:w'.ownsRow (cx+1) 3 1 v' (l.length+1) (Qad l++[Iv x])
 grow:(W.alloc X).grownBy w' v.ownBlock
 fr:v'.ownBlock=v.ownBlock\/v'.ownBlock=some (W.alloc X).heap.size
section
variable {pb cx:Nat}{lo:List OpM}{sv pv lv v v':Value}{S P L l:List Int}{W w':World}{x:Int}{X:Obj}
def Grw.keep(h:Grw W w' cx v v' l x X)(hv:W.ownsRow (cx+1) 3 1 v l.length (Qad l)){b:Nat}(hu:W.ownsRow b e sz u n xs)(ha:Qcf u v)(hc:∀k,u.ownBlock=some k->k≠cx):(w'.setCell ⟨cx,j,none⟩ z).ownsRow b e sz u n xs:=by
 refine Kh ((hu.alloc X).kept h.grow (by
  cases ho:u.ownBlock with
  |none=>exact .inl rfl
  |some k=>exact .inr λe=>ha k ho e.symm)) λk hk=>heap_setCell_other _ _ _ _ (by simpa using hc k hk)
def Grw.blk(h:Grw W w' cx v v' l x X){k:Nat}(hk:k<W.heap.size)(hn:v.ownBlock≠some k):w'.heap[k]?=W.heap[k]?:=
 (h.grow.block k zr λe=>hn e.symm).trans (heap_alloc_old _ _ hk)
def Grw.new(h:Grw W w' cx v v' l x X){b:Nat}(hu:W.ownsRow b e sz u n xs)(ha:Qcf v u):Qcf v' u:=λk h1 h2=>by
 rcases h.fr with e|e
 ·exact ha k (e.symm.trans h1) h2
 ·rw[h1]at e;have:=(hu.lt k h2).2;simp at e;omega
def Grw.own'(h:Grw W w' cx v v' l x X):(w'.setCell ⟨cx,j,none⟩ z).ownsRow (cx+1) 3 1 v' (l++[x]).length (Qad (l++[x])):=by
 have e:Qad (l++[x])=Qad l++[Iv x]:=by unfold Qad;simp
 rw[e,length_append];exact Jfl h.own zq z
def Jal(hv:W.ownsRow (cx+1) 3 1 v l.length (Qad l)):∀k,v.ownBlock=some k->k≠cx:=λk hk=>by have:=(hv.lt k hk).1;omega
section
variable (h:QdN pb cx lo sv pv lv S P L W)
include h
theorem QdN.bat'(g:Grw W w' cx v v' l x X)(hv:W.ownsRow (cx+1) 3 1 v l.length (Qad l)):BAt (w'.setCell ⟨cx,j,none⟩ z) pb lo:=by
 obtain⟨bv,L1,I0⟩:=h.bat;have hl:=h.lt;have h1:w'.heap[pb]?=W.heap[pb]?:=g.blk (Jb L1) (λe=>by have:=(hv.lt pb e).1;omega);refine⟨bv,(heap_setCell_other _ _ _ _ zr).trans (h1.trans L1),g.keep hv I0 (λk a b=>Y0 hv I0 zp k b a) λk hk e=>?_⟩;subst e;exact absurd (KL I0 hk h.box) zp
theorem QdN.cx'(g:Grw W w' cx v v' l x X)(hv:W.ownsRow (cx+1) 3 1 v l.length (Qad l)):w'.heap[cx]?=some (.cells #[Nl,sv,pv,lv] 31 (0,0)):=
 (g.blk (Jb h.box) λe=>Jal hv cx e rfl).trans h.box
theorem QdN.app1(g:Grw W w' cx sv v' S x X):QdN pb cx lo v' pv lv (S++[x]) P L (w'.setCell ⟨cx,1,none⟩ v'):=
 ⟨h.bat' g h.rs,Jm (h.cx' g h.rs) 1 v',g.own',g.keep h.rs h.rp h.d1.symm (Jal h.rp),g.keep h.rs h.rl h.d2.symm (Jal h.rl),g.new h.rp h.d1,g.new h.rl h.d2,h.d3,h.lt⟩
theorem QdN.app2(g:Grw W w' cx pv v' P x X):QdN pb cx lo sv v' lv S (P++[x]) L (w'.setCell ⟨cx,2,none⟩ v'):=
 ⟨h.bat' g h.rp,Jm (h.cx' g h.rp) 2 v',g.keep h.rp h.rs h.d1 (Jal h.rs),g.own',g.keep h.rp h.rl h.d3.symm (Jal h.rl),(g.new h.rs h.d1.symm).symm,h.d2,g.new h.rl h.d3,h.lt⟩
theorem QdN.app3(g:Grw W w' cx lv v' L x X):QdN pb cx lo sv pv v' S P (L++[x]) (w'.setCell ⟨cx,3,none⟩ v'):=
 ⟨h.bat' g h.rl,Jm (h.cx' g h.rl) 3 v',g.keep h.rl h.rs h.d2 (Jal h.rs),g.keep h.rl h.rp h.d3 (Jal h.rp),g.own',h.d1,(g.new h.rs h.d2.symm).symm,(g.new h.rp h.d3.symm).symm,h.lt⟩
end
def Grw.below(g:Grw W w' cx v v' l x X)(hv:W.ownsRow (cx+1) 3 1 v l.length (Qad l)){m:Nat}(hm:m<=cx)(hs:m<=W.heap.size):Below m W (w'.setCell ⟨cx,j,none⟩ z):=
 (((zO.alloc hs X).grown g.grow zr λk hk=>by have:=(hv.lt k hk).1;omega)).setCell (by simpa using hm) z
end
def Ki(r:Qah)(c:Array Value)(w:World)(hx:QaV w (In w) r c)(hz:RSz r)(hsh:Qat r=true->(Qac r).ops.length<=40000000):Calls prog 10 #[.agg c] w (QfA w (Qai r)):=by
 obtain⟨R,hR⟩:=yt (QfA w (Qai r))
 rw[hR];have HR:Hi (R=QfA w (Qai r)):=hR.symm;have uD:=hx;obtain⟨fv,cv,rfl,hF,hC⟩:=hx;obtain⟨fa,fc,rfl,gF⟩:=Qdy.of (m:=7) (λa c h=>by obtain⟨_,_,_,_,h1,_⟩:=h.form;rw[h1];rfl) hF;obtain⟨ca,cc,rfl,gC⟩:=Qdy.of (m:=6) (λa c h=>by obtain⟨_,_,h1,_⟩:=h.form;rw[h1];rfl) hC;obtain⟨nf,aD⟩:=yt r.funcs.length
 obtain⟨nc,iD⟩:=yt r.clauses.length
 rw[aD,iD]at uD |-;have R0:=Jaa w (.cells (zY fa nf fc ca nc cc r.action) 25) (.cells #[Nl,Nl,Nl,Nl] 31);have H7:=Yc w (.cells (zY fa nf fc ca nc cc r.action) 25) (.cells #[Nl,Nl,Nl,Nl] 31);have C4:=Zh R0.1;have B0:=Zh R0.2;have gB:=Zh H7;have qE:=Zh uD;have HZ:=Zh hz;have aF:=Zh hsh;have dF:=Zh gF;have zF:=Zh gC;have bD:=Zh aD;have tC:=Zh iD;clear hR uD hF hC gF gC R0 H7 hz hsh aD iD;go_enter func10,ntmps10;go_upto_region 1 with fail
 try simp only[World.size_alloc]
 have nE:Hi (w.heap.size≠w.heap.size+1):=by unfold Hi;omega
 obtain⟨qb,bE⟩:=yt (w.heap.size+1)
 obtain⟨rb,kE⟩:=yt w.heap.size
 rw[bE]at B0 nE |-;rw[kE]at C4 nE |-;have D6:Hi (w.heap.size<=rb/\w.heap.size<=qb):=by unfold Hi;omega
 clear bE kE;generalize World.alloc (World.alloc w _) _=w1 at*;obtain⟨b0,b1,b2⟩:=Qay C4.o;have iB:=KR r _ w1 (qE.o.up' gB.o) HZ.o
 cases d7:Qat r with
 |false=>
  rw[d7]at iB;have l9:Hi (Qai r=QcK):=by unfold Hi Qai;rw[d7];rfl
  clear d7;go_wp2_with fail;refine iB.mono ?_;clear iB;rintro e w2 ⟨rfl,I0⟩;have hq:=(I0.block _ (Jb B0.o)).trans B0.o;have HQ:=Zh hq;have A6:Hi (yr w w2):=gB.o.trans (I0.mono gB.o.size);clear I0 hq b0 b1 b2;have q0:=Ja HQ.o 0;have q1:=Ja HQ.o 1;have q2:=Ja HQ.o 2;have q3:=Ja HQ.o 3;have f0:=Jc HQ.o 0;have f1:=Jc HQ.o 1;have f2:=Jc HQ.o 2;have f3:=Jc HQ.o 3;simp only[zW]at q0 q1 q2 q3;go_wp2;clear q0 q1 q2 q3 f0 f1 f2 f3;refine bodyPost_ret (v:=.agg #[Nl,Nl,Nl,Nl]) (results_cell_row rfl _ _ qb 31 _ (0,0) _ rfl (Jm (Jm (Jm (Jm HQ.o 0 _) 1 _) 2 _) 3 _) underlying31 rfl QeR) rfl ?_;rw[HR.o,l9.o];exact⟨_,rfl,JcS _ _,(((A6.o.setCell (by simpa using D6.o.2) _).setCell (by simpa using D6.o.2) _).setCell (by simpa using D6.o.2) _).setCell (by simpa using D6.o.2) _⟩
 |true=>
 rw[d7]at iB;have l9:Hi (Qai r=Qac r):=by unfold Hi Qai;rw[if_pos d7]
 have yD:=aF.o d7;have zE:=KS d7;have dE:=Zh zE.1
 have kC:Hi (∀n∈QbP r.sigs,n<=1000000):=by
  intro n hn;rw[VU]at hn;obtain⟨f,hf,rfl⟩:=List.mem_map.1 hn;exact(HZ.o.fn f hf).2.1
 clear zE d7;go_wp2_with fail;refine iB.mono ?_;clear iB b0 b1 b2;rintro e w2 ⟨rfl,I0⟩;have dA:=Zh ((I0.block _ (Jb C4.o)).trans C4.o);have eA:=Zh ((I0.block _ (Jb B0.o)).trans B0.o);have A6:Hi (yr w w2):=gB.o.trans (I0.mono gB.o.size);clear I0 C4 B0 gB;go_upto_region 5 with fail;have nC:=Jaa w2 (.cells #[Nl] 65) (.cells #[Nl,Nl,Nl,Nl] 31);have I0:=Yc w2 (.cells #[Nl] 65) (.cells #[Nl,Nl,Nl,Nl] 31);have S5:=Zh ((I0.block _ (Jb dA.o)).trans dA.o);have vE:=Zh ((I0.block _ (Jb eA.o)).trans eA.o);have aE:=Zh nC.1;have qC:=Zh nC.2;have aB:Hi (yr w _):=A6.o.trans (I0.mono A6.o.size)
 try simp only[World.size_alloc]
 have gA:Hi (rb≠w2.heap.size/\qb≠w2.heap.size/\w2.heap.size+1≠w2.heap.size/\rb≠w2.heap.size+1/\qb≠w2.heap.size+1):=by
  have h1:=Jb dA.o;have h2:=Jb eA.o;unfold Hi;omega
 have bA:Hi (w.heap.size<=w2.heap.size):=A6.o.size;have iA:Hi (rb<w2.heap.size/\qb<w2.heap.size):=⟨Jb dA.o,Jb eA.o⟩
 clear nC I0 dA eA A6;obtain⟨cx,pC⟩:=yt (w2.heap.size+1)
 have hA:=Zh pC;rw[pC]at qC gA |-;clear pC;generalize World.alloc (World.alloc w2 _) _=w3 at*;generalize w2.heap.size=pb at*;have U1:Hi (BAt w3 pb []):=⟨_,aE.o,⟨by simp[Qfd],.inl ⟨rfl,rfl⟩⟩⟩
 have vB:Hi (QfG w3 pb=none):=(Vl aE.o).trans rfl;obtain⟨b0,b1,b2⟩:=Qay S5.o;go_wp2_with fail;clear b0 b1 b2;go_loopg [5,20] nc λg v5 v20 wr=>∃i:Nat,g+i=nc/\v20=Iv (i:Int)/\v5=Iv (Qbv (r.clauses.take i))/\Hi (BAt wr pb (cC 0 (r.clauses.take i))/\BFr pb w3 wr)
 case atStart=>exact⟨0,rfl,rfl,rfl,by rw[List.take_zero,cC];exact U1.o,BFr.refl _ _⟩
 case round=>
 clear U1;obtain⟨wl,rfl⟩:=zJ wr;obtain⟨i,hg,rfl,rfl,A2⟩:=hrel;have zB:=Zh A2.o.1;have AB:=Zh A2.o.2;clear A2
 by_cases hi:i<nc
 ·as_aux_lemma=>
  have dil:decide ((i:Int)<(nc:Int))=true:=zG zo;have diN:decide (i<nc)=true:=zG hi;obtain⟨x,hx⟩:∃x,r.clauses[i]?=some x:=⟨_,List.getElem?_eq_getElem (by rw[tC.o];exact hi)⟩
  have gD:=List.mem_of_getElem? hx;have cD:=YY dE.o gD;have rB:=JbP kC.o _ _ _ cD;have hlx:=Jei kC.o _ _ _ zo cD;have zD:=Jah x.cond hlx;have aA:r.clauses.take (i+1)=r.clauses.take i++[x]:=by rw[List.take_add_one,hx];rfl
  have jC:Qbv (r.clauses.take (i+1))=max (Qbv (r.clauses.take i)) (QaD x.cond):=by rw[aA,JaY _ _ zD.1]
  have eB:cC 0 (r.clauses.take (i+1))=cC 0 (r.clauses.take i)++cC (cC 0 (r.clauses.take i)).length [x]:=by rw[aA,Jej,Nat.zero_add]
  have sA:(cC 0 (r.clauses.take (i+1))).length<=40000000:=by
   have h1:(cC 0 r.clauses).length<=40000000:=by have:=(JL r).2.2.2;omega
   have h2:r.clauses=r.clauses.take (i+1)++r.clauses.drop (i+1):=(List.take_append_drop _ _).symm;rw[h2]at h1
   have h3:∀(y z:List ClM),(cC 0 y).length<=(cC 0 (y++z)).length:=by
    intro y z
    induction z generalizing y with
    |nil=>rw[List.append_nil];exact le_refl _
    |cons a z ih=>
     have h4:=ih (y++[a]);rw[append_assoc,List.singleton_append]at h4;refine Nat.le_trans ?_ h4;rw[Jej,length_append];omega
   have:=h3 (r.clauses.take (i+1)) (r.clauses.drop (i+1));omega
  rw[eB,Jlo]at sA;rw[Jlo]at eB;obtain⟨L,hL⟩:=yt (cC 0 (r.clauses.take i))
  obtain⟨V,hV⟩:=yt (Qbv (r.clauses.take i))
  rw[hL]at eB sA zB;rw[hV]at jC |-;obtain⟨Z,hZ⟩:=yt (QaD x.cond)
  rw[hZ]at jC zD;obtain⟨E,hE⟩:=yt (cE (L.length+1) x.cond)
  rw[hE]at eB sA;simp only[length_append,length_cons,length_nil]at sA;obtain⟨b1,o1,rfl,hk1⟩:=zF.o (List.ne_nil_of_mem gD);obtain⟨d1,T5,hc1⟩:=hk1 i x hx;obtain⟨xa,xc,rfl,nB⟩:=T5.form;have U2:Hi (Bel w wl):=Jag aB.o bA.o AB.o
  obtain⟨p0,p1,p2,p3,p4,p5⟩:wl.cell? ⟨b1,o1+i*6,none⟩=some (Iv x.cond.kind)/\wl.cell? ⟨b1,o1+i*6+1,none⟩=some (Iv x.cond.num)/\wl.cell? ⟨b1,o1+i*6+2,none⟩=some (Sv x.cond.name)/\wl.cell? ⟨b1,o1+i*6+3,none⟩=some (.slice xa x.cond.kids.length xc)/\wl.cell? ⟨b1,o1+i*6+4,none⟩=some (Iv x.action)/\wl.cell? ⟨b1,o1+i*6+5,none⟩=some (Sv x.reason):=
   ⟨hc1 wl U2.o 0 _ rfl,hc1 wl U2.o 1 _ rfl,hc1 wl U2.o 2 _ rfl,hc1 wl U2.o 3 _ rfl,hc1 wl U2.o 4 _ rfl,hc1 wl U2.o 5 _ rfl⟩
  have k0:0<=(i:Int):=zo;have k1:(i:Int)<(nc:Int):=zo;have mB:=HZ.o.nc;rw[tC.o]at mB;have wk:IntKind.i64.wrap ((i:Int)+1)=((i+1:Nat):Int):=by rw[IntWalk.i64_in _ zo];omega
  have zC:=Zh nB;have rC:=Zh rB;have hD:=Zh hlx;have N4:=Zh eB;have pA:=Zh sA;have uF:=Zh jC;have HE:=Zh hE;have SA:=Zh hZ;have P2:=Zh (And.intro hg hi);clear hx gD cD rB hlx zD aA jC eB sA hL hV hZ hE hk1 T5 hc1 nB hg hi mB;go_upto_region 9 with fail;have HS:=Zh (CSt.first (T:=39) (cs:=(yg x.cond.kind x.cond.num x.cond.name xa x.cond.kids.length xc x.action x.reason)) zB.o AB.o);clear p0 p1 p2 p3 p4 p5 zB AB U2;generalize World.alloc wl _=w5 at*;generalize wl.heap.size=yb at*;go_wp2_with fail;refine(JU w5 pb L 21 0 [] HS.o.at' (zu pA.o)).mono ?_;rintro e w6 ⟨rfl,hat,O0⟩;replace HS:=Zh (HS.o.next hat O0);clear hat O0;obtain⟨y0,y1,y2,y3,y4,y5⟩:=QiF HS.o.box;have U2:Hi (Bel w w6):=Jag aB.o bA.o HS.o.fr;have vD:(L++[(⟨21,0,[]⟩:OpM)]).length=L.length+1:=zq;have cx1:=Jai (p:=pb) bA.o x.cond rC.o _ (L++[⟨21,0,[]⟩]) w6 zC.o U2.o HS.o.at' (by rw[vD,HE.o];have:=pA.o;omega);rw[vD,HE.o]at cx1;clear vD;go_wp2_with fail;refine cx1.mono ?_;clear cx1 y0 y1 y2 y3 y4 y5 U2;rintro e w7 ⟨rfl,hat,O0⟩;replace HS:=Zh (HS.o.next hat O0);clear hat O0;obtain⟨l2,iC⟩:=yt (L++[(⟨21,0,[]⟩:OpM)]++E)
  have aC:l2.length=L.length+1+E.length:=by rw[<-iC];simp;omega
  rw[iC]at HS;have xC:=Zh (And.intro iC aC);clear iC aC;go_wp2_with fail;refine(JU w7 pb l2 17 0 [] HS.o.at' (zv pA.o xC.o.2)).mono ?_;rintro e w8 ⟨rfl,hat,O0⟩;replace HS:=Zh (HS.o.next hat O0);clear hat O0;obtain⟨y0,y1,y2,y3,y4,y5⟩:=QiF HS.o.box;go_wp2_with fail;refine(JU w8 pb _ 22 x.action x.reason HS.o.at' (by have:=pA.o;have:=xC.o.2;simp only[length_append,length_cons,length_nil];omega)).mono ?_;clear y0 y1 y2 y3 y4 y5;rintro e w9 ⟨rfl,hat,O0⟩;replace HS:=Zh (HS.o.next hat O0);have e3:l2++[(⟨17,0,[]⟩:OpM)]++[⟨22,x.action,x.reason⟩]=l2++(⟨17,0,[]⟩:OpM)::[⟨22,x.action,x.reason⟩]:=zq;rw[e3]at HS;clear hat O0 e3;go_wp2_with fail;refine(VD w9 pb _ l2.length ⟨17,0,[]⟩ HS.o.at' (by have:=pA.o;have:=xC.o.2;simp only[length_append,length_cons,length_nil];omega) (JcL _ _ _)).mono ?_;rintro e hB ⟨rfl,hat,O0⟩;rw[JcM]at hat;replace HS:=Zh (HS.o.next hat O0);clear hat O0;obtain⟨y0,y1,y2,y3,y4,y5⟩:=QiF HS.o.box;have U2:Hi (Bel w hB):=Jag aB.o bA.o HS.o.fr;have dB:=JbL x.cond _ hB hD.o zC.o U2.o;rw[SA.o]at dB;go_wp2_with fail;refine dB.mono ?_;clear dB y0 y1 y2 y3 y4 y5 U2;rintro e sB ⟨rfl,kB⟩;replace HS:=Zh (HS.o.up kB);clear kB
  have C0:Hi (BAt sB pb (cC 0 (r.clauses.take (i+1)))/\BFr pb w3 sB):=by
   refine⟨?_,HS.o.fr⟩;have h:=HS.o.at';rw[N4.o];have e4:((l2++(⟨17,0,[]⟩:OpM)::[⟨22,x.action,x.reason⟩]).length:Nat)=L.length+E.length+3:=by simp[xC.o.2];omega
   rw[e4,<-xC.o.1]at h;simpa[op0] using h
  clear HS;go_wp2;go_roundg (nc-(i+1))
  case measure=>have:=P2.o;omega
  case rel=>exact⟨i+1,by have:=P2.o;omega,rfl,by rw[uF.o],C0.o⟩
 ·as_aux_lemma=>
  have dil:decide ((i:Int)<(nc:Int))=false:=zH zo;have diN:decide (i<nc)=false:=zH hi;have aA:r.clauses.take i=r.clauses:=List.take_of_length_le (by rw[tC.o];omega);rw[aA]at zB |-;obtain⟨V,hV⟩:=yt (Qbv r.clauses)
  obtain⟨L0,bC⟩:=yt (cC 0 r.clauses)
  rw[bC]at zB;rw[hV];have hcl:=(JL r).2.2.2;rw[bC]at hcl;have pA:Hi (L0.length+1+(cF (L0.length+1) r.funcs).length<=40000000):=by unfold Hi;omega
  have sD:=Zh (And.intro hV bC);have vC:Hi (QdA w3 pb rb/\QdA w3 pb qb/\QdA w3 pb cx):=⟨⟨Jb S5.o,gA.o.1,by rw[vB.o];simp⟩,⟨Jb vE.o,gA.o.2.1,by rw[vB.o];simp⟩,⟨Jb qC.o,gA.o.2.2.1,by rw[vB.o];simp⟩⟩
  have rD:=Zh ((vC.o.1.on AB.o).2.trans S5.o);obtain⟨b0,b1,b2⟩:=Qay rD.o;clear hi hg aA hV bC hcl yD;go_wp2_with fail;refine(JU wl pb L0 22 r.action [] zB.o (zu pA.o)).mono ?_;clear b0 b1 b2;rintro e w4 ⟨rfl,hat,O0⟩;have cA:=Zh (AB.o.trans O0);have uB:=Zh hat;clear hat O0 AB zB rD;have M7:=Zh ((vC.o.1.on cA.o).2.trans S5.o);have jF:=Zh ((vC.o.2.1.on cA.o).2.trans vE.o);have X6:=Zh ((vC.o.2.2.on cA.o).2.trans qC.o);have jA:Hi (Below pb w3 w4):=cA.o.below;clear vC cA;obtain⟨M,hM⟩:=yt (L0++[(⟨22,r.action,[]⟩:OpM)])
  have dD:M.length=L0.length+1:=by rw[<-hM];simp
  rw[hM]at uB;have xE:=Zh (And.intro hM dD);rw[<-dD]at pA
  have qD:Hi (QdN pb cx (M++cF M.length (r.funcs.take 0)) Nl Nl Nl (QaC M.length (r.funcs.take 0)) ((r.funcs.take 0).map λf=>(f.params.length:Int)) ((r.funcs.take 0).map λf=>max (f.params.length:Int) (QaD f.body)) w4):=by
   have h0:∀W:World,W.ownsRow (cx+1) 3 1 Nl 0 []:=λW=>⟨by simp,.inl ⟨rfl,rfl⟩⟩
   refine⟨by rw[List.take_zero,cF,List.append_nil];exact uB.o,X6.o,h0 _,h0 _,h0 _,(λk h=>by simp[Value.ownBlock]at h),(λk h=>by simp[Value.ownBlock]at h),(λk h=>by simp[Value.ownBlock]at h),by have:=hA.o;omega⟩
  clear hM dD uB X6;obtain⟨b0,b1,b2⟩:=Qay M7.o;go_wp2_with fail;clear b0 b1 b2;go_loopg [54] nf λg v54 wr=>∃(j:Nat) (sv pv lv:Value),g+j=nf/\v54=Iv (j:Int)/\Hi (QdN pb cx (M++cF M.length (r.funcs.take j)) sv pv lv (QaC M.length (r.funcs.take j)) ((r.funcs.take j).map λf=>(f.params.length:Int)) ((r.funcs.take j).map λf=>max (f.params.length:Int) (QaD f.body)) wr/\Below pb w4 wr)
  case atStart=>exact⟨0,_,_,_,rfl,rfl,qD.o,zO⟩
  case round=>
  clear qD;obtain⟨xA,rfl⟩:=zJ wr;obtain⟨j,sv,pv,lv,hg,rfl,A2⟩:=hrel;have HF:=Zh A2.o.1;have HB:=Zh A2.o.2;clear A2
  by_cases hi:j<nf
  ·as_aux_lemma=>
   have dil:decide ((j:Int)<(nf:Int))=true:=zG zo;have diN:decide (j<nf)=true:=zG hi;obtain⟨f,hf⟩:∃f,r.funcs[j]?=some f:=⟨_,List.getElem?_eq_getElem (by rw[bD.o];exact hi)⟩
   have eC:=List.mem_of_getElem? hf;have eD:=YX dE.o eC;have sE:=(HZ.o.fn f eC).2.1;have rB:=JbP kC.o _ _ _ eD;have hlx:=Jei kC.o _ _ _ zo eD;have aA:r.funcs.take (j+1)=r.funcs.take j++[f]:=by rw[List.take_add_one,hf];rfl
   obtain⟨hc1,S1⟩:=Jek (r.funcs.take j) M.length f;rw[<-aA,JnP]at hc1;rw[<-aA]at S1
   have sA:(cF M.length (r.funcs.take (j+1))).length<=(cF M.length r.funcs).length:=by
    have h2:r.funcs=r.funcs.take (j+1)++r.funcs.drop (j+1):=(List.take_append_drop _ _).symm
    have h3:∀(y z:List FnM),(cF M.length y).length<=(cF M.length (y++z)).length:=by
     intro y z
     induction z generalizing y with
     |nil=>rw[List.append_nil];exact le_refl _
     |cons a z ih=>
      have h4:=ih (y++[a]);rw[append_assoc,List.singleton_append]at h4;refine Nat.le_trans ?_ h4;rw[(Jek y M.length a).1,length_append];omega
    have:=h3 (r.funcs.take (j+1)) (r.funcs.drop (j+1))
    rwa [<-h2]at this
   have mD:(r.funcs.take (j+1)).map (λf=>(f.params.length:Int))=(r.funcs.take j).map (λf=>(f.params.length:Int))++[(f.params.length:Int)]:=by rw[aA,List.map_append];rfl
   have dC:(r.funcs.take (j+1)).map (λf=>max (f.params.length:Int) (QaD f.body))=(r.funcs.take j).map (λf=>max (f.params.length:Int) (QaD f.body))++[max (f.params.length:Int) (QaD f.body)]:=by rw[aA,List.map_append];rfl
   obtain⟨LL,xB⟩:=yt (M++cF M.length (r.funcs.take j))
   have yE:LL.length=M.length+(cF M.length (r.funcs.take j)).length:=by rw[<-xB,length_append]
   obtain⟨E,hE⟩:=yt (cE LL.length f.body)
   rw[<-yE]at hc1 S1;rw[hE]at hc1;have kD:M++cF M.length (r.funcs.take (j+1))=LL++E++[op0 20]:=by rw[hc1,<-xB];simp
   have iE:LL.length+E.length+1<=40000000:=by
    have h1:=congrArg List.length kD;simp only[length_append,length_cons,length_nil]at h1;have:=pA.o;omega
   obtain⟨SS,yB⟩:=yt (QaC M.length (r.funcs.take j))
   obtain⟨PP,tA⟩:=yt ((r.funcs.take j).map (λf=>(f.params.length:Int)))
   obtain⟨QQ,qA⟩:=yt ((r.funcs.take j).map (λf=>max (f.params.length:Int) (QaD f.body)))
   have qB:SS.length<=1000000/\PP.length<=1000000/\QQ.length<=1000000:=by
    have:=HZ.o.nf;rw[<-yB,<-tA,<-qA,K8,List.length_map,List.length_map,List.length_take];omega
   rw[xB,yB,tA,qA]at HF;rw[yB]at S1;rw[tA]at mD;rw[qA]at dC;obtain⟨Z,hZ⟩:=yt (QaD f.body)
   rw[hZ]at dC;obtain⟨b1,o1,rfl,hk1⟩:=dF.o (List.ne_nil_of_mem eC);obtain⟨d1,T5,vA⟩:=hk1 j f hf;obtain⟨pa,pc,xa,xc,rfl,_,nB⟩:=T5.form;have U2:Hi (Bel w xA):=Below.trans (Below.trans aB.o (jA.o.mono bA.o)) (HB.o.mono bA.o)
   obtain⟨p0,p1,p2,p3,p4,p5,p6⟩:xA.cell? ⟨b1,o1+j*7,none⟩=some (Sv f.name)/\xA.cell? ⟨b1,o1+j*7+1,none⟩=some (.slice pa f.params.length pc)/\xA.cell? ⟨b1,o1+j*7+2,none⟩=some (Iv f.result)/\xA.cell? ⟨b1,o1+j*7+3,none⟩=some (Iv f.body.kind)/\xA.cell? ⟨b1,o1+j*7+4,none⟩=some (Iv f.body.num)/\xA.cell? ⟨b1,o1+j*7+5,none⟩=some (Sv f.body.name)/\xA.cell? ⟨b1,o1+j*7+6,none⟩=some (.slice xa f.body.kids.length xc):=
    ⟨vA xA U2.o 0 _ rfl,vA xA U2.o 1 _ rfl,vA xA U2.o 2 _ rfl,vA xA U2.o 3 _ rfl,vA xA U2.o 4 _ rfl,vA xA U2.o 5 _ rfl,vA xA U2.o 6 _ rfl⟩
   have k0:0<=(j:Int):=zo;have k1:(j:Int)<(nf:Int):=zo;have jB:=HZ.o.nf;rw[bD.o]at jB;have wk:IntKind.i64.wrap ((j:Int)+1)=((j+1:Nat):Int):=by rw[IntWalk.i64_in _ zo];omega
   have zC:=Zh nB;have rC:=Zh rB;have hD:=Zh hlx;have Q1:=Zh kD;have A7:=Zh S1;have N5:=Zh mD;have oC:=Zh dC;have jE:=Zh iE;have cB:=Zh qB;have HE:=Zh hE;have SA:=Zh hZ;have P2:=Zh (And.intro hg hi);clear hf eC eD sE rB hlx aA hc1 S1 sA mD dC xB yE hE kD iE yB tA qA qB hZ hk1 T5 vA nB hg hi jB;go_upto_region 20 with fail;clear p0 p1 p2 p3 p4 p5 p6;obtain⟨yb,xD⟩:=yt xA.heap.size
   have HY:=Zh (zQ xA (.cells (zZ f.name pa f.params.length pc f.result f.body.kind f.body.num f.body.name xa f.body.kids.length xc) 41));have nD:=(Below.refl xA.heap.size xA).alloc zP (.cells (zZ f.name pa f.params.length pc f.result f.body.kind f.body.num f.body.name xa f.body.kids.length xc) 41);have mE:cx<yb:=by rw[<-xD];exact Jb HF.o.box
   replace HF:=Zh ((HF.o.up nD).up zO.drew);replace HB:=Zh ((HB.o.trans (nD.mono (zu HF.o.lt))).drew);rw[xD]at HY |-;replace HY:Hi ((xA.alloc (.cells (zZ f.name pa f.params.length pc f.result f.body.kind f.body.num f.body.name xa f.body.kids.length xc) 41)).drew.heap[yb]?=_):=HY.o;have jD:=Zh mE;clear xD nD U2 mE;generalize xA.alloc _=w5 at*;obtain⟨bv,zA,yA⟩:=HF.o.bat;obtain⟨ba,bc,rfl⟩:=Jv yA;have uA:=Zh zA;clear zA yA;obtain⟨sa,sc,rfl⟩:=Jv HF.o.rs;have s1:w5.drew.cell? ⟨cx,1,none⟩=some (.slice sa SS.length sc):=Ja HF.o.box 1;have s2:w5.drew.cell? ⟨pb,0,none⟩=some (.slice ba LL.length bc):=Ja uA.o 0;refine LB (λW=>W.cell? ⟨cx,1,none⟩=some (.slice sa SS.length sc)/\W.cell? ⟨pb,0,none⟩=some (.slice ba LL.length bc)) 10 ⟨s1,s2⟩ λhH=>?_
   clear s1 s2;generalize w5.drew=w6 at*;refine LK 0 rfl ?_;refine LK 1 rfl ?_;refine LK 2 rfl ?_;refine LK 3 rfl ?_;refine LK 4 rfl ?_;refine LK 5 rfl ?_;refine LK 6 rfl ?_;refine LO 7 rfl λKK hK=>?_
   go_simp;have HOW:=Zh (HF.o.rs.alloc (.cells #[Iv (LL.length:Nat)] 3));have R3:=Zh (zQ w6 (.cells #[Iv (LL.length:Nat)] 3));refine zU hK (by obtain⟨s1,s2⟩:=hH;simp[*,World.cell?_alloc_some]) λhH=>?_
   clear hK KK;refine LO 8 rfl λKK hK=>?_
   (refine Jq (w6.alloc (.cells #[Iv (LL.length:Nat)] 3)) zt (.tmp 59) (.tmp 65) 29 3 (Iv 0) 1 8 zt underlying29 QcP zt zp (cx+1) _ SS.length (Qad SS) [Iv (LL.length:Nat)] zt HOW.o w6.heap.size zt R3.o zt (by intro u hu;simp at hu;subst hu;rfl) (zu cB.o) zp (by have:=Jb HF.o.box;rw[World.size_alloc];omega) ?_;intro v' w' Q0 hgrow O0)
   obtain⟨a',c',rfl⟩:=Jv Q0;have HG:=Zh (Grw.mk Q0 hgrow O0);have N2:=Zh (HF.o.cx' HG.o HF.o.rs);have rA:=Zh ((HG.o.blk (Jb uA.o) λe=>by have:=(HF.o.rs.lt pb e).1;have:=HF.o.lt;omega).trans uA.o);have mA:=Zh ((HG.o.blk (Jb HY.o) λe=>absurd (KL HF.o.rs e HY.o) zp).trans HY.o);clear Q0 hgrow O0 HOW R3;refine zU hK ⟨Ja N2.o 1,Ja rA.o 0⟩ λhH=>?_
   clear hK KK;refine LK 9 rfl ?_;refine LZ 10 rfl λKK hK=>?_
   have s1:=Ja N2.o 1;have f1:=Jc N2.o 1;simp only[zW]at s1;go_simp;refine hK.out _ _ ?_;clear hK KK s1 f1 hH;replace HY:=Zh ((heap_setCell_other w' ⟨cx,1,none⟩ yb (.slice a' (SS.length+1) c') (by have:=jD.o;simp;omega)).trans mA.o);replace HB:=Zh (HB.o.trans (HG.o.below HF.o.rs (j:=1) (z:=.slice a' (SS.length+1) c') (le_of_lt HF.o.lt) (zv (Jb HF.o.box) HF.o.lt)));replace HF:=Zh (HF.o.app1 HG.o);clear HG N2 rA mA uA;generalize World.setCell w' _ _=w7 at*;obtain⟨qa,qc,rfl⟩:=Jv HF.o.rp;have s1:w7.cell? ⟨cx,2,none⟩=some (.slice qa PP.length qc):=Ja HF.o.box 2;obtain⟨y0,y1,y2,y3,y4,y5,y6⟩:=Qel HY.o;obtain⟨i0,hi,pB,uC,yC⟩:=info_parts QcP;go_wp2_with (at_builtin;go_loud (refine Ka _ rfl _ _ 29 rfl (cx+1) 3 i0 (Iv 0) 1 8 underlying29 hi pB uC yC rfl zp _ _ _ rfl (HF.o.rp.alloc _) ⟨w7.heap.size,0,none⟩ 1 1 [Iv (f.params.length:Nat)] rfl rfl ?d1 ?d2 zp ?d3 ?d4 ?d5 ?d6))
   case d1=>
    intro j u hj;rw[Kw];simpa using hj
   case d2=>intro u hu;simp at hu;subst hu;rfl
   case d3=>unfold maxLen;have:=cB.o;omega
   case d4=>have:=cB.o;omega
   case d5=>simp;have:=Jb HF.o.box;omega
   intro v' w' Q0 hgrow O0;obtain⟨bv,zA,yA⟩:=HF.o.bat;obtain⟨ba,bc,rfl⟩:=Jv yA;have uA:=Zh zA;clear zA yA;obtain⟨a',c',rfl⟩:=Jv Q0;have HG:=Zh (Grw.mk Q0 hgrow (by rw[World.size_alloc];exact O0));have N2:=Zh (HF.o.cx' HG.o HF.o.rp);have rA:=Zh ((HG.o.blk (Jb uA.o) λe=>by have:=(HF.o.rp.lt pb e).1;have:=HF.o.lt;omega).trans uA.o);have mA:=Zh ((HG.o.blk (Jb HY.o) λe=>absurd (KL HF.o.rp e HY.o) zp).trans HY.o);clear Q0 hgrow O0;clear s1 y0 y1 y2 y3 y4 y5 y6 hi pB uC yC;have s1:=Ja N2.o 2;have f1:=Jc N2.o 2;simp only[zW]at s1;go_upto_region 22 with fail;clear s1 f1;replace HY:=Zh ((heap_setCell_other w' ⟨cx,2,none⟩ yb (.slice a' (PP.length+1) c') (by have:=jD.o;simp;omega)).trans mA.o);replace HB:=Zh (HB.o.trans (HG.o.below HF.o.rp (j:=2) (z:=.slice a' (PP.length+1) c') (le_of_lt HF.o.lt) (zv (Jb HF.o.box) HF.o.lt)));replace HF:=Zh (HF.o.app2 HG.o);clear HG N2 rA mA uA;generalize World.setCell w' _ _=w8 at*;replace HF:=Zh (HF.o.up (Below.refl w8.heap.size w8).drew);replace HB:=Zh HB.o.drew;replace HY:Hi (w8.drew.heap[yb]?=_):=HY.o;obtain⟨va,vc,rfl⟩:=Jv HF.o.rl;have s3:w8.drew.cell? ⟨cx,3,none⟩=some (.slice va QQ.length vc):=Ja HF.o.box 3;obtain⟨y0,y1,y2,y3,y4,y5,y6⟩:=Qel HY.o;refine LB (λW=>W.cell? ⟨cx,3,none⟩=some (.slice va QQ.length vc)/\W.cell? ⟨yb,1,none⟩=some (.slice pa f.params.length pc)/\W.cell? ⟨yb,3,none⟩=some (Iv f.body.kind)/\W.cell? ⟨yb,4,none⟩=some (Iv f.body.num)/\W.cell? ⟨yb,5,none⟩=some (Sv f.body.name)/\W.cell? ⟨yb,6,none⟩=some (.slice xa f.body.kids.length xc)) 12 ⟨s3,y1,y3,y4,y5,y6⟩ λhH=>?_
   clear s3 y0 y1 y2 y3 y4 y5 y6;generalize w8.drew=w9 at*;refine LK 0 rfl ?_;refine LK 1 rfl ?_;refine LK 2 rfl ?_;refine LK 3 rfl ?_;refine LK 4 rfl ?_;refine LK 5 rfl ?_;refine LK 6 rfl ?_;refine LO 7 rfl λKK hK=>?_
   have U2:Hi (Bel w w9):=Below.trans (Below.trans aB.o (jA.o.mono bA.o)) (HB.o.mono bA.o);have dB:=JbL f.body _ w9 hD.o zC.o U2.o;rw[SA.o]at dB;go_simp;go_at_call 23;refine dB.mono ?_;clear dB U2 hH;rintro e hB ⟨rfl,nA⟩;replace HB:=Zh (HB.o.trans (nA.mono (le_of_lt HF.o.bat.lt)));replace HF:=Zh (HF.o.up nA);replace HY:=Zh ((nA.block _ (Jb HY.o)).trans HY.o);clear nA;obtain⟨y0,y1,y2,y3,y4,y5,y6⟩:=Qel HY.o;refine zU hK ⟨Ja HF.o.box 3,y1,y3,y4,y5,y6⟩ λhH=>?_
   clear hK KK y0 y1 y2 y3 y4 y5 y6;refine LK 8 rfl ?_;refine LO 9 rfl λKK hK=>?_
   go_simp;have HOW:=Zh (HF.o.rl.alloc (.cells #[Iv (max (f.params.length:Int) Z)] 3));have R3:=Zh (zQ hB (.cells #[Iv (max (f.params.length:Int) Z)] 3));refine zU hK (by obtain⟨s1,s2,s3,s4,s5,s6⟩:=hH;simp[*,World.cell?_alloc_some]) λhH=>?_
   clear hK KK;obtain⟨bv,zA,yA⟩:=HF.o.bat;obtain⟨ba,bc,rfl⟩:=Jv yA;have uA:=Zh zA;clear zA yA;refine LO 10 rfl λKK hK=>?_
   (refine Jq (hB.alloc (.cells #[Iv (max (f.params.length:Int) Z)] 3)) zt (.tmp 77) (.tmp 85) 29 3 (Iv 0) 1 8 zt underlying29 QcP zt zp (cx+1) _ QQ.length (Qad QQ) [Iv (max (f.params.length:Int) Z)] zt HOW.o hB.heap.size zt R3.o zt (by intro u hu;simp at hu;subst hu;rfl) (zu cB.o) zp (by have:=Jb HF.o.box;rw[World.size_alloc];omega) ?_;intro v' w' Q0 hgrow O0)
   obtain⟨a',c',rfl⟩:=Jv Q0;have HG:=Zh (Grw.mk Q0 hgrow O0);have N2:=Zh (HF.o.cx' HG.o HF.o.rl);have rA:=Zh ((HG.o.blk (Jb uA.o) λe=>by have:=(HF.o.rl.lt pb e).1;have:=HF.o.lt;omega).trans uA.o);have mA:=Zh ((HG.o.blk (Jb HY.o) λe=>absurd (KL HF.o.rl e HY.o) zp).trans HY.o);clear Q0 hgrow O0 HOW R3;obtain⟨y0,y1,y2,y3,y4,y5,y6⟩:=Qel mA.o;refine zU hK ⟨Ja N2.o 3,y1,y3,y4,y5,y6⟩ λhH=>?_
   clear hK KK y0 y1 y2 y3 y4 y5 y6;refine LK 11 rfl ?_;refine LZ 12 rfl λKK hK=>?_
   have s1:=Ja N2.o 3;have f1:=Jc N2.o 3;simp only[zW]at s1;go_simp;refine hK.out _ _ ?_;clear hK KK s1 f1 hH;replace HY:=Zh ((heap_setCell_other w' ⟨cx,3,none⟩ yb (.slice a' (QQ.length+1) c') (by have:=jD.o;simp;omega)).trans mA.o);replace HB:=Zh (HB.o.trans (HG.o.below HF.o.rl (j:=3) (z:=.slice a' (QQ.length+1) c') (le_of_lt HF.o.lt) (zv (Jb HF.o.box) HF.o.lt)));replace HF:=Zh (HF.o.app3 HG.o);clear HG N2 rA mA uA;generalize World.setCell w' _ _=sB at*;obtain⟨y0,y1,y2,y3,y4,y5,y6⟩:=Qel HY.o;have U2:Hi (Bel w sB):=Below.trans (Below.trans aB.o (jA.o.mono bA.o)) (HB.o.mono bA.o);have cx1:=Jai (p:=pb) bA.o f.body rC.o _ LL sB zC.o U2.o HF.o.bat (by rw[HE.o];have:=jE.o;omega);rw[HE.o]at cx1;go_wp2_with fail;refine cx1.mono ?_;clear cx1 y0 y1 y2 y3 y4 y5 y6 U2 HY;rintro e iF ⟨rfl,hat,O0⟩;replace HF:=Zh (HF.o.bld hat O0);replace HB:=Zh (HB.o.trans O0.below);clear hat O0;go_wp2_with fail;refine(JU iF pb (LL++E) 20 0 [] HF.o.bat (by rw[length_append];have:=jE.o;omega)).mono ?_;rintro e bF ⟨rfl,hat,O0⟩;replace HF:=Zh (HF.o.bld hat O0);replace HB:=Zh (HB.o.trans O0.below);clear hat O0
   have C0:Hi (∃sv pv lv,QdN pb cx (M++cF M.length (r.funcs.take (j+1))) sv pv lv (QaC M.length (r.funcs.take (j+1))) ((r.funcs.take (j+1)).map λf=>(f.params.length:Int)) ((r.funcs.take (j+1)).map λf=>max (f.params.length:Int) (QaD f.body)) bF):=by
    rw[Q1.o,A7.o,N5.o,oC.o];exact⟨_,_,_,HF.o⟩
   clear HF;go_wp2;go_roundg (nf-(j+1))
   case measure=>have:=P2.o;omega
   case rel=>
    obtain⟨sv,pv,lv,h⟩:=C0.o;exact⟨j+1,sv,pv,lv,by have:=P2.o;omega,rfl,h,HB.o⟩
  ·as_aux_lemma=>
   have dil:decide ((j:Int)<(nf:Int))=false:=zH zo;have diN:decide (j<nf)=false:=zH hi;have aA:r.funcs.take j=r.funcs:=List.take_of_length_le (by rw[bD.o];omega);rw[aA]at HF;clear hi hg aA;obtain⟨LL,xB⟩:=yt (M++cF M.length r.funcs)
   obtain⟨SS,yB⟩:=yt (QaC M.length r.funcs)
   obtain⟨PP,tA⟩:=yt (r.funcs.map (λf=>(f.params.length:Int)))
   obtain⟨QQ,qA⟩:=yt (r.funcs.map (λf=>max (f.params.length:Int) (QaD f.body)))
   have qB:QQ.length<=1000000:=by rw[<-qA,List.length_map];exact HZ.o.nf
   have uE:Qac r=⟨LL,SS,PP,QQ++[V]⟩:=by
    unfold Qac;rw[sD.o.2,sD.o.1,<-xB,<-yB,<-tA,<-qA,xE.o.2,<-xE.o.1];simp
   rw[xB,yB,tA,qA]at HF;have vF:=Zh uE;have cB:=Zh qB;clear xB yB tA qA qB uE;obtain⟨bv,zA,yA⟩:=HF.o.bat;obtain⟨ba,bc,rfl⟩:=Jv yA;have uA:=Zh (And.intro zA yA);clear zA yA;obtain⟨sa,sc,rfl⟩:=Jv HF.o.rs;obtain⟨qa,qc,rfl⟩:=Jv HF.o.rp;obtain⟨va,vc,rfl⟩:=Jv HF.o.rl;have s1:xA.cell? ⟨cx,3,none⟩=some (.slice va QQ.length vc):=Ja HF.o.box 3;obtain⟨i0,hi,pB,uC,yC⟩:=info_parts QcP;go_wp2_with (at_builtin;go_loud (refine Ka _ rfl _ _ 29 rfl (cx+1) 3 i0 (Iv 0) 1 8 underlying29 hi pB uC yC rfl zp _ _ _ rfl (HF.o.rl.alloc _) ⟨xA.heap.size,0,none⟩ 1 1 [Iv V] rfl rfl ?e1 ?e2 zp ?e3 ?e4 ?e5 ?e6))
   case e1=>
    intro j u hj;rw[Kw];simpa using hj
   case e2=>intro u hu;simp at hu;subst hu;rfl
   case e3=>unfold maxLen;have:=cB.o;omega
   case e4=>have:=cB.o;omega
   case e5=>simp;have:=Jb HF.o.box;omega
   intro v' w' Q0 hgrow O0;obtain⟨a',c',rfl⟩:=Jv Q0;have HG:=Zh (Grw.mk Q0 hgrow (by rw[World.size_alloc];exact O0));have N2:=Zh (HF.o.cx' HG.o HF.o.rl);clear Q0 hgrow O0 s1 hi pB uC yC;have s1:=Ja N2.o 3;have f1:=Jc N2.o 3;simp only[zW]at s1;go_upto_region 27 with fail;clear s1 f1;have D7:=Zh (HF.o.app3 HG.o);have rA:=Zh ((heap_setCell_other w' ⟨cx,3,none⟩ pb (.slice a' (QQ.length+1) c') (by have:=hA.o;simp;omega)).trans ((HG.o.blk (Jb uA.o.1) λe=>by have:=(HF.o.rl.lt pb e).1;have:=HF.o.lt;omega).trans uA.o.1))
   have pD:=Zh (HG.o.keep HF.o.rl (j:=3) (z:=.slice a' (QQ.length+1) c') uA.o.2 (λk a b=>Y0 HF.o.rl uA.o.2 zp k b a) (λk hk e=>by
    subst e
    exact absurd (KL uA.o.2 hk HF.o.box) zp))
   replace HB:=Zh (HB.o.trans (HG.o.below HF.o.rl (j:=3) (z:=.slice a' (QQ.length+1) c') (le_of_lt HF.o.lt) (zv (Jb HF.o.box) HF.o.lt)));have yF:=Zh ((HB.o.block qb iA.o.2).trans jF.o);clear HF HG N2 uA;generalize World.setCell w' _ _=w5 at*;have s0:=Ja D7.o.box 0;have s1:=Ja D7.o.box 1;have s2:=Ja D7.o.box 2;have s3:=Ja D7.o.box 3;have f0:=Jc D7.o.box 0;simp only[zW]at s0 s1 s2 s3;have p0:=Jir rA.o;go_upto_region 28 with fail;clear s0 s1 s2 s3 f0 p0;have R0:=Jm D7.o.box 0 (.slice ba LL.length bc);have N2:=Zh R0;have tD:qb≠cx:=gA.o.2.2.2.2;have kA:=Zh ((heap_setCell_other w5 ⟨cx,0,none⟩ qb (.slice ba LL.length bc) (by simpa using tD)).trans yF.o)
   have gE:Hi (∀W,W=w5.setCell ⟨cx,0,none⟩ (.slice ba LL.length bc)->∀k,k≠cx->W.heap[k]?=w5.heap[k]?):=by
    rintro W rfl k hk;exact heap_setCell_other _ _ _ _ (by simpa using hk)
   have U7:Hi (Below pb w4 (w5.setCell ⟨cx,0,none⟩ (.slice ba LL.length bc))):=HB.o.setCell (by have:=hA.o;simp;omega) _;have xF:Hi (∃W,W=w5.setCell ⟨cx,0,none⟩ (.slice ba LL.length bc)):=⟨_,rfl⟩
   clear R0 tD;generalize pE:w5.setCell ⟨cx,0,none⟩ (.slice ba LL.length bc)=w6 at*;have rE:=Zh (gE.o w6 rfl);clear pE gE xF;have s0:=Ja N2.o 0;have s1:=Ja N2.o 1;have s2:=Ja N2.o 2;have s3:=Ja N2.o 3;have q0:=Ja kA.o 0;have q1:=Ja kA.o 1;have q2:=Ja kA.o 2;have q3:=Ja kA.o 3;have f0:=Jc kA.o 0;have f1:=Jc kA.o 1;have f2:=Jc kA.o 2;have f3:=Jc kA.o 3;simp only[List.getElem?_toArray,List.getElem?_cons_succ,List.getElem?_cons_zero,List.setIfInBounds_toArray,List.set_cons_zero]at s0 s1 s2 s3 q0 q1 q2 q3;go_wp2;clear s0 s1 s2 s3 q0 q1 q2 q3 f0 f1 f2 f3;have eF:=Jm (Jm (Jm (Jm kA.o 0 (.slice ba LL.length bc)) 1 (.slice sa SS.length sc)) 2 (.slice qa PP.length qc)) 3 (.slice a' (QQ.length+1) c');refine bodyPost_ret (v:=.agg (zm ba LL.length bc sa SS.length sc qa PP.length qc a' (QQ.length+1) c')) (results_cell_row rfl _ _ qb 31 _ (0,0) _ rfl eF underlying31 rfl QeR) rfl ?_;rw[HR.o,l9.o,vF.o];generalize eE:(((w6.setCell ⟨qb,0,none⟩ (.slice ba LL.length bc)).setCell ⟨qb,1,none⟩ (.slice sa SS.length sc)).setCell ⟨qb,2,none⟩ (.slice qa PP.length qc)).setCell ⟨qb,3,none⟩ (.slice a' (QQ.length+1) c')=Wf
   have hk:∀k,k≠cx->k≠qb->Wf.heap[k]?=w5.heap[k]?:=λk h1 h2=>by
    rw[<-eE];rw[heap_setCell_other _ _ _ _ (by simpa using h2),heap_setCell_other _ _ _ _ (by simpa using h2),heap_setCell_other _ _ _ _ (by simpa using h2),heap_setCell_other _ _ _ _ (by simpa using h2)];exact rE.o k h1
   have tE:yr w Wf:=by
    have h1:yr w w6:=(aB.o.trans (jA.o.mono bA.o)).trans (U7.o.mono bA.o);rw[<-eE];exact(((h1.setCell (by simpa using D6.o.2) _).setCell (by simpa using D6.o.2) _).setCell (by simpa using D6.o.2) _).setCell (by simpa using D6.o.2) _
   have bB:∀{v:Value}{l:List Int},w5.ownsRow (cx+1) 3 1 v l.length (Qad l)->QbX Wf Wf.heap.size v l:=λ{v l} hv=>
    Qan.own (Kh hv λk hk'=>hk k (zu ((hv.lt k hk').1)) (by have:=(hv.lt k hk').1;have:=iA.o.2;have:=hA.o;omega)) (JaZ l) λg hg=>((Kh hv λk hk'=>hk k (zu ((hv.lt k hk').1)) (by have:=(hv.lt k hk').1;have:=iA.o.2;have:=hA.o;omega)).lt g hg).2
   have tB:=Kh pD.o λk hk'=>hk k (λe=>by subst e;exact absurd (KL pD.o hk' D7.o.box) zp) (zv ((pD.o.lt k hk').1) iA.o.2)
   refine⟨_,rfl,⟨_,_,_,_,rfl,Qan.own tB (JcR LL) λg hg=>(tB.lt g hg).2,bB D7.o.rs,bB D7.o.rp,bB D7.o.rl⟩,tE⟩
def opV(o:OpM):Array Value:=(yu o)
def JmC(c d:OpM)(W:World):(binOp .eql 34 (.agg (opV c)) (.agg (opV d))).run prog W=.ok (.bool (decide (c=d))) W:=by
 have hu:prog.underlying 34=some (.struct (prog.fieldsOf 34)):=zk;have hp:prog.stoodInHeld 34=false:=zk;rw[run_eql_struct,run_equalIn_agg _ _ _ _ _ hu hp];unfold Program.fieldsOf;rw[underlying34];obtain⟨a,b,z⟩:=c;obtain⟨a',b',z'⟩:=d;have u3:=underlying3;have u9:=underlying9;simp[Op.eqFields,opV,go_sem];simp only[Jj]
 by_cases h1:a=a'
 ·by_cases h2:b=b'
  ·by_cases h3:z=z'
   ·simp[h1,h2,h3]
   ·simp[h1,h2,h3]
  ·simp[h1,h2]
 ·simp[h1]
def Jam{P:Program}{t:TypeId}{xs ys:Array Value}{r:Bool}(h:(binOp .eql t (.agg xs) (.agg ys)).run P W=.ok (.bool r) W):(binOp .neq t (.agg xs) (.agg ys)).run P W=.ok (.bool (!r)) W:=by
 rw[run_eql_struct]at h;rw[run_neq_struct];generalize (Op.equalIn 10000 t (.agg xs) (.agg ys)).run P W=X at*
 cases X with
 |ok b w'=>
  simp only[Result.andThen_ok,Result.ok.injEq,Value.bool.injEq]at h;obtain⟨rfl,rfl⟩:=h;rfl
 |halt x w'=>cases h
def Jel(c d:OpM)(W:World):(binOp .neq 34 (.agg (opV c)) (.agg (opV d))).run prog W=.ok (.bool (!decide (c=d))) W:=Jam (JmC c d W)
def VH{α:Type}{x y:List α}{i:Nat}{a:α}(h:x.take i=y.take i)(hx:x[i]?=some a)(hy:y[i]?=some a):x.take (i+1)=y.take (i+1):=by
 rw[List.take_add_one,List.take_add_one,h,hx,hy]
def QjG{P:Prop}(h:P:=by
  have diN:decide (i<n)=false:=zH hi
  have HT:Hi (R (.returned (.bool true)) wl):=by
   have h:=A2.o.2;rw[List.take_of_length_le (by rw[HN.o];omega),List.take_of_length_le (by rw[HM.o];omega)]at h;rw[<-HR.o,zG h];exact⟨rfl,A2.o.1⟩
  clear hi hg A2 HR;go_wp2
  exact HT.o):P:=h
def QhX{P:Prop}(h:P:=by
  go_upto_region 6 with fail;go_region;go_wp2;go_roundg (n-(i+1))
  case measure=>have:=P2.o;omega
  case rel=>exact⟨i+1,by have:=P2.o;omega,rfl,HW.o.1.drew,HT.o⟩):P:=h
def QhE{P:Prop}(h:P:=by
  rw[<-HR.o,zH (λe=>by
   have h1:=HU.o.1;rw[e,HU.o.2]at h1
   exact WD (Option.some.inj h1).symm)]
  exact⟨rfl,HW.o.1.drew⟩):P:=h
def Jis(x y:List OpM)(a b:Option Addr)(c d p:Nat)(w:World)(hp:p<=w.heap.size)(gx:OpG w p x a)(gy:OpG w p y b)(hl:x.length<=1000000000)(hl':y.length<=1000000000):
  Calls prog 59 #[.slice a x.length c,.slice b y.length d] w (Qbj w (.bool (decide (x=y)))):=by
 obtain⟨n,hn⟩:=yt x.length
 obtain⟨m,hm⟩:=yt y.length
 obtain⟨R,hR⟩:=yt (Qbj w (.bool (decide (x=y))))
 rw[hR,hn,hm];rw[hn]at hl;have HR:Hi (Qbj w (.bool (decide (x=y)))=R):=hR
 by_cases e:n=m
 ·subst e;have zA:=Zh gx;have yA:=Zh gy;have HN:=Zh hn;have HM:=Zh hm;have HP:=Zh hp;clear hR gx gy hn hm hp hl';go_enter func59,ntmps59;go_wp2_with fail;go_loopg [13] n λg v13 wr=>∃i:Nat,g+i=n/\v13=Iv (i:Int)/\Hi (yr w wr/\x.take i=y.take i)
  case atStart=>exact⟨0,rfl,rfl,zO,rfl⟩
  case round=>
  obtain⟨wl,rfl⟩:=zJ wr;obtain⟨i,hg,rfl,A2⟩:=hrel
  by_cases hi:i<n
  ·have dil:decide ((i:Int)<(n:Int))=true:=zG zo;have diN:decide (i<n)=true:=zG hi;obtain⟨u,hu⟩:∃u,x[i]?=some u:=⟨_,List.getElem?_eq_getElem (by rw[HN.o];exact hi)⟩
   obtain⟨v,hv⟩:∃v,y[i]?=some v:=⟨_,List.getElem?_eq_getElem (by rw[HM.o];exact hi)⟩
   obtain⟨b1,o1,rfl,k1⟩:=zA.o i u hu;obtain⟨b2,o2,rfl,k2⟩:=yA.o i v hv;obtain⟨p0,p1,p2⟩:=k1 _ (A2.o.1.mono HP.o);obtain⟨q0,q1,q2⟩:=k2 _ (A2.o.1.mono HP.o);have j0:0<=(i:Int):=zo;have j1:(i:Int)<(n:Int):=zo;have wk:IntKind.i64.wrap ((i:Int)+1)=((i+1:Nat):Int):=by rw[IntWalk.i64_in _ zo];omega
   have xA:=Jel u v;unfold opV at xA;have P2:=Zh (And.intro hg hi);have HU:=Zh (And.intro hu hv);have HW:=Zh A2.o;clear hu hv k1 k2 hg hi A2
   by_cases WD:u=v
   ·have ht:decide (u=v)=true:=zG WD;rw[ht]at xA
    have HT:Hi (x.take (i+1)=y.take (i+1)):=by
     subst WD;exact VH HW.o.2 HU.o.1 HU.o.2
    clear ht WD;exact QhX
   ·have ht:decide (u=v)=false:=zH WD;rw[ht]at xA
    have HT:Hi (R (.returned (.bool false)) wl.drew):=by
     exact QhE
    clear ht WD HR;go_upto_region 6 with fail;go_region;go_wp2;exact HT.o
  ·have dil:decide ((i:Int)<(n:Int))=false:=zH zo;exact QjG
 ·have q:((n:Int)==(m:Int))=false:=zM zo;have qn:(n==m)=false:=zM e
  have HT:Hi (R (.returned (.bool false)) w):=by
   rw[<-HR.o,zH λh=>e (by rw[<-hn,<-hm,h])];exact⟨rfl,zO⟩
  clear hR gx gy hn hm hp hl hl' e HR;go_enter func59,ntmps59;go_wp2;exact HT.o
def Qhb{P:Prop}(h:P:=by
  simp only[Option.some.injEq,Addr.mk.injEq]at h3;obtain⟨rfl,rfl,_⟩:=h3
  exact h4 w zO):P:=h
def Y1(x y:List Int)(a b:Option Addr)(c d p:Nat)(w:World)(hp:p<=w.heap.size)(gx:QfJ w p x a)(gy:QfJ w p y b)(hl:x.length<=1000000000)(hl':y.length<=1000000000):
  Calls prog 60 #[.slice a x.length c,.slice b y.length d] w (Qbj w (.bool (decide (x=y)))):=by
 by_cases e:x.length=y.length
 ·cases hx:x with
  |nil=>
   have hy:y=[]:=List.eq_nil_of_length_eq_zero (by rw[<-e,hx];rfl);subst hx hy;refine(Tryz.slices_Equal_int_empty a b c 0 d w zo).mono ?_;rintro e w' ⟨rfl,rfl⟩;exact⟨rfl,zO⟩
  |cons x0 xs=>
   rw[<-hx];obtain⟨b1,o1,rfl,_⟩:=gx 0 x0 (by rw[hx];rfl);obtain⟨y0,xA⟩:∃y0,y[0]?=some y0:=⟨_,List.getElem?_eq_getElem (by rw[<-e,hx];simp)⟩
   obtain⟨b2,o2,rfl,_⟩:=gy 0 y0 xA;refine(Tryz.slices_Equal_int b1 o1 x.length c b2 o2 y.length d x y w zP zP zo zo (λj hj=>?_) λj hj=>?_).mono ?_
   ·have h1:x[j]?=some (x.getD j 0):=by rw[List.getD_eq_getElem?_getD,List.getElem?_eq_getElem hj];rfl
    obtain⟨b3,o3,h3,h4⟩:=gx j _ h1;exact Qhb
   ·have h1:y[j]?=some (y.getD j 0):=by rw[List.getD_eq_getElem?_getD,List.getElem?_eq_getElem hj];rfl
    obtain⟨b3,o3,h3,h4⟩:=gy j _ h1;exact Qhb
   ·rintro e w' ⟨rfl,q,rfl⟩;rw[List.take_of_length_le zP,List.take_of_length_le zP];refine⟨?_,⟨rfl,rfl,rfl,le_refl _,λ_ _=>rfl⟩⟩
    congr 2
    by_cases h:x=y
    ·rw[zG h,h];simp
    ·rw[zH h];exact zM h
 ·refine(Tryz.slices_Equal_int_lens a b x.length c y.length d w e).mono ?_;rintro e' w' ⟨rfl,rfl⟩;rw[zH λh=>e (by rw[h])];exact⟨rfl,zO⟩
def Yd(c d:Qaf):c=d↔c.ops=d.ops/\c.starts=d.starts/\c.params=d.params/\c.slots=d.slots:=by
 constructor
 ·rintro rfl;exact⟨rfl,rfl,rfl,rfl⟩
 ·obtain⟨a,b,e,f⟩:=c;obtain⟨a',b',e',f'⟩:=d;rintro⟨rfl,rfl,rfl,rfl⟩;rfl
def QbI(c:Qaf):Prop:=c.ops.length<=1000000000/\c.starts.length<=1000000000/\c.params.length<=1000000000/\c.slots.length<=1000000000
def Qkl{P:Prop}(h:P:=by
  obtain⟨x0,x1,x2,x3⟩:=Qao (HX.o _ M9.o);obtain⟨y0,y1,y2,y3⟩:=Qao (HY.o _ M9.o);have ce:=E1.o w2 (HB.o.mono HP.o |>.trans (M9.o.mono (Nat.le_trans HP.o HB.o.size))) (Nat.le_trans HP.o (Nat.le_trans HB.o.size M9.o.size));clear E1;go_wp2_with fail;refine ce.mono ?_;clear ce x0 x1 x2 x3 y0 y1 y2 y3;rintro e w3 ⟨rfl,hb⟩;have R7:Hi (yr w1 w3):=M9.o.trans (hb.mono M9.o.size);clear hb
  by_cases e1:c.starts=d.starts
  rotate_left
  ·have HT:Hi (R (.returned (.bool false)) w3):=by
    rw[<-HR.o,zH (λh=>e1 ((Yd c d).1 h).2.1)];exact⟨rfl,HB.o.trans (R7.o.mono HB.o.size)⟩
   rw[zH e1];clear HR;go_wp2;exact HT.o
  rw[zG e1];obtain⟨x0,x1,x2,x3⟩:=Qao (HX.o _ R7.o);obtain⟨y0,y1,y2,y3⟩:=Qao (HY.o _ R7.o);have ce:=E2.o w3 (HB.o.mono HP.o |>.trans (R7.o.mono (Nat.le_trans HP.o HB.o.size))) (Nat.le_trans HP.o (Nat.le_trans HB.o.size R7.o.size));clear E2;go_wp2_with fail;refine ce.mono ?_;clear ce x0 x1 x2 x3 y0 y1 y2 y3;rintro e w4 ⟨rfl,hb⟩;have E9:Hi (yr w1 w4):=R7.o.trans (hb.mono R7.o.size);clear hb
  by_cases e2:c.params=d.params
  rotate_left
  ·have HT:Hi (R (.returned (.bool false)) w4):=by
    rw[<-HR.o,zH (λh=>e2 ((Yd c d).1 h).2.2.1)];exact⟨rfl,HB.o.trans (E9.o.mono HB.o.size)⟩
   rw[zH e2];clear HR;go_wp2;exact HT.o
  rw[zG e2];obtain⟨x0,x1,x2,x3⟩:=Qao (HX.o _ E9.o);obtain⟨y0,y1,y2,y3⟩:=Qao (HY.o _ E9.o);have ce:=E3.o w4 (HB.o.mono HP.o |>.trans (E9.o.mono (Nat.le_trans HP.o HB.o.size))) (Nat.le_trans HP.o (Nat.le_trans HB.o.size E9.o.size));clear E3;go_wp2_with fail;refine ce.mono ?_;clear ce x0 x1 x2 x3 y0 y1 y2 y3;rintro e w5 ⟨rfl,hb⟩;have DH:Hi (yr w1 w5):=E9.o.trans (hb.mono E9.o.size);clear hb
  by_cases e3:c.slots=d.slots
  ·have HT:Hi (R (.returned (.bool true)) w5):=by
    rw[<-HR.o,zG ((Yd c d).2 ⟨e0,e1,e2,e3⟩)];exact⟨rfl,HB.o.trans (DH.o.mono HB.o.size)⟩
   rw[zG e3];clear HR e0 e1 e2 e3;go_wp2;exact HT.o
  ·have HT:Hi (R (.returned (.bool false)) w5):=by
    rw[<-HR.o,zH (λh=>e3 ((Yd c d).1 h).2.2.2)];exact⟨rfl,HB.o.trans (DH.o.mono HB.o.size)⟩
   rw[zH e3];clear HR e0 e1 e2 e3;go_wp2
   exact HT.o):P:=h
def JcT(c d:Qaf)(hc:QbI c)(hd:QbI d)(p:Nat)(w:World)(hp:p<=w.heap.size)(x y:Array Value)(hx:CV w p c x)(hy:CV w p d y):Calls prog 29 #[.agg x,.agg y] w (Qbj w (.bool (decide (c=d)))):=by
 obtain⟨a0,c0,a1,c1,a2,c2,a3,c3,rfl,g0,g1,g2,g3⟩:=hx.g;obtain⟨b0,d0,b1,d1,b2,d2,b3,d3,rfl,k0,k1,k2,k3⟩:=hy.g;obtain⟨R,hR⟩:=yt (Qbj w (.bool (decide (c=d))))
 rw[hR];have HR:Hi (Qbj w (.bool (decide (c=d)))=R):=hR;have E0:=Zh (λW (hb:Below p w W) (hs:p<=W.heap.size)=>Jis c.ops d.ops a0 b0 c0 d0 p W hs (λi u hu=>by obtain⟨b,o,h1,h2⟩:=g0 i u hu;exact⟨b,o,h1,λW' hW=>h2 W' (hb.trans hW)⟩) (λi u hu=>by obtain⟨b,o,h1,h2⟩:=k0 i u hu;exact⟨b,o,h1,λW' hW=>h2 W' (hb.trans hW)⟩) hc.1 hd.1);have E1:=Zh (λW (hb:Below p w W) (hs:p<=W.heap.size)=>Y1 c.starts d.starts a1 b1 c1 d1 p W hs (λi u hu=>by obtain⟨b,o,h1,h2⟩:=g1 i u hu;exact⟨b,o,h1,λW' hW=>h2 W' (hb.trans hW)⟩) (λi u hu=>by obtain⟨b,o,h1,h2⟩:=k1 i u hu;exact⟨b,o,h1,λW' hW=>h2 W' (hb.trans hW)⟩) hc.2.1 hd.2.1);have E2:=Zh (λW (hb:Below p w W) (hs:p<=W.heap.size)=>Y1 c.params d.params a2 b2 c2 d2 p W hs (λi u hu=>by obtain⟨b,o,h1,h2⟩:=g2 i u hu;exact⟨b,o,h1,λW' hW=>h2 W' (hb.trans hW)⟩) (λi u hu=>by obtain⟨b,o,h1,h2⟩:=k2 i u hu;exact⟨b,o,h1,λW' hW=>h2 W' (hb.trans hW)⟩) hc.2.2.1 hd.2.2.1);have E3:=Zh (λW (hb:Below p w W) (hs:p<=W.heap.size)=>Y1 c.slots d.slots a3 b3 c3 d3 p W hs (λi u hu=>by obtain⟨b,o,h1,h2⟩:=g3 i u hu;exact⟨b,o,h1,λW' hW=>h2 W' (hb.trans hW)⟩) (λi u hu=>by obtain⟨b,o,h1,h2⟩:=k3 i u hu;exact⟨b,o,h1,λW' hW=>h2 W' (hb.trans hW)⟩) hc.2.2.2 hd.2.2.2);obtain⟨n0,R4⟩:∃n,c.ops.length=n:=⟨_,rfl⟩
 obtain⟨n1,P4⟩:∃n,c.starts.length=n:=⟨_,rfl⟩
 obtain⟨n2,bA⟩:∃n,c.params.length=n:=⟨_,rfl⟩
 obtain⟨n3,aA⟩:∃n,c.slots.length=n:=⟨_,rfl⟩
 obtain⟨m0,zA⟩:∃n,d.ops.length=n:=⟨_,rfl⟩
 obtain⟨m1,uA⟩:∃n,d.starts.length=n:=⟨_,rfl⟩
 obtain⟨m2,vA⟩:∃n,d.params.length=n:=⟨_,rfl⟩
 obtain⟨m3,yA⟩:∃n,d.slots.length=n:=⟨_,rfl⟩
 rw[R4,zA]at E0;rw[P4,uA]at E1;rw[bA,vA]at E2;rw[aA,yA]at E3;rw[R4,P4,bA,aA,zA,uA,vA,yA];have R0:=Jaa w (.cells (zm a0 n0 c0 a1 n1 c1 a2 n2 c2 a3 n3 c3) 31) (.cells (zm b0 m0 d0 b1 m1 d1 b2 m2 d2 b3 m3 d3) 31);have HB:=Zh (Yc w (.cells (zm a0 n0 c0 a1 n1 c1 a2 n2 c2 a3 n3 c3) 31) (.cells (zm b0 m0 d0 b1 m1 d1 b2 m2 d2 b3 m3 d3) 31));have HX:=Zh (BxB.of R0.1);have HY:=Zh (BxB.of R0.2);have HP:=Zh hp;clear hR hx hy g0 g1 g2 g3 k0 k1 k2 k3 R4 P4 bA aA zA uA vA yA R0 hp hc hd;go_enter func29,ntmps29;go_upto_region 1 with fail
 try simp only[World.size_alloc]
 obtain⟨yb,cA⟩:=yt (w.heap.size+1)
 obtain⟨xb,dA⟩:=yt w.heap.size
 rw[cA]at HY |-;rw[dA]at HX |-;clear cA dA;generalize World.alloc (World.alloc w _) _=w1 at*;have xA:Hi (yr w1 w1):=zO;obtain⟨x0,x1,x2,x3⟩:=Qao (HX.o _ xA.o);obtain⟨y0,y1,y2,y3⟩:=Qao (HY.o _ xA.o);have ce:=E0.o w1 (HB.o.mono HP.o |>.trans (xA.o.mono (le_trans HP.o HB.o.size))) (le_trans HP.o (le_trans HB.o.size xA.o.size));clear E0;go_wp2_with fail;refine ce.mono ?_;clear ce x0 x1 x2 x3 y0 y1 y2 y3;rintro e w2 ⟨rfl,hb⟩;have M9:Hi (yr w1 w2):=xA.o.trans (hb.mono xA.o.size);clear hb
 by_cases e0:c.ops=d.ops
 rotate_left
 ·have HT:Hi (R (.returned (.bool false)) w2):=by
   rw[<-HR.o,zH λh=>e0 ((Yd c d).1 h).1];exact⟨rfl,HB.o.trans (M9.o.mono HB.o.size)⟩
  rw[zH e0];clear HR;go_wp2;exact HT.o
 rw[zG e0];exact Qkl
structure MSt(K:MK)(w:World)(p:Nat)(s:StM)(W:World):Prop where
 at':MAt K W p s
 below:Below (p-1) w W
 tfr:TFr w W
def MSt.refl{K:MK}{w:World}{p:Nat}{s:StM}(h:MAt K w p s):MSt K w p s w:=⟨h,zO,TFr.refl _⟩
def MSt.next{K:MK}{w:World}{p:Nat}{s s':StM}(h:MSt K w p s W)(ha:MAt K W' p s')(hb:Below (p-1) W W')(ht:TFr W W'):MSt K w p s' W':=⟨ha,h.below.trans hb,h.tfr.trans ht⟩
def MSt.box{K:MK}{w:World}{p:Nat}{s:StM}(h:MAt K w p s)(o:Obj):MSt K w p s (w.alloc o):=⟨h.up (zO.alloc (Nat.le_refl _) _),zO.alloc (zu h.lt) _,TFr.alloc _ _⟩
def MSt.set{K:MK}{w:World}{p:Nat}{s s':StM}(h:MSt K w p s W)(hc:∀sv vv cv,(mC K s sv vv cv).setIfInBounds j u=mC K s' sv vv cv)(h1:s'.st=s.st)(h2:s'.vars=s.vars)(h3:s'.calls=s.calls):MSt K w p s' (W.setCell ⟨p,j,none⟩ u):=
 h.next (h.at'.set hc h1 h2 h3) h.at'.tset.2 h.at'.tset.1
def MSt.fin{K:MK}{w:World}{p:Nat}{s:StM}{r:Value}(h:MSt K w p s W):Qav K w p s r (.returned r) W:=⟨rfl,h.at',h.below,h.tfr⟩
def Jh{b:Nat}(h:W.heap[b]?=some (.cells #[a0,a1,a2] t fr)):yY W b a0 a1 a2:=
 ⟨Ja h 0,Ja h 1,Ja h 2⟩
def KU{b:Nat}(h:W.heap[b]?=some (.cells cs 34 fr))(ht:TFr W W'):W'.heap[b]?=some (.cells cs 34 fr):=(ht b _ h λ_ _=>⟨λe=>absurd (Obj.cells.inj e).2.1 zp,λe=>absurd (Obj.cells.inj e).2.1 zp,λe=>absurd (Obj.cells.inj e).2.1 zp⟩).trans h
def Qdj{P:Prop}(h:P:=by
  replace HS:=Zh (HS.o.next ha hb ht);clear ha hb ht;go_wp2;go_end0;rw[HR.o]
  exact HS.o.fin):P:=h
def zBa{P:Prop}(h:P:=by
  rintro e w2 ⟨rfl,ha,hb,ht⟩;exact Qdj):P:=h
def Vn(K:MK)(w:World)(p:Nat)(s:StM)(b:Bool)(h:MAt K w p s)(hl:s.st.length<=1000000000000):Calls prog 117 #[Pt p,.bool b] w (Qav K w p (s.push (Qcs b)) (.tuple #[])):=by
 obtain⟨R,hR⟩:=yt (Qav K w p (s.push (Qcs b)) (.tuple #[]))
 rw[hR];have HR:Hi (R=Qav K w p (s.push (Qcs b)) (.tuple #[])):=hR.symm;have HS:=Zh (MSt.refl h);have HL:=Zh hl;clear hR h hl
 cases b with
 |true=>
  go_enter func117,ntmps117;go_wp2_with fail;refine(JF K w p s 1 HS.o.at' HL.o).mono ?_;exact zBa
 |false=>
  go_enter func117,ntmps117;go_wp2_with fail;refine(JF K w p s 0 HS.o.at' HL.o).mono ?_;exact zBa
def KH(K:MK)(w:World)(p:Nat)(s:StM)(a b:Int)(l:List Int)(h:MAt K w p s)(hs:s.st=b::a::l)(hl:s.st.length<=1000000000000):Calls prog 122 #[Pt p] w (Qav K w p {s with st:=l} (.tuple (yq a b))):=by
 obtain⟨R,hR⟩:=yt (Qav K w p {s with st:=l} (.tuple (yq a b)))
 rw[hR];have HR:Hi (R=Qav K w p {s with st:=l} (.tuple (yq a b))):=hR.symm;have HS:=Zh (MSt.refl h);have HL:=Zh hl;have HT:=Zh hs;clear hR h hl hs;go_enter func122,ntmps122;go_wp2_with fail;refine(VY K w p s b (a::l) HS.o.at' HT.o (zu HL.o)).mono ?_;rintro e w2 ⟨rfl,ha,hb,ht⟩;replace HS:=Zh (HS.o.next ha hb ht);clear ha hb ht;go_wp2_with fail;refine(VY K w2 p {s with st:=a::l} a l HS.o.at' rfl (by have:=HL.o;rw[HT.o]at this;simp only[List.length_cons]at this |-;omega)).mono ?_;rintro e w3 ⟨rfl,ha,hb,ht⟩;replace HS:=Zh (HS.o.next ha hb ht);clear ha hb ht;go_wp2;rw[HR.o];exact HS.o.fin
def zBb{P:Prop}(h:P:=by
  go_wp2;go_end0;rw[HR.o];exact C0.o.fin):P:=h
def Jan(K:MK)(w:World)(p:Nat)(s:StM)(e:Int)(h:MAt K w p s):Calls prog 128 #[Pt p,Iv e] w (Qav K w p (s.fail e) (.tuple #[])):=by
 obtain⟨R,hR⟩:=yt (Qav K w p (s.fail e) (.tuple #[]))
 rw[hR];have HR:Hi (R=Qav K w p (s.fail e) (.tuple #[])):=hR.symm;obtain⟨sv,vv,cv,fr,hb,hr⟩:=h;have HS:=Zh (MSt.refl (K:=K) (w:=w) (p:=p) (s:=s) ⟨sv,vv,cv,fr,hb,hr⟩);have zA:=Ja hb 21;have aA:=Jc hb 21;have xA:=Ja hb 22;have cA:=Jc hb 22;have vA:=Ja hb 23;have eA:=Jc hb 23;have yA:=Ja hb 24;have dA:=Jc hb 24;have uA:=Ja hb 25;have bA:=Jc hb 25;simp only[mC,List.getElem?_toArray,List.getElem?_cons_succ,List.getElem?_cons_zero]at zA xA vA yA uA
 have C0:Hi (MSt K w p (s.fail e) (((((w.setCell ⟨p,21,none⟩ (Iv 0)).setCell ⟨p,22,none⟩ Em).setCell ⟨p,23,none⟩ (Iv 0)).setCell ⟨p,24,none⟩ (Iv e)).setCell ⟨p,25,none⟩ (.bool true))):=by
  have h1:MSt K w p {s with o:={s.o with action:=0} } (w.setCell ⟨p,21,none⟩ (Iv 0)):=HS.o.set (λ_ _ _=>rfl) rfl rfl rfl;have h2:MSt K w p {s with o:={s.o with action:=0,reason:=[]} } ((w.setCell ⟨p,21,none⟩ (Iv 0)).setCell ⟨p,22,none⟩ Em):=h1.set (λ_ _ _=>rfl) rfl rfl rfl;have h3:=h2.set (j:=23) (u:=Iv 0) (s':={s with o:={s.o with action:=0,reason:=[],used:=0} }) (λ_ _ _=>rfl) rfl rfl rfl;have h4:=h3.set (j:=24) (u:=Iv e) (s':={s with o:=⟨0,[],0,e⟩ }) (λ_ _ _=>rfl) rfl rfl rfl;exact h4.set (j:=25) (u:=.bool true) (s':=s.fail e) (λ_ _ _=>rfl) rfl rfl rfl
 clear hR hb hr HS;go_enter func128,ntmps128;exact zBb
def MSt.up{K:MK}{w:World}{p:Nat}{s:StM}(h:MSt K w p s W)(hb:yr W W'):MSt K w p s W':=h.next (h.at'.up hb) (hb.mono (zu h.at'.lt)) λk _ hk _=>hb.block _ (Jb hk)
def MSt.box'{K:MK}{w:World}{p:Nat}{s:StM}(h:MSt K w p s W):∃sv vv cv,W.heap[p]?=some (.cells (mC K s sv vv cv) 76 (0,0)):=by
 obtain⟨sv,vv,cv,fr,h1,h2⟩:=h.at';exact⟨sv,vv,cv,h1⟩
def JcU(K:MK)(w:World)(p:Nat)(s:StM)(h:MAt K w p s)(hu:s.used<=10000):Calls prog 127 #[Pt p] w (Qav K w p (if s.used=10000 then s.fail 14 else {s with used:=s.used+1}) (.bool (decide (s.used≠10000)))):=by
 obtain⟨R,hR⟩:=yt (Qav K w p (if s.used=10000 then s.fail 14 else {s with used:=s.used+1}) (.bool (decide (s.used≠10000))))
 rw[hR];have HR:Hi (R=Qav K w p (if s.used=10000 then s.fail 14 else {s with used:=s.used+1}) (.bool (decide (s.used≠10000)))):=hR.symm;have HS:=Zh (MSt.refl h);clear hR h
 by_cases e:s.used=10000
 ·rw[if_pos e,zH (by simpa using e)]at HR;have q:((s.used:Int)==10000)=true:=by simp[e]
  clear e hu;obtain⟨sv,vv,cv,R0⟩:=HS.o.box';have xA:=Ja R0 20;have yA:=Jc R0 20;simp only[mC,List.getElem?_toArray,List.getElem?_cons_succ,List.getElem?_cons_zero]at xA;clear R0;go_enter func127,ntmps127;go_wp2_with fail;refine(Jan K w p s 14 HS.o.at').mono ?_;rintro e w2 ⟨rfl,ha,hb,ht⟩;replace HS:=Zh (HS.o.next ha hb ht);clear ha hb ht;go_wp2;rw[HR.o];exact HS.o.fin
 ·rw[if_neg e,zG (by simpa using e)]at HR;have q:((s.used:Int)==10000)=false:=zr;have wk:IntKind.i64.wrap ((s.used:Int)+1)=((s.used+1:Nat):Int):=by rw[IntWalk.i64_in _ zo];omega
  have C0:Hi (MSt K w p {s with used:=s.used+1} (w.setCell ⟨p,20,none⟩ (Iv ((s.used+1:Nat):Int)))):=HS.o.set (λ_ _ _=>rfl) rfl rfl rfl;clear e hu;obtain⟨sv,vv,cv,R0⟩:=HS.o.box';have xA:=Ja R0 20;have yA:=Jc R0 20;simp only[mC,List.getElem?_toArray,List.getElem?_cons_succ,List.getElem?_cons_zero]at xA;clear R0;go_enter func127,ntmps127;go_wp2;rw[HR.o];exact C0.o.fin
def JkF(K:MK)(w:World)(p:Nat)(s:StM)(o:OpM)(h:MAt K w p s)(hl:s.st.length<=1000000000000):Calls prog 61 #[Pt p,.agg (yu o)] w (Qav K w p (s.push o.n) (.tuple #[])):=by
 obtain⟨R,hR⟩:=yt (Qav K w p (s.push o.n) (.tuple #[]))
 rw[hR];have HR:Hi (R=Qav K w p (s.push o.n) (.tuple #[])):=hR.symm;have HS:=Zh (MSt.box h (.cells (yu o) 34));have HY:=Zh (zQ w (.cells (yu o) 34));have HL:=Zh hl;clear hl;clear hR h;go_enter func61,ntmps61;go_upto_region 1 with fail;generalize World.alloc w _=w1 at*;generalize w.heap.size=yb at*;obtain⟨y0,y1,y2⟩:=Jh HY.o;go_wp2_with fail;refine(JF K w1 p s o.n HS.o.at' HL.o).mono ?_;exact zBa
def JnQ(K:MK)(w:World)(p:Nat)(s:StM)(o:OpM)(h:MAt K w p s)(h0:0<=o.n):Calls prog 77 #[Pt p,.agg (yu o)] w (Qav K w p (s.go o.n) (.tuple #[])):=by
 obtain⟨R,hR⟩:=yt (Qav K w p (s.go o.n) (.tuple #[]))
 rw[hR];have HR:Hi (R=Qav K w p (s.go o.n) (.tuple #[])):=hR.symm;have HS:=Zh (MSt.box h (.cells (yu o) 34));have HY:=Zh (zQ w (.cells (yu o) 34));clear hR h;go_enter func77,ntmps77;go_upto_region 1 with fail;generalize World.alloc w _=w1 at*;generalize w.heap.size=yb at*;obtain⟨y0,y1,y2⟩:=Jh HY.o;have hz:o.n=((o.n.toNat:Nat):Int):=zo
 have C0:Hi (MSt K w p (s.go o.n) (w1.setCell ⟨p,16,none⟩ (Iv o.n))):=by
  refine HS.o.set (s':=s.go o.n) (λ_ _ _=>?_) rfl rfl rfl;unfold mC StM.go;rw[hz];simp
 clear hz h0;obtain⟨sv,vv,cv,R0⟩:=HS.o.box';have b16:=Ja R0 16;have f16:=Jc R0 16;simp only[mC,List.getElem?_toArray,List.getElem?_cons_succ,List.getElem?_cons_zero]at b16;clear R0;exact zBb
def QjU{P:Prop}(h:P:=by
  have hz:o.n=((o.n.toNat:Nat):Int):=by omega
  have C0:Hi (MSt K w p (StM.go {s with st:=l} o.n) (w2.setCell ⟨p,16,none⟩ (Iv o.n))):=by
   refine HS.o.set (s':=StM.go {s with st:=l} o.n) (λ_ _ _=>?_) rfl rfl rfl;unfold mC StM.go;rw[hz];simp
  clear hz h0 e;obtain⟨sv,vv,cv,R0⟩:=HS.o.box';have b16:=Ja R0 16;have f16:=Jc R0 16;simp only[mC,List.getElem?_toArray,List.getElem?_cons_succ,List.getElem?_cons_zero]at b16;clear R0;go_wp2;go_end0;rw[HR.o]
  exact C0.o.fin):P:=h
section
variable (K:MK)(w:World)(p:Nat)(s:StM)(o:OpM)(v:Int)(l:List Int)(h:MAt K w p s)(hs:s.st=v::l)(hl:s.st.length<=1000000000000)
include K w p s o v l h hs hl
theorem JmD(h0:0<=o.n):Calls prog 78 #[Pt p,.agg (yu o)] w (Qav K w p (if v=0 then StM.go {s with st:=l} o.n else {s with st:=l}) (.tuple #[])):=by
 obtain⟨R,hR⟩:=yt (Qav K w p (if v=0 then StM.go {s with st:=l} o.n else {s with st:=l}) (.tuple #[]))
 rw[hR];have HR:Hi (R=Qav K w p (if v=0 then StM.go {s with st:=l} o.n else {s with st:=l}) (.tuple #[])):=hR.symm;have HS:=Zh (MSt.box h (.cells (yu o) 34));have HY:=Zh (zQ w (.cells (yu o) 34));have HL:=Zh hl;have HT:=Zh hs;clear hl hs;clear hR h;go_enter func78,ntmps78;go_upto_region 1 with fail;generalize World.alloc w _=w1 at*;generalize w.heap.size=yb at*;obtain⟨y0,y1,y2⟩:=Jh HY.o;go_wp2_with fail;refine(VY K w1 p s v l HS.o.at' HT.o (zu HL.o)).mono ?_;rintro e w2 ⟨rfl,ha,hb,ht⟩;replace HY:=Zh (KU HY.o ht);replace HS:=Zh (HS.o.next ha hb ht);clear ha hb ht;clear y0 y1 y2;obtain⟨y0,y1,y2⟩:=Jh HY.o
 by_cases e:v=0
 ·rw[if_pos e]at HR;have q:(v==0)=true:=by simp[e]
  exact QjU
 ·rw[if_neg e]at HR;have q:(v==0)=false:=zM e;clear h0 e;go_wp2;go_end0;rw[HR.o];exact HS.o.fin
theorem JnR(h0:0<=o.n):Calls prog 79 #[Pt p,.agg (yu o)] w (Qav K w p (if v=1 then StM.go {s with st:=l} o.n else {s with st:=l}) (.tuple #[])):=by
 obtain⟨R,hR⟩:=yt (Qav K w p (if v=1 then StM.go {s with st:=l} o.n else {s with st:=l}) (.tuple #[]))
 rw[hR];have HR:Hi (R=Qav K w p (if v=1 then StM.go {s with st:=l} o.n else {s with st:=l}) (.tuple #[])):=hR.symm;have HS:=Zh (MSt.box h (.cells (yu o) 34));have HY:=Zh (zQ w (.cells (yu o) 34));have HL:=Zh hl;have HT:=Zh hs;clear hl hs;clear hR h;go_enter func79,ntmps79;go_upto_region 1 with fail;generalize World.alloc w _=w1 at*;generalize w.heap.size=yb at*;obtain⟨y0,y1,y2⟩:=Jh HY.o;go_wp2_with fail;refine(VY K w1 p s v l HS.o.at' HT.o (zu HL.o)).mono ?_;rintro e w2 ⟨rfl,ha,hb,ht⟩;replace HY:=Zh (KU HY.o ht);replace HS:=Zh (HS.o.next ha hb ht);clear ha hb ht;clear y0 y1 y2;obtain⟨y0,y1,y2⟩:=Jh HY.o
 by_cases e:v=1
 ·rw[if_pos e]at HR;have q:(v==1)=true:=by simp[e]
  exact QjU
 ·rw[if_neg e]at HR;have q:(v==1)=false:=zM e;clear h0 e;go_wp2;go_end0;rw[HR.o];exact HS.o.fin
theorem JoG:Calls prog 68 #[Pt p,.agg (yu o)] w (Qav K w p {s with st:=Qcs (decide (v=0))::l} (.tuple #[])):=by
 obtain⟨R,hR⟩:=yt (Qav K w p {s with st:=Qcs (decide (v=0))::l} (.tuple #[]))
 rw[hR];have HR:Hi (R=Qav K w p {s with st:=Qcs (decide (v=0))::l} (.tuple #[])):=hR.symm;have HS:=Zh (MSt.box h (.cells (yu o) 34));have HY:=Zh (zQ w (.cells (yu o) 34));have HL:=Zh hl;have HT:=Zh hs;clear hl hs;clear hR h;go_enter func68,ntmps68;go_upto_region 1 with fail;generalize World.alloc w _=w1 at*;generalize w.heap.size=yb at*;obtain⟨y0,y1,y2⟩:=Jh HY.o;go_wp2_with fail;refine(VY K w1 p s v l HS.o.at' HT.o (zu HL.o)).mono ?_;rintro e w2 ⟨rfl,ha,hb,ht⟩;replace HS:=Zh (HS.o.next ha hb ht);clear ha hb ht;have eb:(v==0)=decide (v=0):=rfl;go_wp2_with fail;refine(Vn K w2 p {s with st:=l} (v==0) HS.o.at' (by have:=HL.o;rw[HT.o]at this;simp only[length_cons]at this |-;omega)).mono ?_;rintro e w3 ⟨rfl,ha,hb,ht⟩;replace HS:=Zh (HS.o.next ha hb ht);clear ha hb ht;rw[eb]at HS;go_wp2;go_end0;rw[HR.o];exact HS.o.fin
end
section
variable (K:MK)(w:World)(p:Nat)(s:StM)(o:OpM)(a b:Int)(l:List Int)(h:MAt K w p s)(hs:s.st=b::a::l)(hl:s.st.length<=1000000000000)
include K w p s o a b l h hs hl
def zA9{P:Prop}(h:P:=by
  rintro e w3 ⟨rfl,ha,hb,ht⟩;exact Qdj):P:=h
theorem JnS:Calls prog 74 #[Pt p,.agg (yu o)] w (Qav K w p {s with st:=Qcs (decide (a<b))::l} (.tuple #[])):=by
 obtain⟨R,hR⟩:=yt (Qav K w p {s with st:=Qcs (decide (a<b))::l} (.tuple #[]))
 rw[hR];have HR:Hi (R=Qav K w p {s with st:=Qcs (decide (a<b))::l} (.tuple #[])):=hR.symm;have HS:=Zh (MSt.box h (.cells (yu o) 34));have HY:=Zh (zQ w (.cells (yu o) 34));have HL:=Zh hl;have HT:=Zh hs;clear hl hs;clear hR h;go_enter func74,ntmps74;go_upto_region 1 with fail;generalize World.alloc w _=w1 at*;generalize w.heap.size=yb at*;obtain⟨y0,y1,y2⟩:=Jh HY.o;go_wp2_with fail;refine(KH K w1 p s a b l HS.o.at' HT.o HL.o).mono ?_;rintro e w2 ⟨rfl,ha,hb,ht⟩;replace HS:=Zh (HS.o.next ha hb ht);clear ha hb ht;go_wp2_with fail;refine(Vn K w2 p {s with st:=l} (decide (a<b)) HS.o.at' (by have:=HL.o;rw[HT.o]at this;simp only[length_cons]at this |-;omega)).mono ?_;exact zA9
theorem JoH:Calls prog 75 #[Pt p,.agg (yu o)] w (Qav K w p {s with st:=Qcs (decide (a<=b))::l} (.tuple #[])):=by
 obtain⟨R,hR⟩:=yt (Qav K w p {s with st:=Qcs (decide (a<=b))::l} (.tuple #[]))
 rw[hR];have HR:Hi (R=Qav K w p {s with st:=Qcs (decide (a<=b))::l} (.tuple #[])):=hR.symm;have HS:=Zh (MSt.box h (.cells (yu o) 34));have HY:=Zh (zQ w (.cells (yu o) 34));have HL:=Zh hl;have HT:=Zh hs;clear hl hs;clear hR h;go_enter func75,ntmps75;go_upto_region 1 with fail;generalize World.alloc w _=w1 at*;generalize w.heap.size=yb at*;obtain⟨y0,y1,y2⟩:=Jh HY.o;go_wp2_with fail;refine(KH K w1 p s a b l HS.o.at' HT.o HL.o).mono ?_;rintro e w2 ⟨rfl,ha,hb,ht⟩;replace HS:=Zh (HS.o.next ha hb ht);clear ha hb ht;go_wp2_with fail;refine(Vn K w2 p {s with st:=l} (decide (a<=b)) HS.o.at' (by have:=HL.o;rw[HT.o]at this;simp only[length_cons]at this |-;omega)).mono ?_;exact zA9
theorem QkG:Calls prog 76 #[Pt p,.agg (yu o)] w (Qav K w p {s with st:=Qcs (decide (a=b))::l} (.tuple #[])):=by
 obtain⟨R,hR⟩:=yt (Qav K w p {s with st:=Qcs (decide (a=b))::l} (.tuple #[]))
 rw[hR];have HR:Hi (R=Qav K w p {s with st:=Qcs (decide (a=b))::l} (.tuple #[])):=hR.symm;have HS:=Zh (MSt.box h (.cells (yu o) 34));have HY:=Zh (zQ w (.cells (yu o) 34));have HL:=Zh hl;have HT:=Zh hs;clear hl hs;clear hR h;go_enter func76,ntmps76;go_upto_region 1 with fail;generalize World.alloc w _=w1 at*;generalize w.heap.size=yb at*;obtain⟨y0,y1,y2⟩:=Jh HY.o;go_wp2_with fail;refine(KH K w1 p s a b l HS.o.at' HT.o HL.o).mono ?_;rintro e w2 ⟨rfl,ha,hb,ht⟩;replace HS:=Zh (HS.o.next ha hb ht);clear ha hb ht;go_wp2_with fail;refine(Vn K w2 p {s with st:=l} ((a==b)) HS.o.at' (by have:=HL.o;rw[HT.o]at this;simp only[length_cons]at this |-;omega)).mono ?_;exact zA9
end
def JkG(K:MK)(w:World)(p:Nat)(s:StM)(o:OpM)(h:MAt K w p s)(hu:s.used<=10000):Calls prog 82 #[Pt p,.agg (yu o)] w (Qav K w p (if s.used=10000 then s.fail 14 else {s with used:=s.used+1}) (.tuple #[])):=by
 obtain⟨R,hR⟩:=yt (Qav K w p (if s.used=10000 then s.fail 14 else {s with used:=s.used+1}) (.tuple #[]))
 rw[hR];have HR:Hi (R=Qav K w p (if s.used=10000 then s.fail 14 else {s with used:=s.used+1}) (.tuple #[])):=hR.symm;have HS:=Zh (MSt.box h (.cells (yu o) 34));have HY:=Zh (zQ w (.cells (yu o) 34));have HU:=Zh hu;clear hu;clear hR h;go_enter func82,ntmps82;go_upto_region 1 with fail;generalize World.alloc w _=w1 at*;generalize w.heap.size=yb at*;obtain⟨y0,y1,y2⟩:=Jh HY.o;go_wp2_with fail;refine(JcU K w1 p s HS.o.at' HU.o).mono ?_;exact zBa
section
variable (K:MK)(w:World)(p:Nat)(s:StM)(o:OpM)(a b:Int)(l:List Int)(h:MAt K w p s)(hs:s.st=b::a::l)(hl:s.st.length<=1000000000000)(ha:Qbc a)(hb:Qbc b)
include K w p s o a b l h hs hl ha hb
theorem JoI:Calls prog 69 #[Pt p,.agg (yu o)] w (Qav K w p {s with st:=clI (a+b)::l} (.tuple #[])):=by
 obtain⟨R,hR⟩:=yt (Qav K w p {s with st:=clI (a+b)::l} (.tuple #[]))
 rw[hR];have HR:Hi (R=Qav K w p {s with st:=clI (a+b)::l} (.tuple #[])):=hR.symm;have HS:=Zh (MSt.box h (.cells (yu o) 34));have HY:=Zh (zQ w (.cells (yu o) 34));have HL:=Zh hl;have HT:=Zh hs;clear hl hs;have HA:=Zh ha;have HB:=Zh hb;clear ha hb;clear hR h;go_enter func69,ntmps69;go_upto_region 1 with fail;generalize World.alloc w _=w1 at*;generalize w.heap.size=yb at*;obtain⟨y0,y1,y2⟩:=Jh HY.o;go_wp2_with fail;refine(KH K w1 p s a b l HS.o.at' HT.o HL.o).mono ?_;rintro e w2 ⟨rfl,ha,hb,ht⟩;replace HS:=Zh (HS.o.next ha hb ht);clear ha hb ht;go_wp2_with fail;refine(Jfr a b w2 HA.o HB.o).mono ?_;rintro e w3 ⟨rfl,G1⟩;replace HS:=Zh (HS.o.up G1);clear G1;go_wp2_with fail;refine(JF K w3 p {s with st:=l} (Qca (a+b)) HS.o.at' (by have:=HL.o;rw[HT.o]at this;simp only[length_cons]at this |-;omega)).mono ?_;rintro e w4 ⟨rfl,ha,hb,ht⟩;exact Qdj
theorem JoJ:Calls prog 70 #[Pt p,.agg (yu o)] w (Qav K w p {s with st:=clI (a-b)::l} (.tuple #[])):=by
 obtain⟨R,hR⟩:=yt (Qav K w p {s with st:=clI (a-b)::l} (.tuple #[]))
 rw[hR];have HR:Hi (R=Qav K w p {s with st:=clI (a-b)::l} (.tuple #[])):=hR.symm;have HS:=Zh (MSt.box h (.cells (yu o) 34));have HY:=Zh (zQ w (.cells (yu o) 34));have HL:=Zh hl;have HT:=Zh hs;clear hl hs;have HA:=Zh ha;have HB:=Zh hb;clear ha hb;clear hR h;go_enter func70,ntmps70;go_upto_region 1 with fail;generalize World.alloc w _=w1 at*;generalize w.heap.size=yb at*;obtain⟨y0,y1,y2⟩:=Jh HY.o;go_wp2_with fail;refine(KH K w1 p s a b l HS.o.at' HT.o HL.o).mono ?_;rintro e w2 ⟨rfl,ha,hb,ht⟩;replace HS:=Zh (HS.o.next ha hb ht);clear ha hb ht;go_wp2_with fail;refine(JbM a b w2 HA.o HB.o).mono ?_;rintro e w3 ⟨rfl,G1⟩;replace HS:=Zh (HS.o.up G1);clear G1;go_wp2_with fail;refine(JF K w3 p {s with st:=l} (Qca (a-b)) HS.o.at' (by have:=HL.o;rw[HT.o]at this;simp only[length_cons]at this |-;omega)).mono ?_;rintro e w4 ⟨rfl,ha,hb,ht⟩;exact Qdj
theorem JoK:Calls prog 71 #[Pt p,.agg (yu o)] w (Qav K w p {s with st:=clI (a*b)::l} (.tuple #[])):=by
 obtain⟨R,hR⟩:=yt (Qav K w p {s with st:=clI (a*b)::l} (.tuple #[]))
 rw[hR];have HR:Hi (R=Qav K w p {s with st:=clI (a*b)::l} (.tuple #[])):=hR.symm;have HS:=Zh (MSt.box h (.cells (yu o) 34));have HY:=Zh (zQ w (.cells (yu o) 34));have HL:=Zh hl;have HT:=Zh hs;clear hl hs;have HA:=Zh ha;have HB:=Zh hb;clear ha hb;clear hR h;go_enter func71,ntmps71;go_upto_region 1 with fail;generalize World.alloc w _=w1 at*;generalize w.heap.size=yb at*;obtain⟨y0,y1,y2⟩:=Jh HY.o;go_wp2_with fail;refine(KH K w1 p s a b l HS.o.at' HT.o HL.o).mono ?_;rintro e w2 ⟨rfl,ha,hb,ht⟩;replace HS:=Zh (HS.o.next ha hb ht);clear ha hb ht;go_wp2_with fail;refine(Jih a b w2 HA.o HB.o).mono ?_;rintro e w3 ⟨rfl,G1⟩;replace HS:=Zh (HS.o.up G1);clear G1;go_wp2_with fail;refine(JF K w3 p {s with st:=l} (Qca (a*b)) HS.o.at' (by have:=HL.o;rw[HT.o]at this;simp only[length_cons]at this |-;omega)).mono ?_;rintro e w4 ⟨rfl,ha,hb,ht⟩;exact Qdj
end
def MSt.drew{K:MK}{w:World}{p:Nat}{s:StM}(h:MSt K w p s W):MSt K w p s W.drew:=h.up zO.drew
def JcV(K:MK)(w:World)(p:Nat)(s:StM)(n:Int)(ok:Bool)(h:MAt K w p s)(hl:s.st.length<=1000000000000):Calls prog 124 #[Pt p,Iv n,.bool ok] w (Qav K w p (if ok=true then s.push n else s.fail 1) (.tuple #[])):=by
 obtain⟨R,hR⟩:=yt (Qav K w p (if ok=true then s.push n else s.fail 1) (.tuple #[]))
 rw[hR];have HR:Hi (R=Qav K w p (if ok=true then s.push n else s.fail 1) (.tuple #[])):=hR.symm;have HS:=Zh (MSt.refl h);have HL:=Zh hl;clear hR h hl
 cases ok with
 |true=>
  go_enter func124,ntmps124;go_wp2_with fail;refine(JF K w p s n HS.o.at' HL.o).mono ?_;exact zBa
 |false=>
  go_enter func124,ntmps124;go_wp2_with fail;refine(Jan K w p s 1 HS.o.at').mono ?_;exact zBa
def QjR{P:Prop}(h:P:=by
  rw[HN.o,HO.o]at LG;go_wp2_with fail;refine LG.mono ?_;clear LG;rintro e w3 ⟨rfl,G1⟩;replace HS:=Zh (HS.o.up G1);clear G1;go_wp2_with fail;refine(JcV K w3 p {s with st:=l} n ok HS.o.at' (by have:=HL.o;rw[HT.o]at this;simp only[List.length_cons]at this |-;omega)).mono ?_;rintro e w4 ⟨rfl,ha,hb,ht⟩;replace HS:=Zh (HS.o.next ha hb ht);clear ha hb ht;rw[HE.o]at HS;go_wp2;go_end0;rw[HR.o]
  exact HS.o.fin):P:=h
def Qhn{P:Prop}(h:P:=by
  rw[<-hn,<-ho];unfold Hi
  by_cases e:b=0
  ·rw[if_neg (by simp[e]),if_pos e]
  ·rw[if_pos (by simp[e]),if_neg e,if_neg e]):P:=h
section
variable (K:MK)(w:World)(p:Nat)(s:StM)(o:OpM)(a b:Int)(l:List Int)(h:MAt K w p s)(hs:s.st=b::a::l)(hl:s.st.length<=1000000000000)(ha:Qbc a)(hb:Qbc b)
include K w p s o a b l h hs hl ha hb
theorem JoL:Calls prog 72 #[Pt p,.agg (yu o)] w (Qav K w p (if b=0 then StM.fail {s with st:=l} 1 else StM.push {s with st:=l} (Qca (a.tdiv b))) (.tuple #[])):=by
 obtain⟨R,hR⟩:=yt (Qav K w p (if b=0 then StM.fail {s with st:=l} 1 else StM.push {s with st:=l} (Qca (a.tdiv b))) (.tuple #[]))
 rw[hR];have HR:Hi (R=Qav K w p (if b=0 then StM.fail {s with st:=l} 1 else StM.push {s with st:=l} (Qca (a.tdiv b))) (.tuple #[])):=hR.symm;have HS:=Zh (MSt.box h (.cells (yu o) 34));have HY:=Zh (zQ w (.cells (yu o) 34));have HL:=Zh hl;have HT:=Zh hs;clear hl hs;have HA:=Zh ha;have HB:=Zh hb;obtain⟨n,hn⟩:=yt ((if b=0 then 0 else Qca (a.tdiv b)))
 obtain⟨ok,ho⟩:=yt (decide (b≠0))
 have HE:Hi ((if ok=true then StM.push {s with st:=l} n else StM.fail {s with st:=l} 1)=(if b=0 then StM.fail {s with st:=l} 1 else StM.push {s with st:=l} (Qca (a.tdiv b)))):=by
  exact Qhn
 have HN:=Zh hn;have HO:=Zh ho;clear hn ho;clear ha hb;clear hR h;go_enter func72,ntmps72;go_upto_region 1 with fail;generalize World.alloc w _=w1 at*;generalize w.heap.size=yb at*;obtain⟨y0,y1,y2⟩:=Jh HY.o;go_wp2_with fail;refine(KH K w1 p s a b l HS.o.at' HT.o HL.o).mono ?_;rintro e w2 ⟨rfl,ha,hb,ht⟩;replace HS:=Zh (HS.o.next ha hb ht);clear ha hb ht;have LG:=Jij a b w2 HA.o HB.o;exact QjR
theorem JoM:Calls prog 73 #[Pt p,.agg (yu o)] w (Qav K w p (if b=0 then StM.fail {s with st:=l} 1 else StM.push {s with st:=l} (Qca (a.tmod b))) (.tuple #[])):=by
 obtain⟨R,hR⟩:=yt (Qav K w p (if b=0 then StM.fail {s with st:=l} 1 else StM.push {s with st:=l} (Qca (a.tmod b))) (.tuple #[]))
 rw[hR];have HR:Hi (R=Qav K w p (if b=0 then StM.fail {s with st:=l} 1 else StM.push {s with st:=l} (Qca (a.tmod b))) (.tuple #[])):=hR.symm;have HS:=Zh (MSt.box h (.cells (yu o) 34));have HY:=Zh (zQ w (.cells (yu o) 34));have HL:=Zh hl;have HT:=Zh hs;clear hl hs;have HA:=Zh ha;have HB:=Zh hb;obtain⟨n,hn⟩:=yt ((if b=0 then 0 else Qca (a.tmod b)))
 obtain⟨ok,ho⟩:=yt (decide (b≠0))
 have HE:Hi ((if ok=true then StM.push {s with st:=l} n else StM.fail {s with st:=l} 1)=(if b=0 then StM.fail {s with st:=l} 1 else StM.push {s with st:=l} (Qca (a.tmod b)))):=by
  exact Qhn
 have HN:=Zh hn;have HO:=Zh ho;clear hn ho;clear ha hb;clear hR h;go_enter func73,ntmps73;go_upto_region 1 with fail;generalize World.alloc w _=w1 at*;generalize w.heap.size=yb at*;obtain⟨y0,y1,y2⟩:=Jh HY.o;go_wp2_with fail;refine(KH K w1 p s a b l HS.o.at' HT.o HL.o).mono ?_;rintro e w2 ⟨rfl,ha,hb,ht⟩;replace HS:=Zh (HS.o.next ha hb ht);clear ha hb ht;have LG:=Jik a b w2 HA.o HB.o;exact QjR
end
def JoN(K:MK)(w:World)(p:Nat)(s:StM)(o:OpM)(h:MAt K w p s):Calls prog 83 #[Pt p,.agg (yu o)] w (Qav K w p {s with o:=⟨o.n,o.name,0,0⟩,fin:=true} (.tuple #[])):=by
 obtain⟨R,hR⟩:=yt (Qav K w p {s with o:=⟨o.n,o.name,0,0⟩,fin:=true} (.tuple #[]))
 rw[hR];have HR:Hi (R=Qav K w p {s with o:=⟨o.n,o.name,0,0⟩,fin:=true} (.tuple #[])):=hR.symm;have HS:=Zh (MSt.box h (.cells (yu o) 34));have HY:=Zh (zQ w (.cells (yu o) 34));clear hR h;go_enter func83,ntmps83;go_upto_region 1 with fail;generalize World.alloc w _=w1 at*;generalize w.heap.size=yb at*;obtain⟨y0,y1,y2⟩:=Jh HY.o
 have C0:Hi (MSt K w p {s with o:=⟨o.n,o.name,0,0⟩,fin:=true} (((((w1.setCell ⟨p,21,none⟩ (Iv o.n)).setCell ⟨p,22,none⟩ (Sv o.name)).setCell ⟨p,23,none⟩ (Iv 0)).setCell ⟨p,24,none⟩ (Iv 0)).setCell ⟨p,25,none⟩ (.bool true))):=by
  have h1:MSt K w p {s with o:={s.o with action:=o.n} } (w1.setCell ⟨p,21,none⟩ (Iv o.n)):=HS.o.set (λ_ _ _=>rfl) rfl rfl rfl;have h2:MSt K w p {s with o:={s.o with action:=o.n,reason:=o.name} } ((w1.setCell ⟨p,21,none⟩ (Iv o.n)).setCell ⟨p,22,none⟩ (Sv o.name)):=h1.set (λ_ _ _=>rfl) rfl rfl rfl;have h3:=h2.set (j:=23) (u:=Iv 0) (s':={s with o:={s.o with action:=o.n,reason:=o.name,used:=0} }) (λ_ _ _=>rfl) rfl rfl rfl;have h4:=h3.set (j:=24) (u:=Iv 0) (s':={s with o:=⟨o.n,o.name,0,0⟩ }) (λ_ _ _=>rfl) rfl rfl rfl;exact h4.set (j:=25) (u:=.bool true) (s':={s with o:=⟨o.n,o.name,0,0⟩,fin:=true}) (λ_ _ _=>rfl) rfl rfl rfl
 obtain⟨sv,vv,cv,R0⟩:=HS.o.box';have zA:=Ja R0 21;have aA:=Jc R0 21;have xA:=Ja R0 22;have cA:=Jc R0 22;have vA:=Ja R0 23;have eA:=Jc R0 23;have yA:=Ja R0 24;have dA:=Jc R0 24;have uA:=Ja R0 25;have bA:=Jc R0 25;simp only[mC,List.getElem?_toArray,List.getElem?_cons_succ,List.getElem?_cons_zero]at zA xA vA yA uA;clear R0;exact zBb
def JnT(K:MK)(w:World)(p:Nat)(s:StM)(o:OpM)(v:Int)(h:MAt K w p s)(hl:s.st.length<=1000000000000)(j:Nat)(hj:o.n=(j:Int))(hv:s.vars[j]?=some v):Calls prog 62 #[Pt p,.agg (yu o)] w (Qav K w p (s.push v) (.tuple #[])):=by
 obtain⟨R,hR⟩:=yt (Qav K w p (s.push v) (.tuple #[]))
 rw[hR];have HR:Hi (R=Qav K w p (s.push v) (.tuple #[])):=hR.symm;have HS:=Zh (MSt.box h (.cells (yu o) 34));have HY:=Zh (zQ w (.cells (yu o) 34));have HL:=Zh hl;clear hl;have HJ:=Zh hj;clear hj;clear hR h;go_enter func62,ntmps62;go_upto_region 1 with fail;generalize World.alloc w _=w1 at*;generalize w.heap.size=yb at*;obtain⟨y0,y1,y2⟩:=Jh HY.o;obtain⟨sv,vv,cv,fr,R0,hr⟩:=HS.o.at';have yA:=(List.getElem?_eq_some_iff.1 hv).1;have xA:=hr.vars;generalize uA:s.vars.length=vn at xA yA;obtain⟨g,c,rfl⟩:=Vm xA zo;have zA:w1.cell? ⟨p,18,none⟩=some (.slice (some ⟨g,0,none⟩) vn c):=Ja R0 18
 have bj:w1.cell? ⟨g,j,none⟩=some (Iv v):=by
  rw[xA.cellAt j zo];unfold Qad;rw[List.getElem?_map,hv];rfl
 rw[HJ.o]at y1;have k1:(j:Int)<(vn:Int):=zo;clear hr R0 xA hv yA;go_still_tail 9,zk;change wpList _ _ _ _ _ w1.drew;replace HS:=Zh HS.o.drew;generalize w1.drew=w1' at*;go_wp2_with fail;refine(JF K w1' p s v HS.o.at' HL.o).mono ?_;exact zBa
variable{K:MK}{p:Nat}{s:StM}{w:World}
def Qek.varCell{g vn c:Nat}{cv:Value}{fr:List Value}(h:Qek K w p s sv (.slice (some ⟨g,0,none⟩) vn c) cv fr)(hn:s.vars.length=vn)(hj:j<vn):
  w.cell? ⟨g,j,none⟩=some (Iv (s.vars.getD j 0))/\w.frozen? ⟨g,j,none⟩=false:=by
 have hx:(Qad s.vars)[j]?=some (Iv (s.vars.getD j 0)):=by
  unfold Qad;rw[List.getElem?_map,List.getD_eq_getElem?_getD,List.getElem?_eq_getElem zo];rfl
 have hv:=h.2.vars;rw[hn]at hv;have:=YC hv hx;exact⟨this.2.2.2.1,this.2.2.2.2⟩
def JmE(K:MK)(w:World)(p:Nat)(s:StM)(o:OpM)(v:Int)(l:List Int)(j:Nat)(h:MAt K w p s)(hs:s.st=v::l)(hl:s.st.length<=1000000000000)(hj:o.n=(j:Int))(fB:j<s.vars.length):Calls prog 63 #[Pt p,.agg (yu o)] w (Qav K w p {s with st:=l,vars:=s.vars.set j v} (.tuple #[])):=by
 obtain⟨R,hR⟩:=yt (Qav K w p {s with st:=l,vars:=s.vars.set j v} (.tuple #[]))
 rw[hR];have HR:Hi (R=Qav K w p {s with st:=l,vars:=s.vars.set j v} (.tuple #[])):=hR.symm;have HS:=Zh (MSt.box h (.cells (yu o) 34));have HY:=Zh (zQ w (.cells (yu o) 34));have HL:=Zh hl;have HT:=Zh hs;have HJ:=Zh hj;have xA:=Zh fB;clear hl hs hj fB;clear hR h;go_enter func63,ntmps63;go_upto_region 1 with fail;generalize World.alloc w _=w1 at*;generalize w.heap.size=yb at*;obtain⟨y0,y1,y2⟩:=Jh HY.o;obtain⟨sv,vv,cv,fr,hX⟩:∃sv vv cv fr,Qek K w1 p s sv vv cv fr:=HS.o.at';obtain⟨n,hn⟩:=yt l.length
 have hst:=hX.2.st;have zA:s.st.length=n+1:=by rw[HT.o,length_cons,hn]
 rw[zA]at hst;obtain⟨gs,cs,rfl⟩:=Vm hst zo;have uA:=hX.2.vars;obtain⟨vn,vA⟩:=yt s.vars.length
 rw[vA]at uA;obtain⟨g,c,rfl⟩:=Vm uA (zu xA.o);have dA:=Zh vA;have aA:Hi (j<vn):=by have:=xA.o;unfold Hi;omega
 have k1:(j:Int)<(vn:Int):=by have:=aA.o;omega
 rw[zA]at HL;have C4:=Zh hX.drew;have HP:=Zh (hX.drew.pop HT.o hn);have eA:=Zh HS.o.drew;have hA:Hi (w1.drew.heap[yb]?=some (.cells (ye o.code (j:Int) o.name) 34 (0,0))):=by rw[<-HJ.o];exact HY.o
 clear hst zA uA hX vA hn y0 y1 y2;refine wp_region_held_drew (S:=(λW'=>W'.cell? ⟨p,18,none⟩=some (.slice (some ⟨g,0,none⟩) vn c)/\W'.cell? ⟨yb,1,none⟩=some (Iv (j:Int)))) zk (⟨Ja C4.o.1 18,(Jh hA.o).2.1⟩) λhH=>?_;generalize w1.drew=w2 at*;refine zK 0 ?_
 refine zK 1 ?_;refine zK 2 ?_;refine zK 3 ?_;refine zK 4 ?_;refine zK 5 ?_;refine zK 6 ?_;try simp only[zX]
 refine ZR (rs:=[7]) (AllReadyH.cons rfl (λKK hK=>?_) AllReadyH.nil)
 (go_simp;go_at_call 116;refine(Jip w2 p gs n cs v HP.o.1 HP.o.2.1 HP.o.2.2.1 HP.o.2.2.2.1 (zu HL.o)).mono ?_;rintro e yA ⟨rfl,bA⟩)
 have S5:Hi (Qek K yA p {s with st:=l} (.slice (some ⟨gs,0,none⟩) n cs) (.slice (some ⟨g,0,none⟩) vn c) cv fr):=by
  rw[bA];exact HP.o.2.2.2.2
 have DA:Hi (TFr w2 yA/\Below (p-1) w2 yA):=by
  rw[bA];exact⟨TFr.set C4.o.1,zO.setCell zq _⟩
 have gA:=Zh (KU hA.o DA.o.1);clear bA;refine zU hK (⟨Ja S5.o.1 18,(Jh gA.o).2.1⟩) λhH=>?_;clear hK KK
 try simp only[zX]
 refine zK 8 ?_;try simp only[zX]
 obtain⟨q1,q2⟩:=S5.o.varCell dA.o aA.o;obtain⟨x1,x2,x3⟩:=S5.o.vset (j:=j) (by show j<s.vars.length;have:=dA.o;have:=aA.o;omega) v;have cA:=Zh x1;have j8:=Zh (And.intro x3 x2);clear x1 x2 x3;refine ZR (rs:=[9]) (AllReadyH.cons rfl (λKK hK=>?_) AllReadyH.nil);go_simp;clear q1 q2;generalize yA.setCell ⟨g,j,none⟩ (Iv v)=wc1 at*;have X7:=Zh (KU gA.o j8.o.1);refine zU hK (⟨Ja cA.o.1 18,(Jh X7.o).2.1⟩) λhH=>?_;clear hK KK
 try simp only[zX]
 refine wpAnyH_done zk ?_ _;have C0:Hi (MSt K w p {s with st:=l,vars:=s.vars.set j v} wc1):=⟨⟨_,_,_,_,cA.o.1,cA.o.2⟩,(eA.o.below.trans DA.o.2).trans j8.o.2,(eA.o.tfr.trans DA.o.1).trans j8.o.1⟩
 exact zBb
def Jgm{v:Value}{l:List By}(h:QcB W p v l)(hl:l.length<=200000000000000)(x:By):Calls prog 97 #[v,Sv x] W λe w'=>e=.returned (.bool (decide (x∈l)))/\w'=W:=by
 obtain⟨ad,cc,rfl,yA,hg⟩:=h.get
 by_cases hn:l=[]
 ·subst hn;exact Tryz.slices_Contains_string_empty ad cc (bs x) W
 ·obtain⟨a0,l',rfl⟩:=List.exists_cons_of_ne_nil hn;obtain⟨b,o,rfl,_,_⟩:=hg 0 a0 rfl;generalize hL:a0::l'=l at*;refine(Tryz.slices_Contains_string b o l.length cc (l.map bs) (bs x) W zq zo λj hj=>?_).mono λe w' hh=>?_
  ·have xA:j<l.length:=by simpa using hj
   obtain⟨b',o',e,_,h3⟩:=hg j l[j] (by rw[List.getElem?_eq_getElem xA]);simp only[Option.some.injEq,Addr.mk.injEq]at e;obtain⟨rfl,rfl,_⟩:=e;rw[show (l.map bs).getD j ByteArray.empty=bs l[j] by simp[xA]];exact h3
  ·rw[List.take_of_length_le zq,Y9]at hh;exact hh
def QfY(s:By):List (By×Int)->Nat->Int
 |[],_=>-1
 |c::l,k=>if c.1=s then (k:Int) else QfY s l (k+1)
def JcW(s:By):∀(l:List (By×Int))(k:Nat),(QfY s l k = -1/\Qcm l s=0)\/∃(i:Nat) (a:By×Int),QfY s l k=((k+i:Nat):Int)/\l[i]?=some a/\Qcm l s=a.2
 |[],k=>.inl ⟨rfl,rfl⟩
 |c::l,k=>by
  unfold QfY Qcm
  by_cases e:c.1=s
  ·rw[if_pos e,if_pos e];exact .inr ⟨0,c,rfl,rfl,rfl⟩
  ·rw[if_neg e,if_neg e]
   rcases JcW s l (k+1) with h|⟨i,a,h1,h2,h3⟩
   ·exact .inl h
   ·exact .inr ⟨i+1,a,by rw[h1];omega,h2,h3⟩
def MAt.c15(h:MAt K w p s):w.cell? ⟨p,15,none⟩=some K.wa:=by
 obtain⟨sv,vv,cv,fr,hb,hr⟩:=h;exact Ja hb 15
def JnU(K:MK)(w:World)(p:Nat)(s:StM)(o:OpM)(h:MAt K w p s)(hl:s.st.length<=1000000000000)(hW:QcB w (p-1) K.wa K.F.words)(OE:K.F.words.length<=200000000000000):Calls prog 66 #[Pt p,.agg (yu o)] w (Qav K w p (s.push (QcZ K.F.words o.name)) (.tuple #[])):=by
 obtain⟨R,hR⟩:=yt (Qav K w p (s.push (QcZ K.F.words o.name)) (.tuple #[]))
 rw[hR];have HR:Hi (R=Qav K w p (s.push (QcZ K.F.words o.name)) (.tuple #[])):=hR.symm;have HS:=Zh (MSt.box h (.cells (yu o) 34));have HY:=Zh (zQ w (.cells (yu o) 34));have HL:=Zh hl;clear hl;have HW:=Zh hW;have A8:=Zh OE;clear hW OE;clear hR h;go_enter func66,ntmps66;go_upto_region 1 with fail;generalize World.alloc w _=w1 at*;generalize w.heap.size=yb at*;obtain⟨y0,y1,y2⟩:=Jh HY.o;have yA:=HW.o.up HS.o.below;obtain⟨ad,cc,vA,_,_⟩:=yA.get;have xA:=Zh vA;have M9:=Zh yA;clear yA vA y0 y1 y2;refine wp_region_held_drew (S:=(λW'=>W'.cell? ⟨p,15,none⟩=some (.slice ad K.F.words.length cc)/\W'.cell? ⟨yb,2,none⟩=some (Sv o.name))) zk (⟨xA.o ▸ HS.o.at'.c15,(Jh HY.o).2.2⟩) λhH=>?_;replace HS:=Zh HS.o.drew;have zA:=Jgm (M9.o.up zO.drew) A8.o o.name;rw[xA.o]at zA;have bA:=Zh zA;clear zA;replace HY:Hi (w1.drew.heap[yb]?=_):=HY.o;generalize w1.drew=w1' at*;refine zK 0 ?_
 refine zK 1 ?_;refine zK 2 ?_;refine zK 3 ?_;refine zK 4 ?_;refine zK 5 ?_;refine zK 6 ?_;refine zK 7 ?_;try simp only[zX]
 refine ZR (rs:=[8]) (AllReadyH.cons rfl (λKK hK=>?_) AllReadyH.nil)
 (go_simp;go_at_call 97;refine bA.o.mono ?_;rintro e w2 ⟨rfl,rfl⟩)
 refine zU hK (⟨xA.o ▸ HS.o.at'.c15,(Jh HY.o).2.2⟩) λhH=>?_;clear hK KK
 try simp only[zX]
 refine ZR (rs:=[9]) (AllReadyH.cons rfl (λKK hK=>?_) AllReadyH.nil)
 (go_simp;go_at_call 117;refine(Vn K w2 p s (decide (o.name∈K.F.words)) HS.o.at' HL.o).mono ?_;rintro e w3 ⟨rfl,ha,hb,ht⟩)
 have uA:=Zh (HS.o.next ha hb ht);have aA:=Zh (KU HY.o ht);clear ha hb ht;refine zU hK (⟨xA.o ▸ uA.o.at'.c15,(Jh aA.o).2.2⟩) λhH=>?_;clear hK KK
 try simp only[zX]
 refine wpAnyH_done zk ?_ _;go_wp2;go_end0;rw[HR.o];exact uA.o.fin
def Qjw{P:Prop}(h:P:=by
  clear e;go_enter func119,ntmps119;go_upto_region 1 with fail;generalize World.alloc w _=w1 at*;have y0:=Ja HY.o 0;simp only[List.getElem?_toArray,List.getElem?_cons_zero]at y0;go_wp2;go_ret
  exact⟨rfl,hb'.o⟩):P:=h
def Jgn(w:World)(b T:Nat)(c0 c1:Value)(fr:Nat×Nat)(x y:By)(n:Int)(hb:w.heap[b]?=some (.cells #[c0,c1,Sv y] T fr)):
  Calls prog 119 #[.agg #[Sv x,Iv n],Pt b] w (Qbj w (.bool (decide (x=y)))):=by
 have hb':=Zh ((Below.refl w.heap.size w).alloc (Nat.le_refl _) (.cells #[Sv x,Iv n] 82));have u1:=Jj x;have u2:=Jj y;have hn:=(Jh ((heap_alloc_old w (.cells #[Sv x,Iv n] 82) (Jb hb)).trans hb)).2.2;have HY:=Zh (zQ w (.cells #[Sv x,Iv n] 82))
 by_cases e:x=y
 ·have q:(x==y)=true:=zN e;rw[zG e];exact Qjw
 ·have q:(x==y)=false:=zM e;rw[zH e];exact Qjw
def Jgo(W:World)(p:Nat)(v:Value)(labs:List (By×Int))(h:Qdq W p v labs)(hnn:labs.length<=200000000000000)(hp:p<=W.heap.size)(b T:Nat)(c0 c1:Value)(fr:Nat×Nat)(y:By)(hb:W.heap[b]?=some (.cells #[c0,c1,Sv y] T fr)):
  Calls prog 118 #[v,.func (.func 119) #[] #[Pt b]] W (Qbj W (Iv (QfY y labs 0))):=by
 obtain⟨q,hq⟩:=yt (QfY y labs 0)
 rw[hq];have HQ:Hi (QfY y (labs.drop 0) 0=q):=hq;obtain⟨n,yA⟩:=yt labs.length
 obtain⟨la,lc,rfl,cA,_⟩:=h.get;rw[yA]at h hnn cA;have HW:=Zh h;have HL:=Zh yA;have HN:=Zh hnn;have HP:=Zh hp;have HB:=Zh hb;have H5:Hi (Bel W W):=zO;rw[yA];clear h hq yA hnn cA hp hb;go_enter func118,ntmps118;go_wp2_with fail;go_loopg [8] n λg v8 wr=>∃k:Nat,g+k=n/\v8=Iv k/\Hi (Bel W wr)/\Hi (QfY y (labs.drop k) k=q)
 case atStart=>exact⟨0,rfl,rfl,H5,HQ⟩
 case round=>
 clear HQ H5;obtain⟨wl,rfl⟩:=zJ wr;obtain⟨k,hg,rfl,G1,hz⟩:=hrel;have wk:IntKind.i64.wrap ((k:Int)+1)=(k:Int)+1:=IntWalk.i64_in _ (zu HN.o)
 by_cases hi:k<n
 ·have hil:(k:Int)<(n:Int):=zo;have hlt:k<labs.length:=by rw[HL.o];exact hi
  obtain⟨a,ha⟩:∃a,labs[k]?=some a:=⟨labs[k]'hlt,List.getElem?_eq_getElem _⟩
  have aA:Qdq wl p (.slice la n lc) labs:=HW.o.up (G1.o.mono HP.o);obtain⟨gA,hA,hv,_,uA⟩:=aA.get;obtain⟨b',o',dA,hb',hc,S1⟩:=uA k a ha;simp only[Value.slice.injEq]at hv;have vA:=hv.1;clear hv;rw[dA]at vA;have xA:=hz.o;rw[List.drop_eq_getElem_cons hlt]at xA;have bA:labs[k]=a:=by rw[List.getElem?_eq_getElem hlt]at ha;exact Option.some.inj ha
  rw[bA]at xA;obtain⟨nm,ct⟩:=a;dsimp only at hc S1;rw[QfY]at xA;dsimp only at xA;have zA:=Zh (Jgn wl b T c0 c1 fr nm y ct ((G1.o.block b (Jb HB.o)).trans HB.o));have HG:=Zh hg;clear ha bA hz hlt hb' aA hg uA dA;subst vA
  by_cases e:nm=y
  ·have HE:Hi (decide (nm=y)=true):=zG e;rw[if_pos e]at xA;subst xA;rw[HE.o]at zA;clear e;go_wp2_with fail;refine zA.o.mono ?_;rintro e w2 ⟨rfl,I0⟩;have A6:Hi (Bel W w2):=Jd G1.o I0;clear I0;go_wp2;go_ret;exact⟨rfl,A6.o⟩
  ·have HE:Hi (decide (nm=y)=false):=zH e;rw[if_neg e]at xA;rw[HE.o]at zA;have HZ:=Zh xA;have A5:=Zh hi;clear e xA hi;go_wp2_with fail;refine zA.o.mono ?_;rintro e w2 ⟨rfl,I0⟩;have A6:Hi (Bel W w2):=Jd G1.o I0;clear I0 hc S1;exact QhB
 ·have hil:¬(k:Int)<(n:Int):=zo;have xA:=hz.o;rw[List.drop_of_length_le (by rw[HL.o];omega)]at xA;have eA:q = -1:=by rw[<-xA];rfl
  subst eA;have A6:=Zh G1.o;clear hz xA hi hg G1;go_wp2;go_ret;exact⟨rfl,A6.o⟩
def MAt.c4(h:MAt K w p s):w.cell? ⟨p,4,none⟩=some K.la:=by
 obtain⟨sv,vv,cv,fr,hb,hr⟩:=h;exact Ja hb 4
def JmF(K:MK)(w:World)(p:Nat)(s:StM)(o:OpM)(h:MAt K w p s)(hl:s.st.length<=1000000000000)(hW:Qdq w (p-1) K.la K.F.labels)(OE:K.F.labels.length<=200000000000000):Calls prog 65 #[Pt p,.agg (yu o)] w (Qav K w p (s.push (Qcm K.F.labels o.name)) (.tuple #[])):=by
 obtain⟨R,hR⟩:=yt (Qav K w p (s.push (Qcm K.F.labels o.name)) (.tuple #[]))
 rw[hR];have HR:Hi (R=Qav K w p (s.push (Qcm K.F.labels o.name)) (.tuple #[])):=hR.symm;have HS:=Zh (MSt.box h (.cells (yu o) 34));have HY:=Zh (zQ w (.cells (yu o) 34));have HL:=Zh hl;clear hl;have HW:=Zh hW;have A8:=Zh OE;clear hW OE;clear hR h;go_enter func65,ntmps65;go_upto_region 1 with fail;generalize World.alloc w _=w1 at*;generalize w.heap.size=yb at*;obtain⟨y0,y1,y2⟩:=Jh HY.o;have yA:=HS.o.at'.lt;have zA:=Jgo w1 (p-1) K.la K.F.labels (HW.o.up HS.o.below) A8.o zo yb _ _ _ _ o.name HY.o;have b4:=HS.o.at'.c4;obtain⟨ad,cc,xA,_,_⟩:=(HW.o.up HS.o.below).get;rw[xA]at zA b4;have vA:=Zh zA;clear zA yA xA;go_wp2_with fail;refine vA.o.mono ?_;rintro e w2 ⟨rfl,G1⟩;replace HS:=Zh (HS.o.up G1);have b4:=HS.o.at'.c4;have aA:=HW.o.up HS.o.below;obtain⟨dA,eA,xA,bA,uA⟩:=aA.get;rw[xA]at b4;clear G1 aA xA vA
 rcases JcW o.name K.F.labels 0 with⟨e1,e2⟩|⟨i,a,e1,e2,e3⟩
 ·rw[e1];rw[e2]at HR;clear e1 e2;go_wp2_with fail;refine(JF K w2 p s 0 HS.o.at' HL.o).mono ?_;exact zA9
 ·rw[e1];rw[e3]at HR;rw[Nat.zero_add];obtain⟨b',o',cA,hb',hc,S1⟩:=uA i a e2;have k1:(i:Int)<(K.F.labels.length:Int):=by have:=(List.getElem?_eq_some_iff.1 e2).1;omega
  have k2:¬(i:Int)<0:=zo;subst cA;clear e1 e2 e3 uA hb';generalize K.F.labels.length=nl at*;go_wp2_with fail;refine(JF K w2 p s a.2 HS.o.at' HL.o).mono ?_;exact zA9
def JnV(K:MK)(w:World)(p:Nat)(s:StM)(o:OpM)(h:MAt K w p s)(hl:s.st.length<=1000000000000)(hF:(∃a n c,K.la=.slice a n c)/\∃a n c,K.wa=.slice a n c):Calls prog 64 #[Pt p,.agg (ye o.code o.n o.name)] w (Qav K w p (s.push (QcM K.F o.name)) (.tuple #[])):=by
 obtain⟨R,hR⟩:=yt (Qav K w p (s.push (QcM K.F o.name)) (.tuple #[]))
 rw[hR];have HR:Hi (R=Qav K w p (s.push (QcM K.F o.name)) (.tuple #[])):=hR.symm;have HS:=Zh (MSt.box h (.cells (ye o.code o.n o.name) 34));have HY:=Zh (zQ w (.cells (ye o.code o.n o.name) 34));have HL:=Zh hl;clear hl;rw[Jil]at HR;clear hR h;go_enter func64,ntmps64;go_upto_region 1 with fail;generalize World.alloc w _=w1 at*;generalize w.heap.size=yb at*;obtain⟨y0,y1,y2⟩:=Jh HY.o;have xA:=hF.1;obtain⟨cA,zA,bA,xA⟩:=xA;obtain⟨vA,yA,uA,gA⟩:=hF.2;obtain⟨sv,vv,cv,R0⟩:=HS.o.box';have b4:=Ja R0 4;have f4:=Jc R0 4;have b5:=Ja R0 5;have f5:=Jc R0 5;have b6:=Ja R0 6;have f6:=Jc R0 6;have b7:=Ja R0 7;have f7:=Jc R0 7;have b8:=Ja R0 8;have f8:=Jc R0 8;have b9:=Ja R0 9;have f9:=Jc R0 9;have b10:=Ja R0 10;have iA:=Jc R0 10;have b11:=Ja R0 11;have pA:=Jc R0 11;have hA:=Ja R0 12;have nA:=Jc R0 12;have eA:=Ja R0 13;have qA:=Jc R0 13;have dA:=Ja R0 14;have jA:=Jc R0 14;have aA:=Ja R0 15;have mA:=Jc R0 15;simp only[mC,List.getElem?_toArray,List.getElem?_cons_succ,List.getElem?_cons_zero]at b4 b5 b6 b7 b8 b9 b10 b11 hA eA dA aA;clear R0 f4 f5 f6 f7 f8 f9 iA pA nA qA jA mA;rw[xA]at b4;rw[gA]at aA;have HC:=Zh (zQ w1 (.cells (zV cA zA bA K.F.likes K.F.boosts K.F.replies K.F.reports K.F.age K.F.home K.F.scope K.F.length K.F.follows K.F.reply vA yA uA) 45));replace HS:=Zh (HS.o.up (zO.alloc (Nat.le_refl _) (.cells (zV cA zA bA K.F.likes K.F.boosts K.F.replies K.F.reports K.F.age K.F.home K.F.scope K.F.length K.F.follows K.F.reply vA yA uA) 45)));have kA:=Zh ((heap_alloc_old w1 (.cells (zV cA zA bA K.F.likes K.F.boosts K.F.replies K.F.reports K.F.age K.F.home K.F.scope K.F.length K.F.follows K.F.reply vA yA uA) 45) (Jb HY.o)).trans HY.o);clear xA gA hF;generalize T4:o.name=nm at*;have u1:=Jj nm;clear T4;go_upto_region 2 with fail;clear b4 b5 b6 b7 b8 b9 b10 b11 hA eA dA aA y0 y1 y2;generalize World.alloc w1 _=w2 at*;generalize w1.heap.size=fb at*;obtain⟨y0,y1,y2⟩:=Jh kA.o
 by_cases h0:nm=Qco
 ·have e0:(nm==[108,105,107,101,115])=true:=zN h0;rw[if_pos h0]at HR;clear h0;have c1:=Ja HC.o 1;simp only[zW]at c1;go_wp2_with fail;refine(JF K w2 p s K.F.likes HS.o.at' HL.o).mono ?_;exact zA9
 have e0:(nm==[108,105,107,101,115])=false:=zM h0;rw[if_neg h0]at HR
 by_cases h1:nm=Qch
 ·have e1:(nm==[98,111,111,115,116,115])=true:=zN h1;rw[if_pos h1]at HR;clear h0 h1;have c1:=Ja HC.o 2;simp only[zW]at c1;go_wp2_with fail;refine(JF K w2 p s K.F.boosts HS.o.at' HL.o).mono ?_;exact zA9
 have e1:(nm==[98,111,111,115,116,115])=false:=zM h1;rw[if_neg h1]at HR
 by_cases h2:nm=QbD
 ·have e2:(nm==[114,101,112,108,105,101,115])=true:=zN h2;rw[if_pos h2]at HR;clear h0 h1 h2;have c1:=Ja HC.o 3;simp only[zW]at c1;go_wp2_with fail;refine(JF K w2 p s K.F.replies HS.o.at' HL.o).mono ?_;exact zA9
 have e2:(nm==[114,101,112,108,105,101,115])=false:=zM h2;rw[if_neg h2]at HR
 by_cases h3:nm=QbC
 ·have e3:(nm==[114,101,112,111,114,116,115])=true:=zN h3;rw[if_pos h3]at HR;clear h0 h1 h2 h3;have c1:=Ja HC.o 4;simp only[zW]at c1;go_wp2_with fail;refine(JF K w2 p s K.F.reports HS.o.at' HL.o).mono ?_;exact zA9
 have e3:(nm==[114,101,112,111,114,116,115])=false:=zM h3;rw[if_neg h3]at HR
 by_cases h4:nm=QfI
 ·have e4:(nm==[97,103,101])=true:=zN h4;rw[if_pos h4]at HR;clear h0 h1 h2 h3 h4;have c1:=Ja HC.o 5;simp only[zW]at c1;go_wp2_with fail;refine(JF K w2 p s K.F.age HS.o.at' HL.o).mono ?_;exact zA9
 have e4:(nm==[97,103,101])=false:=zM h4;rw[if_neg h4]at HR
 by_cases h5:nm=QdQ
 ·have e5:(nm==[104,111,109,101])=true:=zN h5;rw[if_pos h5]at HR;clear h0 h1 h2 h3 h4 h5;have c1:=Ja HC.o 6;simp only[zW]at c1;go_wp2_with fail;refine(JF K w2 p s K.F.home HS.o.at' HL.o).mono ?_;exact zA9
 have e5:(nm==[104,111,109,101])=false:=zM h5;rw[if_neg h5]at HR
 by_cases h6:nm=QcS
 ·have e6:(nm==[115,99,111,112,101])=true:=zN h6;rw[if_pos h6]at HR;clear h0 h1 h2 h3 h4 h5 h6;have c1:=Ja HC.o 7;simp only[zW]at c1;go_wp2_with fail;refine(JF K w2 p s K.F.scope HS.o.at' HL.o).mono ?_;exact zA9
 have e6:(nm==[115,99,111,112,101])=false:=zM h6;rw[if_neg h6]at HR
 by_cases h7:nm=Qcg
 ·have e7:(nm==[108,101,110,103,116,104])=true:=zN h7;rw[if_pos h7]at HR;clear h0 h1 h2 h3 h4 h5 h6 h7;have c1:=Ja HC.o 8;simp only[zW]at c1;go_wp2_with fail;refine(JF K w2 p s K.F.length HS.o.at' HL.o).mono ?_;exact zA9
 have e7:(nm==[108,101,110,103,116,104])=false:=zM h7;rw[if_neg h7]at HR
 by_cases h8:nm=QbE
 ·have e8:(nm==[102,111,108,108,111,119,115])=true:=zN h8;rw[if_pos h8]at HR;clear h0 h1 h2 h3 h4 h5 h6 h7 h8;have c1:=Ja HC.o 9;simp only[zW]at c1;go_wp2_with fail;refine(Vn K w2 p s K.F.follows HS.o.at' HL.o).mono ?_;exact zA9
 have e8:(nm==[102,111,108,108,111,119,115])=false:=zM h8;rw[if_neg h8]at HR;clear h0 h1 h2 h3 h4 h5 h6 h7 h8;have c1:=Ja HC.o 10;simp only[zW]at c1;go_wp2_with fail;refine(Vn K w2 p s K.F.reply HS.o.at' HL.o).mono ?_;exact zA9
def JnW(K:MK)(w:World)(p:Nat)(s:StM)(o:OpM)(q:Nat)(vs:List Int)(cl:List (Nat×List Int))(h:MAt K w p s)(hs:s.calls=(q,vs)::cl)(hl:s.calls.length<=100):Calls prog 81 #[Pt p,.agg (yu o)] w (Qav K w p {s with pc:=q,vars:=vs,calls:=cl} (.tuple #[])):=by
 obtain⟨R,hR⟩:=yt (Qav K w p {s with pc:=q,vars:=vs,calls:=cl} (.tuple #[]))
 rw[hR];have HR:Hi (R=Qav K w p {s with pc:=q,vars:=vs,calls:=cl} (.tuple #[])):=hR.symm;have HS:=Zh (MSt.box h (.cells (yu o) 34));have HY:=Zh (zQ w (.cells (yu o) 34));have HT:=Zh hs;have HL:=Zh hl;clear hs hl;clear hR h;go_enter func81,ntmps81;go_upto_region 1 with fail;generalize World.alloc w _=w1 at*;generalize w.heap.size=yb at*;obtain⟨y0,y1,y2⟩:=Jh HY.o;obtain⟨sv,vv,cv,fr,hX⟩:∃sv vv cv fr,Qek K w1 p s sv vv cv fr:=HS.o.at';obtain⟨n,hn⟩:=yt cl.length
 have xA:=hX.2.calls;have O0:=hX.2.frames;have zA:=hX.2.dis;rw[HT.o]at xA O0;rw[length_cons,hn]at xA;obtain⟨g,c,rfl⟩:=Vm xA zo
 rcases fr with _|⟨fv,fr'⟩
 ·exact O0.elim
 obtain⟨bA,C7⟩:=O0;have eA:=hX.2.vars
 have jA:∃k:List Value,Qdf ((q,vs)::cl) (fv::fr')=k++[Iv (q:Nat),fv]/\k.length=n*2/\Qdf cl fr'=k:=by
  have vA:∀(l:List (Nat×List Int))(f:List Value),QeZ w1 (p-1) l f->l.length=f.length:=by
   intro l
   induction l with
   |nil=>intro f h;cases f with|nil=>rfl|cons _ _=>exact h.elim
   |cons x l ih=>intro f h;cases f with|nil=>exact h.elim|cons _ _=>simp[ih _ h.2]
  refine⟨Qdf cl fr',?_,?_,rfl⟩
  ·unfold Qdf;simp
  ·have h1:=vA cl fr' C7
   have h2:∀l:List ((Nat×List Int)×Value),(l.flatMap λx=>[Value.int .i64 (x.1.1:Nat),x.2]).length=l.length*2:=by
    intro l
    induction l with
    |nil=>rfl
    |cons a l ih=>simp[ih];omega
   unfold Qdf;rw[h2,List.length_reverse,List.length_zip,<-h1,hn,Nat.min_self]
 obtain⟨ks,hk1,aA,cA⟩:=jA;rw[hk1]at xA
 have hcl:n+1<=c:=by
  rcases xA.2 with⟨hn,_⟩|⟨g',cap,cur,hv,_,_,h1,_⟩
  ·cases hn
  ·simp only[Value.slice.injEq]at hv;omega
 have g0:w1.cell? ⟨g,n*2,none⟩=some (Iv (q:Nat)):=(YC xA (by rw[List.getElem?_append_right zo,aA,Nat.sub_self];rfl)).2.2.2.1;have g1:w1.cell? ⟨g,n*2+1,none⟩=some fv:=(YC xA (by rw[List.getElem?_append_right zo,aA,Nat.add_sub_cancel_left];rfl)).2.2.2.1
 have mA:∃a nn cc,fv=.slice a nn cc:=by
  obtain⟨a,cc,h⟩:=Jv bA;exact⟨a,_,cc,h⟩
 obtain⟨fa,fn,fc,rfl⟩:=mA
 have kA:∃a nn cc,vv=.slice a nn cc:=by
  obtain⟨a,cc,h⟩:=Jv eA;exact⟨a,_,cc,h⟩
 obtain⟨va,vn,vc,rfl⟩:=kA;have b16:=Ja hX.1 16;have f16:=Jc hX.1 16;have hA:=Ja hX.1 18;have pA:=Jc hX.1 18;have nA:=Ja hX.1 19;have rA:=Jc hX.1 19;simp only[mC,List.getElem?_toArray,List.getElem?_cons_succ,List.getElem?_cons_zero]at b16 hA nA;have dA:s.calls.length=n+1:=by rw[HT.o,length_cons,hn]
 have P4:=HL.o;rw[dA]at P4;have wk:IntKind.i64.wrap ((n:Int)+1-1)=(n:Int):=by rw[IntWalk.i64_in _ zo];omega
 have qA:IntKind.i64.wrap (((n+1:Nat):Int)-1)=(n:Int):=by rw[IntWalk.i64_in _ zo];omega
 have iA:wrap64 (n:Int)=(n:Int):=IntWalk.wrap64_in _ zo;have k0:(0:Int)<=(n:Int):=zo;have k1:(n:Int)<((n+1:Nat):Int):=zo;have k2:(n:Int)<(n:Int)+1:=zo;have k3:(n:Int)<=(c:Int):=zo;have k4:n<=c:=zo;have R5:p≠g:=λe=>YZ xA hX.1 zp (by rw[e];rfl)
 have C0:∀W:World,(W=((w1.drew.setCell ⟨p,16,none⟩ (Iv (q:Nat))).setCell ⟨p,18,none⟩ (.slice fa fn fc)).setCell ⟨p,19,none⟩ (.slice (some ⟨g,0,none⟩) n c))->MSt K w p {s with pc:=q,vars:=vs,calls:=cl} W:=by
  intro W hW;have hst:=HS.o.drew;have hc1:Below (p-1) w1.drew W:=by rw[hW];exact((zO.setCell zq _).setCell zq _).setCell zq _
  have S1:TFr w1.drew W:=by
   rw[hW];exact((TFr.set (w:=w1.drew) hX.1).trans (TFr.set (Jm (w:=w1.drew) hX.1 16 _))).trans (TFr.set (Jm (Jm (w:=w1.drew) hX.1 16 _) 18 _))
  refine hst.next ⟨sv,.slice fa fn fc,.slice (some ⟨g,0,none⟩) n c,fr',?_,?_⟩ hc1 S1
  ·rw[hW];exact Jm (Jm (Jm (w:=w1.drew) hX.1 16 _) 18 _) 19 _
  ·have uA:∀{e sz n:Nat}{v:Value}{xs:List Value},76≠e->w1.ownsRow (p-1) e sz v n xs->W.ownsRow (p-1) e sz v n xs:=by
    intro e sz n v xs he h;rw[hW];exact KT (KT (KT (w:=w1.drew) h.drew hX.1 he _) (Jm (w:=w1.drew) hX.1 16 _) he _) (Jm (Jm (w:=w1.drew) hX.1 16 _) 18 _) he _
   have hd:=List.pairwise_cons.1 zA;have gA:=List.pairwise_cons.1 hd.2;refine⟨uA zp hX.2.st,uA zp bA,?_,C7.keep (row:=none) (λ_ _ _ _ _ he h' _=>uA (λe=>he e.symm) h') λ_ _ _ _=>by simp,List.pairwise_cons.2 ⟨λv hv=>hd.1 v (List.mem_cons_of_mem _ hv),gA.2⟩⟩;have:=JcP xA (m:=n) zo;rw[List.take_append_of_le_length zo,List.take_of_length_le zo,<-cA]at this;rw[hn];exact uA zp this
 have yA:=Zh C0;clear C0 hk1 aA cA bA C7 eA zA xA hX hn dA P4 y0 y1 y2;go_wp2_with fail;simp only[iA];go_region;go_wp2;go_end0;rw[HR.o];exact(yA.o _ rfl).fin
end Go.Proofs.YtfafpklefknomaaGreatDoor



