import Derived.Test.YtdlkcjkjnehnkaaGreatDoorH15
open List(length_map mem_of_getElem?)
open Nat(lt_of_lt_of_le)
namespace Go.Proofs.YtdlkcjkjnehnkaaGreatDoor
open Go.ChangeShapes Go.WideShapes Go.ChangeAt Go.RowKit Go.Lib
open _root_.Go.Proofs.Tryz
set_option linter.all false
set_option maxRecDepth 100000
set_option maxHeartbeats 32000000
structure Qca(P:Nat->Nat->Prop)(W W':World):Prop where
 os:W'.os=W.os
 tape:W'.tape=W.tape
 output:W'.output=W.output
 size:W.heap.size<=W'.heap.size
 block:∀ b,b<W.heap.size->(∀ j,¬ P b j)->W'.heap[b]?=W.heap[b]?
 cell:∀ b j,b<W.heap.size->¬ P b j->W'.cell? ⟨b,j,none⟩=W.cell? ⟨b,j,none⟩
 frz:∀ b j,b<W.heap.size->W'.frozen? ⟨b,j,none⟩=W.frozen? ⟨b,j,none⟩
 shape:∀ (b:Nat) (cs:Array Value) (t:TypeId) (fr:Nat × Nat),W.heap[b]?=some (.cells cs t fr)->∃ cs':Array Value,W'.heap[b]?=some (.cells cs' t fr)/\cs'.size=cs.size
theorem Qca.refl(P:Nat->Nat->Prop)(W:World):Qca P W W:=⟨rfl,rfl,rfl,Nat.le_refl _,fun _ _ _=>rfl,fun _ _ _ _=>rfl,fun _ _ _=>rfl,fun b cs t fr h=>⟨cs,h,rfl⟩⟩
theorem Qca.trans{P:Nat->Nat->Prop}{W W1 W2:World}(h:Qca P W W1)(k:Qca P W1 W2):Qca P W W2:=
 ⟨k.os.trans h.os,k.tape.trans h.tape,k.output.trans h.output,Nat.le_trans h.size k.size,fun b hb hp=>(k.block b (lt_of_lt_of_le hb h.size) hp).trans (h.block b hb hp),fun b j hb hp=>(k.cell b j (lt_of_lt_of_le hb h.size) hp).trans (h.cell b j hb hp),fun b j hb=>(k.frz b j (lt_of_lt_of_le hb h.size)).trans (h.frz b j hb),fun b cs t fr hb=>by
  obtain⟨c1,h1,e1⟩:=h.shape b cs t fr hb;obtain⟨c2,h2,e2⟩:=k.shape b c1 t fr h1
  exact⟨c2,h2,e2.trans e1⟩⟩
theorem Qca.mono{P Q:Nat->Nat->Prop}{W W':World}(h:Qca P W W')(hpq:∀ b j,b<W.heap.size->P b j->Q b j):Qca Q W W':=
 ⟨h.os,h.tape,h.output,h.size,fun b hb hq=>h.block b hb (fun j hp=>hq j (hpq b j hb hp)),fun b j hb hq=>h.cell b j hb (fun hp=>hq (hpq b j hb hp)),h.frz,h.shape⟩
theorem Qca.of_below{P:Nat->Nat->Prop}{W W':World}(h:Below W.heap.size W W'):Qca P W W':=
 ⟨h.os,h.tape,h.output,h.size,fun b hb _=>h.block b hb,fun b j hb _=>World.cell?_of_block (a:=⟨b,j,none⟩) (h.block b hb),fun b j hb=>World.frozen?_of_block (a:=⟨b,j,none⟩) (h.block b hb),fun b cs t fr hb=>⟨cs,(h.block b (Jb hb)).trans hb,rfl⟩⟩
theorem Qca.step{P Q:Nat->Nat->Prop}{W W1 W2:World}(h:Qca P W W1)(k:Qca Q W1 W2)(hq:∀ b j,Q b j->P b j\/W.heap.size<=b):Qca P W W2:=
 ⟨k.os.trans h.os,k.tape.trans h.tape,k.output.trans h.output,Nat.le_trans h.size k.size,fun b hb hp=>(k.block b (lt_of_lt_of_le hb h.size) (fun j hj=>by rcases hq b j hj with h1|h1;exact hp j h1;omega)).trans (h.block b hb hp),fun b j hb hp=>(k.cell b j (lt_of_lt_of_le hb h.size) (fun hj=>by rcases hq b j hj with h1|h1;exact hp h1;omega)).trans (h.cell b j hb hp),fun b j hb=>(k.frz b j (lt_of_lt_of_le hb h.size)).trans (h.frz b j hb),fun b cs t fr hb=>by
  obtain⟨c1,h1,e1⟩:=h.shape b cs t fr hb;obtain⟨c2,h2,e2⟩:=k.shape b c1 t fr h1
  exact⟨c2,h2,e2.trans e1⟩⟩
theorem JaA(W:World)(q j:Nat)(u:Value){b:Nat}{cs:Array Value}{t:TypeId}{fr:Nat × Nat}(h:W.heap[b]?=some (.cells cs t fr)):∃ cs':Array Value,(W.setCell ⟨q,j,none⟩ u).heap[b]?=some (.cells cs' t fr)/\cs'.size=cs.size:=by
 by_cases e:b=q
 ·subst e;exact⟨cs.setIfInBounds j u,J3 h j u,by simp⟩
 ·exact⟨cs,(Below.heap_setCell _ _ _ _ e).trans h,rfl⟩
theorem Qca.set{P:Nat->Nat->Prop}{W:World}{b j:Nat}{cs:Array Value}{t:TypeId}{fr:Nat × Nat}(hb:W.heap[b]?=some (.cells cs t fr))(hp:P b j)(u:Value):Qca P W (W.setCell ⟨b,j,none⟩ u):=by
 refine⟨rfl,rfl,rfl,by simp[World.setCell],fun q _ hq=>Below.heap_setCell _ _ _ _ (fun e=>?_),fun q i _ hq=>World.cell?_setCell_other _ _ _ _ (fun e=>?_),fun q i _=>?_,fun q cs t fr hq=>JaA W _ _ u hq⟩
 ·subst e;exact hq j hp
 ·injection e with e1 e2;subst e1 e2;exact hq hp
 ·by_cases e:q=b
  ·subst e;have h1:=J3 hb j u;simp[World.frozen?,h1,hb]
  ·exact World.frozen?_of_block (a:=⟨q,i,none⟩) (Below.heap_setCell _ _ _ _ e)
theorem Qba.chgC{P:Nat->Nat->Prop}{W W':World}{rb:Nat}{t:TypeId}{x:Option Int}{M:Value}(h:Qba W rb t x M)(hc:Qca P W W')(hp:∀ j,¬ P rb j):Qba W' rb t x M:=(hc.block rb (Jb h) hp).trans h
theorem JcB{rb:Nat}{t:TypeId}{x x':Option Int}{M:Value}{W W':World}(h:Qba W rb t x M)(h':Qba W' rb t x' M)(hc:Chg [rb] W W'):Qca (fun b j=>b=rb/\j<2) W W':=by
 refine⟨hc.os,hc.tape,hc.output,hc.size,fun b hb hp=>hc.block b hb (fun hm=>?_),fun b j hb hp=>?_,fun b j hb=>?_,fun b cs t' fr hb=>?_⟩
 ·obtain rfl:b=rb:=by simpa using hm
  exact hp 0 ⟨rfl,by omega⟩
 ·by_cases e:b=rb
  ·subst e;rw[Ja h,Ja h'];have hj:¬ j<2:=fun hj=>hp ⟨rfl,hj⟩
   obtain⟨j,rfl⟩:∃ i,j=i+2:=⟨j-2,by omega⟩
   simp
  ·exact World.cell?_of_block (a:=⟨b,j,none⟩) (hc.block b hb (by simpa using e))
 ·by_cases e:b=rb
  ·subst e;rw[Jc h,Jc h']
  ·exact World.frozen?_of_block (a:=⟨b,j,none⟩) (hc.block b hb (by simpa using e))
 ·by_cases e:b=rb
  ·subst e;rw[show W.heap[b]?=_ from h]at hb;injection hb with hb;injection hb with e1 e2 e3;subst e1 e2 e3;exact⟨_,h',rfl⟩
  ·exact⟨cs,(hc.block b (Jb hb) (by simpa using e)).trans hb,rfl⟩
structure QbX(W:World)(q o:Nat)(a:An):Prop where
 cells:∀ j u,(Qaa a).toList[j]?=some u->W.cell? ⟨q,o+j,none⟩=some u
 frz:∀ j,W.frozen? ⟨q,j,none⟩=false
 at':a.At W
theorem VU{W:World}{q j:Nat}{u:Value}(h:W.cell? ⟨q,j,none⟩=some u)(hf:True):∃ (cs:Array Value) (t:TypeId) (fr:Nat × Nat),W.heap[q]?=some (.cells cs t fr):=by
 unfold World.cell? at h;split at h
 ·rename_i cs t fr he;exact⟨_,_,_,he⟩
 ·cases h
mutual
theorem Yg{P:Nat->Nat->Prop}{W W':World}(hc:Qca P W W'):∀ (a:An),a.At W->(∀ b∈foot a,∀ j,¬ P b j)->a.At W'
 |a,h,hp=>JJ a h fun b hb=>hc.block b (Jbn a h b hb) (hp b hb)
end
mutual
def Qbu(fs:List (List UInt8)):List (List UInt8)->An->An
 |vars,.mk k n s o b c l=>
  if k=2 then .mk k (QaQ vars s) [] o b c (Qbb fs vars l)
  else if k=20 then .mk k ((Qai fs s).getD 0:Nat) [] o b c (Qbb fs vars l)
  else if k=19 then
   match l with
   |[x,y]=>.mk k vars.length [] o b c [Qbu fs vars x,Qbu fs (vars++[s]) y]
   |l=>.mk k n s o b c l
  else .mk k n s o b c (Qbb fs vars l)
def Qbb(fs:List (List UInt8)):List (List UInt8)->List An->List An
 |_,[]=>[]
 |vars,a::l=>Qbu fs vars a::Qbb fs vars l
end
theorem Jbt(fs vars:List (List UInt8))(l:List An):Qbb fs vars l=l.map (Qbu fs vars):=by
 induction l with
 |nil=>simp[Qbb]
 |cons a l ih=>simp[Qbb,ih]
theorem VE(fs vars:List (List UInt8))(k n:Int)(s:List UInt8)(o:Int)(l:List Nd):Qcl fs vars (.mk k n s o l) =
  if k=2 then (.mk k (QaQ vars s) [] o (QbE fs vars l).1,(if QaQ vars s<0 then [o] else [])++(QbE fs vars l).2)
  else if k=20 then (.mk k ((Qai fs s).getD 0:Nat) [] o (QbE fs vars l).1,(if (Qai fs s).isNone then [o] else [])++(QbE fs vars l).2)
  else if k=19 then
   match l with
   |[a,b]=>(.mk k vars.length [] o [(Qcl fs vars a).1,(Qcl fs (vars++[s]) b).1],(Qcl fs vars a).2++(Qcl fs (vars++[s]) b).2)
   |l=>(.mk k n s o l,[])
  else (.mk k n s o (QbE fs vars l).1,(QbE fs vars l).2):=by
 conv=>lhs;unfold Qcl
 try rfl
mutual
theorem Zb(fs:List (List UInt8)):∀ (vars:List (List UInt8)) (a:An),(Qbu fs vars a).nd=(Qcl fs vars a.nd).1
 |vars,.mk k n s o b c l=>by
  rw[An.nd,VE];unfold Qbu;split
  ·rw[An.nd,YC]
  ·split
   ·rw[An.nd,YC]
   ·split
    ·match l with
     |[]=>simp[An.nd,ndL]
     |[x]=>simp[An.nd,ndL]
     |[x,y]=>simp only[An.nd,ndL,Zb fs vars x,Zb fs (vars++[s]) y]
     |x::y::z::r=>simp[An.nd,ndL]
    ·rw[An.nd,YC]
theorem YC(fs:List (List UInt8)):∀ (vars:List (List UInt8)) (l:List An),ndL (Qbb fs vars l)=(QbE fs vars (ndL l)).1
 |vars,[]=>by simp[Qbb,ndL,QbE]
 |vars,a::l=>by simp only[Qbb,ndL,QbE,Zb fs vars a,YC fs vars l]
end
mutual
theorem J8(fs:List (List UInt8)):∀ (vars:List (List UInt8)) (a:An),foot (Qbu fs vars a)=foot a
 |vars,.mk k n s o b c l=>by
  unfold Qbu;split
  ·cases l with
   |nil=>simp[Qbb,foot]
   |cons x r=>simp only[Qbb,foot,J8 fs vars x,Vr fs vars r]
  ·split
   ·cases l with
    |nil=>simp[Qbb,foot]
    |cons x r=>simp only[Qbb,foot,J8 fs vars x,Vr fs vars r]
   ·split
    ·match l with
     |[]=>rfl
     |[x]=>rfl
     |[x,y]=>simp only[foot,Qah,J8 fs vars x,J8 fs (vars++[s]) y]
     |x::y::z::r=>rfl
    ·cases l with
     |nil=>simp[Qbb,foot]
     |cons x r=>simp only[Qbb,foot,J8 fs vars x,Vr fs vars r]
theorem Vr(fs:List (List UInt8)):∀ (vars:List (List UInt8)) (l:List An),Qah (Qbb fs vars l)=Qah l
 |vars,[]=>by simp[Qbb,Qah]
 |vars,a::l=>by simp only[Qbb,Qah,J8 fs vars a,Vr fs vars l]
end
theorem JdI(fs vars:List (List UInt8)):∀ (l:List Nd) (a:Nd),(QbE fs vars (l++[a])).2=(QbE fs vars l).2++(Qcl fs vars a).2
 |[],a=>by simp[QbE]
 |x::l,a=>by simp only[List.cons_append,QbE,JdI fs vars l a,List.append_assoc]
def QcK(W:World)(vv:Value)(vars:List (List UInt8))(g:Nat):Prop:=
 ∃ ad cc,vv=.slice ad vars.length cc/\(vars.length<=cc/\(vars=[]->ad=none/\cc=0))/\(vars≠[]->ad=some ⟨g,0,none⟩/\∀ i s,vars[i]?=some s->W.cell? ⟨g,i,none⟩=some (.string (bs s)))
theorem QcK.chgC{P:Nat->Nat->Prop}{W W':World}{vv:Value}{vars:List (List UInt8)}{g:Nat}(h:QcK W vv vars g)(hc:Qca P W W')(hp:vars≠[]->∀ j,¬ P g j):QcK W' vv vars g:=by
 obtain⟨ad,cc,h1,h2,h3⟩:=h;refine⟨ad,cc,h1,h2,fun hne=>⟨(h3 hne).1,fun i s hs=>?_⟩⟩;have:=(h3 hne).2 i s hs;exact(hc.cell g i (World.block_lt_of_cell? W ⟨g,i,none⟩ this) (hp hne i)).trans this
theorem Z7(s:List UInt8):∀ (l:List (List UInt8)) (p:Int × Int),(l.foldl (fun (p:Int × Int) v=>(p.1+1,if v=s then p.1 else p.2)) p).1=p.1+l.length
 |[],p=>by simp
 |v::l,p=>by
  rw[List.foldl_cons,Z7 s l];simp;omega
theorem Zc(l:List (List UInt8))(v s:List UInt8):QaQ (l++[v]) s=if v=s then (l.length:Int) else QaQ l s:=by
 unfold QaQ;rw[List.foldl_append];simp only[List.foldl_cons,List.foldl_nil];rw[Z7];simp
theorem Z8(s:List UInt8):QaQ [] s = -1:=rfl
theorem JcC{vars:List (List UInt8)}{m:Nat}{v:List UInt8}(s:List UInt8)(h:vars[m]?=some v):QaQ (vars.take (m+1)) s=if v=s then (m:Int) else QaQ (vars.take m) s:=by
 have hlt:=(List.getElem?_eq_some_iff.1 h).1;rw[List.take_add_one,h];simp only[Option.toList_some];rw[Zc,List.length_take,Nat.min_eq_left (by omega)]
theorem Zd(s:List UInt8):∀ (n:Nat) (l:List (List UInt8)),l.length=n->-1<=QaQ l s/\QaQ l s<n
 |0,l,h=>by
  obtain rfl:=List.eq_nil_of_length_eq_zero h;exact⟨by rw[Z8];omega,by rw[Z8];omega⟩
 |n+1,l,h=>by
  rcases List.eq_nil_or_concat l with rfl|⟨l',v,rfl⟩
  ·simp at h
  ·have hl:l'.length=n:=by simpa using h
   have:=Zd s n l' hl;rw[List.concat_eq_append,Zc];split<;>omega
mutual
def WfN:Nd->Prop
 |.mk k n s o l=>(k=19->l.length=2)/\(k=15->l.length=2)/\(k=18->l.length=3)/\s.length<=1000000/\WfL l
def WfL:List Nd->Prop
 |[]=>True
 |a::l=>WfN a/\WfL l
end
theorem JaB{l:List Nd}(h:WfL l):∀ a∈l,WfN a:=by
 induction l with
 |nil=>intro a ha;cases ha
 |cons x r ih=>
  unfold WfL at h;exact Qlu
theorem Jbu{W:World}{b:Nat}:∀ (l:List An) (i:Nat),(∀ m z,l[m]?=some z->(∀ j u,(Qaa z).toList[j]?=some u->W.cell? ⟨b,(i+m)*5+j,none⟩=some u)/\z.At W)->AtL W b i l
 |[],i,h=>by unfold AtL;trivial
 |a::l,i,h=>by
  unfold AtL;have h0:=h 0 a rfl;refine⟨h0.1,h0.2,Jbu l (i+1) fun m z hz=>?_⟩;have:=h (m+1) z (by simpa using hz);rw[show i+1+m=i+(m+1) by omega];exact this
theorem Yh:∀ {l:List An} {i m:Nat} {y z:An} {q:Nat},(Qah l).Nodup->l[i]?=some y->l[m]?=some z->i≠m->q∈foot z->q∉foot y
 |[],i,m,y,z,q,_,hy,_,_,_=>by cases hy
 |a::l,0,0,y,z,q,_,_,_,hne,_=>absurd rfl hne
 |a::l,0,m+1,y,z,q,hn,hy,hz,_,hq=>by
  unfold Qah at hn;obtain rfl:a=y:=by simpa using hy
  have hz':q∈Qah l:=JB (mem_of_getElem? (by simpa using hz:l[m]?=some z)) q hq;intro h;exact(List.nodup_append.1 hn).2.2 q h q hz' rfl
 |a::l,i+1,0,y,z,q,hn,hy,hz,_,hq=>by
  unfold Qah at hn;obtain rfl:a=z:=by simpa using hz
  intro h;have hy':q∈Qah l:=JB (mem_of_getElem? (by simpa using hy:l[i]?=some y)) q h;exact(List.nodup_append.1 hn).2.2 q hq q hy' rfl
 |a::l,i+1,m+1,y,z,q,hn,hy,hz,hne,hq=>by
  unfold Qah at hn;exact Yh (List.nodup_append.1 hn).2.1 (by simpa using hy:l[i]?=some y) (by simpa using hz:l[m]?=some z) (by omega) hq
def Qez(q o rb:Nat)(F:List Nat)(b j:Nat):Prop:=(b=q/\o<=j/\j<o+5)\/b∈F\/b=rb
structure QbS(fs:List (List UInt8))(rb:Nat)(t:TypeId)(mb mn:Nat)(W:World)(q o:Nat)(x:Option Int)(vv:Value)(vars:List (List UInt8))(g:Nat)(a:An):Prop where
 node:QbX W q o a
 nod:(foot a).Nodup
 qf:q∉foot a
 rf:rb∉foot a/\rb≠q
 gf:vars≠[]->g∉foot a/\g≠q/\g≠rb
 mf:mb∉foot a/\mb≠q/\mb≠rb
 flt:Qba W rb t x (.map (some mb))
 map:Qbg W mb mn (fun s=>Qai fs s)
 vars:QcK W vv vars g
 wf:WfN a.nd
def Qdr(fs:List (List UInt8))(rb:Nat)(t:TypeId)(mb:Nat)(w:World)(q o:Nat)(x:Option Int)(vars:List (List UInt8))(a:An)(e:Ending)(w':World):Prop:=
 e=.returned (.tuple #[])/\QbX w' q o (Qbu fs vars a)/\Qba w' rb t (QaK x (Qcl fs vars a.nd).2) (.map (some mb))/\Qca (Qez q o rb (foot a)) w w'
structure Qdh(fs:List (List UInt8))(rb:Nat)(t:TypeId)(mb mn:Nat)(w W:World)(q o:Nat)(x1:Option Int)(vv:Value)(vars:List (List UInt8))(g b:Nat)(l:List An)(pc:Array Value)(i:Nat):Prop where
 par:∀ j u,pc.toList[j]?=some u->W.cell? ⟨q,o+j,none⟩=some u
 pfr:∀ j,W.frozen? ⟨q,j,none⟩=false
 kids:AtL W b 0 ((l.take i).map (Qbu fs vars)++l.drop i)
 kfr:l≠[]->∀ j,W.frozen? ⟨b,j,none⟩=false
 flt:Qba W rb t (QaK x1 (QbE fs vars (ndL (l.take i))).2) (.map (some mb))
 map:Qbg W mb mn (fun s=>Qai fs s)
 vars:QcK W vv vars g
 chg:Qca (Qez q o rb (if l=[] then [] else b::Qah l)) w W
 lts:q<W.heap.size/\(l≠[]->b<W.heap.size)
structure Qef(q rb g mb b:Nat)(vars:List (List UInt8))(l:List An):Prop where
 nod:(Qah l).Nodup/\(l≠[]->b∉Qah l)
 qa:q∉Qah l/\(l≠[]->q≠b)
 ra:rb∉Qah l/\(l≠[]->rb≠b)/\rb≠q
 ga:vars≠[]->g∉Qah l/\(l≠[]->g≠b)/\g≠q/\g≠rb
 ma:mb∉Qah l/\(l≠[]->mb≠b)/\mb≠q/\mb≠rb
theorem YD{fs:List (List UInt8)}{rb:Nat}{t:TypeId}{mb mn:Nat}{W:World}{q o:Nat}{x:Option Int}{vv:Value}{vars:List (List UInt8)}{g:Nat}{k n:Int}{s:List UInt8}{off:Int}{b c:Nat}{l:List An}(h:QbS fs rb t mb mn W q o x vv vars g (.mk k n s off b c l)):Qef q rb g mb b vars l:=by
 have h1:=h.nod;have h2:=h.qf;have h3:=h.rf;have h4:=h.gf;have h5:=h.mf;rw[KP]at h1 h2 h3 h4 h5
 by_cases e:l=[]
 ·subst e;exact⟨by simp[Qah],by simp[Qah],by simpa[Qah] using h3,fun hv=>by simpa[Qah] using h4 hv,by simpa[Qah] using h5⟩
 ·rw[if_neg e]at h1 h2 h3 h4 h5;simp only[List.nodup_cons,List.mem_cons,not_or]at h1 h2 h3 h4 h5;exact⟨⟨h1.2,fun _=>h1.1⟩,⟨h2.2,fun _=>h2.1⟩,⟨h3.1.2,fun _=>h3.1.1,h3.2⟩,fun hv=>⟨(h4 hv).1.2,fun _=>(h4 hv).1.1,(h4 hv).2⟩,⟨h5.1.2,fun _=>h5.1.1,h5.2⟩⟩
section
variable {fs:List (List UInt8)} {rb:Nat} {t:TypeId} {mb mn:Nat} {w W W':World} {q o:Nat} {x1:Option Int} {vv:Value} {vars:List (List UInt8)} {g b:Nat} {l:List An} {pc:Array Value} {i:Nat}
theorem Qdh.pre{y:An}(h:Qdh fs rb t mb mn w W q o x1 vv vars g b l pc i)(hA:Qef q rb g mb b vars l)(hy:l[i]?=some y)(hw:WfL (ndL l)):QbS fs rb t mb mn W b (i*5) (QaK x1 (QbE fs vars (ndL (l.take i))).2) vv vars g y:=by
 have hne:l≠[]:=by intro e;rw[e]at hy;cases hy
 have hlt:=(List.getElem?_eq_some_iff.1 hy).1;have hmem:=mem_of_getElem? hy;have hsub:=fun q hq=>JB hmem q hq
 have hget:((l.take i).map (Qbu fs vars)++l.drop i)[i]?=some y:=by
  rw[List.getElem?_append_right (by simp;omega)];simp[Nat.min_eq_left (Nat.le_of_lt hlt),hy]
 obtain⟨k1,k2⟩:=JT h.kids hget;rw[Nat.zero_add]at k1;refine⟨⟨k1,h.kfr hne,k2⟩,?_,fun hm=>hA.nod.2 hne (hsub _ hm),⟨fun hm=>hA.ra.1 (hsub _ hm),hA.ra.2.1 hne⟩,fun hv=>⟨fun hm=>(hA.ga hv).1 (hsub _ hm),(hA.ga hv).2.1 hne,(hA.ga hv).2.2.2⟩,⟨fun hm=>hA.ma.1 (hsub _ hm),hA.ma.2.1 hne,hA.ma.2.2.2⟩,h.flt,h.map,h.vars,JaB hw _ (by rw[Kj];exact List.mem_map.2 ⟨y,hmem,rfl⟩)⟩;have hnd:=hA.nod.1;clear h hA hw hne hlt hsub hget k1 k2
 induction l generalizing i with
 |nil=>cases hmem
 |cons a r ih=>
  unfold Qah at hnd
  rcases List.mem_cons.1 hmem with rfl|hm
  ·exact(List.nodup_append.1 hnd).1
  ·obtain⟨m,hm'⟩:=List.getElem?_of_mem hm;exact ih hm' hm (List.nodup_append.1 hnd).2.1
theorem QlW{P:Prop}(h:P:=by
  rcases hj with⟨e,_⟩|hj|e
  ·exact .inr (.inl (by rw[e];simp))
  ·exact .inr (.inl (List.mem_cons_of_mem _ (hsub _ hj)))
  ·exact .inr (.inr e)):P:=h
theorem Qdh.step{y:An}{e:Ending}(h:Qdh fs rb t mb mn w W q o x1 vv vars g b l pc i)(hA:Qef q rb g mb b vars l)(hy:l[i]?=some y)(hr:Qdr fs rb t mb W b (i*5) (QaK x1 (QbE fs vars (ndL (l.take i))).2) vars y e W'):Qdh fs rb t mb mn w W' q o x1 vv vars g b l pc (i+1):=by
 obtain⟨_,hn,hf,hc⟩:=hr;have hne:l≠[]:=by intro e;rw[e]at hy;cases hy
 have hlt:=(List.getElem?_eq_some_iff.1 hy).1;have hmem:=mem_of_getElem? hy;have hsub:=fun q hq=>JB hmem q hq
 have hq:∀ j,¬ Qez b (i*5) rb (foot y) q j:=fun j hj=>by
  rcases hj with⟨e,_⟩|hj|e
  ·exact hA.qa.2 hne e
  ·exact hA.qa.1 (hsub _ hj)
  ·exact hA.ra.2.2 e.symm
 have htk:l.take (i+1)=l.take i++[y]:=by rw[List.take_add_one,hy];rfl
 have hget:∀ m z,((l.take (i+1)).map (Qbu fs vars)++l.drop (i+1))[m]?=some z->(m=i/\z=Qbu fs vars y)\/(m≠i/\((l.take i).map (Qbu fs vars)++l.drop i)[m]?=some z/\∃ z0,l[m]?=some z0/\foot z=foot z0):=by
  intro m z hz
  by_cases hm:m<i
  ·rw[List.getElem?_append_left (by simp;omega),List.getElem?_map,List.getElem?_take_of_lt (by omega)]at hz;obtain⟨z0,h0,rfl⟩:=Option.map_eq_some_iff.1 hz;refine .inr ⟨by omega,?_,z0,h0,J8 fs vars z0⟩;rw[List.getElem?_append_left (by simp;omega),List.getElem?_map,List.getElem?_take_of_lt hm,h0];rfl
  ·by_cases he:m=i
   ·subst he;rw[List.getElem?_append_left (by simp;omega),List.getElem?_map,List.getElem?_take_of_lt (by omega),hy]at hz;exact .inl ⟨rfl,by simpa using hz.symm⟩
   ·rw[List.getElem?_append_right (by simp;omega)]at hz;simp only[length_map,List.length_take,Nat.min_eq_left (show i+1<=l.length by omega),List.getElem?_drop]at hz;rw[show i+1+(m-(i+1))=m by omega]at hz;refine .inr ⟨he,?_,z,hz,rfl⟩;rw[List.getElem?_append_right (by simp;omega)];simp only[length_map,List.length_take,Nat.min_eq_left (Nat.le_of_lt hlt),List.getElem?_drop];rw[show i+(m-i)=m by omega];exact hz
 have hbl:=h.lts.2 hne;refine⟨fun j u hj=>?_,fun j=>(hc.frz q j h.lts.1).trans (h.pfr j),?_,fun _ j=>(hc.frz b j hbl).trans (h.kfr hne j),?_,h.map.same (hc.block mb h.map.lt fun j hj=>?_),h.vars.chgC hc (fun hv j hj=>?_),h.chg.step hc (fun c j hj=>.inl ?_),⟨lt_of_lt_of_le h.lts.1 hc.size,fun _=>lt_of_lt_of_le hbl hc.size⟩⟩
 ·exact(hc.cell q (o+j) h.lts.1 (hq _)).trans (h.par j u hj)
 ·refine Jbu _ 0 fun m z hz=>?_
  rw[Nat.zero_add]
  rcases hget m z hz with⟨rfl,rfl⟩|⟨hmi,hz',z0,hz0,hfz⟩
  ·exact⟨hn.cells,hn.at'⟩
  ·obtain⟨k1,k2⟩:=JT h.kids hz';rw[Nat.zero_add]at k1;refine⟨fun j u hj=>?_,Yg hc z k2 fun c hcf j hj=>?_⟩
   ·have hj5:j<5:=by have:=(List.getElem?_eq_some_iff.1 hj).1;rw[Array.length_toList,J4]at this;exact this
    refine(hc.cell b (m*5+j) hbl fun hp=>?_).trans (k1 j u hj)
    rcases hp with⟨_,h1,h2⟩|h1|h1
    ·rcases Nat.lt_or_gt_of_ne hmi with h3|h3
     ·have:(m+1)*5<=i*5:=Nat.mul_le_mul_right 5 h3;omega
     ·have:(i+1)*5<=m*5:=Nat.mul_le_mul_right 5 h3;omega
    ·exact hA.nod.2 hne (hsub _ h1)
    ·exact hA.ra.2.1 hne h1.symm
   ·rw[hfz]at hcf;have hcl:c∈Qah l:=JB (mem_of_getElem? hz0) c hcf
    rcases hj with⟨e,_⟩|hj|e
    ·subst e;exact hA.nod.2 hne hcl
    ·exact Yh hA.nod.1 hy hz0 (Ne.symm hmi) hcf hj
    ·subst e;exact hA.ra.1 hcl
 ·rw[htk,K3,JdI,Jv];exact hf
 ·rcases hj with⟨e,_⟩|hj|e
  ·exact hA.ma.2.1 hne e
  ·exact hA.ma.1 (hsub _ hj)
  ·exact hA.ma.2.2.2 e
 ·rcases hj with⟨e,_⟩|hj|e
  ·exact(hA.ga hv).2.1 hne e
  ·exact(hA.ga hv).1 (hsub _ hj)
  ·exact(hA.ga hv).2.2.2 e
 ·rw[if_neg hne];exact QlW
theorem Qdh.done{k n:Int}{s:List UInt8}{off:Int}{c:Nat}(h:Qdh fs rb t mb mn w W q o x1 vv vars g b l pc l.length)(hp:pc=Qaa (.mk k n s off b c (Qbb fs vars l))):QbX W q o (.mk k n s off b c (Qbb fs vars l))/\Qba W rb t (QaK x1 (QbE fs vars (ndL l)).2) (.map (some mb))/\Qca (Qez q o rb (if l=[] then [] else b::Qah l)) w W:=by
 refine⟨⟨by rw[<- hp];exact h.par,h.pfr,?_⟩,?_,h.chg⟩
 ·have:=h.kids;rw[List.take_length,List.drop_length,List.append_nil,<- Jbt]at this;unfold An.At;refine⟨fun hne j=>h.kfr (fun e=>hne (by rw[e];rfl)) j,this⟩
 ·have:=h.flt;rw[List.take_length]at this;exact this
theorem Qdh.start{k n:Int}{s:List UInt8}{off:Int}{c:Nat}(hn:QbX W q o (.mk k n s off b c l))(hp:pc=Qaa (.mk k n s off b c l))(hf:Qba W rb t x1 (.map (some mb)))(hm:Qbg W mb mn (fun s=>Qai fs s))(hv:QcK W vv vars g)(hc:Qca (Qez q o rb (if l=[] then [] else b::Qah l)) w W):Qdh fs rb t mb mn w W q o x1 vv vars g b l pc 0:=by
 have hat:=hn.at';unfold An.At at hat;have hq:q<W.heap.size:=World.block_lt_of_cell? (a:=⟨q,o+0,none⟩) W (hn.cells 0 (.int .i64 k) rfl);refine⟨by rw[hp];exact hn.cells,hn.frz,by simpa using hat.2,hat.1,by simpa[ndL,QbE,QaK] using hf,hm,hv,hc,hq,fun hne=>?_⟩
 cases l with
 |nil=>exact absurd rfl hne
 |cons x r=>
  have h2:=hat.2;unfold AtL at h2;obtain⟨xA,xn,xc,hcf⟩:=Jf x;exact World.block_lt_of_cell? (a:=⟨b,0*5+0,none⟩) W (h2.1 0 (.int .i64 x.kind) (by rw[hcf];rfl))
theorem QbX.head{k n:Int}{s:List UInt8}{off:Int}{c:Nat}(h:QbX W q o (.mk k n s off b c l))(hq:q∉(if l=[] then [] else b::Qah l))(n':Int)(s':List UInt8)(hc:∀ j u,(#[.int .i64 k,.int .i64 n',.string (bs s'),.int .i64 off,QaB b c l]:Array Value).toList[j]?=some u->W'.cell? ⟨q,o+j,none⟩=some u)(hg:Qca (fun c j=>c=q) W W'):QbX W' q o (.mk k n' s' off b c l):=by
 have hql:q<W.heap.size:=World.block_lt_of_cell? (a:=⟨q,o+0,none⟩) W (h.cells 0 (.int .i64 k) rfl)
 have hat:(An.mk k n s off b c l).At W':=Yg hg _ h.at' fun d hd j e=>by
  rw[KP]at hd;rw[e]at hd;exact hq hd
 exact⟨hc,fun j=>(hg.frz q j hql).trans (h.frz j),hat⟩
end
theorem JaC(fs vars:List (List UInt8))(k n:Int)(s:List UInt8)(o:Int)(b c:Nat)(l:List An):Qbu fs vars (.mk k n s o b c l) =
  if k=2 then .mk k (QaQ vars s) [] o b c (Qbb fs vars l)
  else if k=20 then .mk k ((Qai fs s).getD 0:Nat) [] o b c (Qbb fs vars l)
  else if k=19 then
   match l with
   |[x,y]=>.mk k vars.length [] o b c [Qbu fs vars x,Qbu fs (vars++[s]) y]
   |l=>.mk k n s o b c l
  else .mk k n s o b c (Qbb fs vars l):=by
 conv=>lhs;unfold Qbu
 try rfl
structure HdI(fs:List (List UInt8))(rb:Nat)(t:TypeId)(mb mn:Nat)(w W:World)(q o:Nat)(x1:Option Int)(vv:Value)(vars:List (List UInt8))(g b c:Nat)(l:List An)(k off n':Int)(s':List UInt8):Prop where
 node:QbX W q o (.mk k n' s' off b c l)
 flt:Qba W rb t x1 (.map (some mb))
 map:Qbg W mb mn (fun s=>Qai fs s)
 vars:QcK W vv vars g
 chg:Qca (Qez q o rb (if l=[] then [] else b::Qah l)) w W
section
variable {fs:List (List UInt8)} {rb:Nat} {t:TypeId} {mb mn:Nat} {w W W':World} {q o:Nat} {x1:Option Int} {vv:Value} {vars:List (List UInt8)} {g b c:Nat} {l:List An} {k off n':Int} {s':List UInt8}
theorem QbX.lt{a:An}(h:QbX W q o a):q<W.heap.size:=by
 obtain⟨xA,xn,xc,hcf⟩:=Jf a;exact World.block_lt_of_cell? (a:=⟨q,o+0,none⟩) W (h.cells 0 (.int .i64 a.kind) (by rw[hcf];rfl))
theorem HdI.over(h:HdI fs rb t mb mn w W q o x1 vv vars g b c l k off n' s')(hA:Qef q rb g mb b vars l){P:Nat->Nat->Prop}(hc:Qca P W W')(hp:∀ d j,P d j->d=q/\o<=j/\j<o+5){n2:Int}{s2:List UInt8}(hcell:∀ j u,(Qaa (.mk k n2 s2 off b c l)).toList[j]?=some u->W'.cell? ⟨q,o+j,none⟩=some u):HdI fs rb t mb mn w W' q o x1 vv vars g b c l k off n2 s2:=by
 refine⟨h.node.head ?_ n2 s2 hcell (hc.mono fun d j _ hj=>(hp d j hj).1),h.flt.chgC hc (fun j hj=>hA.ra.2.2 (hp _ _ hj).1),h.map.same (hc.block mb h.map.lt fun j hj=>hA.ma.2.2.1 (hp _ _ hj).1),h.vars.chgC hc (fun hv j hj=>(hA.ga hv).2.2.1 (hp _ _ hj).1),h.chg.step hc fun d j hj=>.inl (.inl (hp d j hj))⟩
 by_cases e:l=[]
 ·rw[if_pos e];simp
 ·rw[if_neg e];simp only[List.mem_cons,not_or];exact⟨hA.qa.2 e,hA.qa.1⟩
theorem HdI.setN(h:HdI fs rb t mb mn w W q o x1 vv vars g b c l k off n' s')(hA:Qef q rb g mb b vars l)(u:Int):HdI fs rb t mb mn w (W.setCell ⟨q,o+1,none⟩ (.int .i64 u)) q o x1 vv vars g b c l k off u s':=by
 obtain⟨cs,ty,fr,hb⟩:=VU (h.node.cells 0 (.int .i64 k) rfl) trivial;refine h.over hA (P:=fun d j=>d=q/\j=o+1) (Qca.set hb ⟨rfl,rfl⟩ _) (fun d j hj=>⟨hj.1,by omega⟩) fun j v hj=>?_
 by_cases e:j=1
 ·subst e;rw[World.cell?_setCell_same W _ _ (h.node.cells 1 (.int .i64 n') rfl)];simpa[Qaa] using hj
 ·rw[World.cell?_setCell_other _ _ _ _ (by intro e';injection e' with _ e2;omega)];refine h.node.cells j v ?_
  match j,e with
  |0,_=>exact hj
  |j+2,_=>exact hj
theorem HdI.setS(h:HdI fs rb t mb mn w W q o x1 vv vars g b c l k off n' s')(hA:Qef q rb g mb b vars l)(u:List UInt8):HdI fs rb t mb mn w (W.setCell ⟨q,o+2,none⟩ (.string (bs u))) q o x1 vv vars g b c l k off n' u:=by
 obtain⟨cs,ty,fr,hb⟩:=VU (h.node.cells 0 (.int .i64 k) rfl) trivial;refine h.over hA (P:=fun d j=>d=q/\j=o+2) (Qca.set hb ⟨rfl,rfl⟩ _) (fun d j hj=>⟨hj.1,by omega⟩) fun j v hj=>?_
 by_cases e:j=2
 ·subst e;rw[World.cell?_setCell_same W _ _ (h.node.cells 2 (.string (bs s')) rfl)];simpa[Qaa] using hj
 ·rw[World.cell?_setCell_other _ _ _ _ (by intro e';injection e' with _ e2;omega)];refine h.node.cells j v ?_
  match j,e with
  |0,_=>exact hj
  |1,_=>exact hj
  |j+3,_=>exact hj
theorem HdI.below(h:HdI fs rb t mb mn w W q o x1 vv vars g b c l k off n' s')(hb:Below W.heap.size W W'):HdI fs rb t mb mn w W' q o x1 vv vars g b c l k off n' s':=
 ⟨⟨fun j u hj=>(hb.cell (World.block_lt_of_cell? _ _ (h.node.cells j u hj))).trans (h.node.cells j u hj),fun j=>(World.frozen?_of_block (a:=⟨q,j,none⟩) (hb.block q h.node.lt)).trans (h.node.frz j),Jbo h.node.at' hb⟩,(hb.block _ (Jb h.flt)).trans h.flt,h.map.same (hb.block mb h.map.lt),h.vars.chgC (Qca.of_below (P:=fun _ _=>False) hb) (fun _ _ hj=>hj),h.chg.trans (Qca.of_below hb)⟩
theorem HdI.add{e:Ending}{y:Int}(h:HdI fs rb t mb mn w W q o x1 vv vars g b c l k off n' s')(hA:Qef q rb g mb b vars l)(ha:QkI W rb t (addF x1 y) (.map (some mb)) e W'):HdI fs rb t mb mn w W' q o (QaK x1 [y]) vv vars g b c l k off n' s':=by
 obtain⟨_,hf,hc⟩:=ha;have hcc:=JcB h.flt hf hc
 have hat:(An.mk k n' s' off b c l).At W':=Yg hcc _ h.node.at' fun d hd j hj=>by
  rw[KP]at hd
  by_cases e:l=[]
  ·rw[if_pos e]at hd;cases hd
  ·rw[if_neg e]at hd;rw[hj.1]at hd
   rcases List.mem_cons.1 hd with h1|h1
   ·exact hA.ra.2.1 e h1
   ·exact hA.ra.1 h1
 exact⟨⟨fun j u hj=>(hcc.cell q (o+j) h.node.lt (fun hj=>hA.ra.2.2 hj.1.symm)).trans (h.node.cells j u hj),fun j=>(hcc.frz q j h.node.lt).trans (h.node.frz j),hat⟩,hf,h.map.same (hcc.block mb h.map.lt fun j hj=>hA.ma.2.2.2 hj.1),h.vars.chgC hcc (fun hv j hj=>(hA.ga hv).2.2.2 hj.1),h.chg.step hcc fun d j hj=>.inl (.inr (.inr hj.1))⟩
theorem HdI.kid(h:HdI fs rb t mb mn w W q o x1 vv vars g b c l k off n' s'){pc:Array Value}(hp:pc=Qaa (.mk k n' s' off b c l)):Qdh fs rb t mb mn w W q o x1 vv vars g b l pc 0:=Qdh.start h.node hp h.flt h.map h.vars h.chg
theorem QbS.hd{x:Option Int}{n:Int}{s:List UInt8}(h:QbS fs rb t mb mn W q o x vv vars g (.mk k n s off b c l)):HdI fs rb t mb mn W W q o x vv vars g b c l k off n s:=⟨h.node,h.flt,h.map,h.vars,Qca.refl _ _⟩
theorem JfL:QaB b c (Qbb fs vars l)=QaB b c l:=by
 cases l with
 |nil=>simp[Qbb]
 |cons x r=>simp[QaB,Jbt]
end
theorem bx6{P:Prop}(h:P:=by
  clear HK;obtain⟨wl,rfl⟩:∃ wl:World,wl=wr:=⟨_,rfl⟩
  obtain⟨i,hg,rfl,hI⟩:=hrel
  by_cases hi:i<l.length
  ·have hil:(i:Int)<(l.length:Int):=by omega
   obtain⟨y,hy⟩:∃ y,l[i]?=some y:=⟨l[i],List.getElem?_eq_getElem hi⟩
   have hmem:=List.mem_of_getElem? hy;have had':ad=some ⟨b,0,none⟩:=HAD.out (List.ne_nil_of_mem hmem);have cx:=IH y vars _ g b (i*5) _ wl (Nat.le_trans (JL hmem) HSZ.out) (by omega) (hI.out.pre HA.out hy HWL.out);have c4:=hI.out.par 4 _ rfl;have wk:IntKind.i64.wrap ((i:Int)+1)=(i:Int)+1:=IntWalk.i64_in _ (by omega);have HST:=Zh (fun e W' hr=>hI.out.step (e:=e) (W':=W') HA.out hy hr);have HG:=Zh hg;subst had';clear hg hy hmem hI HAD IH;go_wp2_with fail;refine cx.mono ?_;intro e w2 hr;have hst:=HST.out _ _ hr;obtain rfl:=hr.1;have HK2:=Zh hst;clear hst hr cx HST c4;go_wp2;go_roundg (l.length-(i+1))
   case measure=>have:=HG.out;omega
   case rel=>exact⟨i+1,by omega,by go_num,HK2⟩
  ·have hil:¬ (i:Int)<(l.length:Int):=by omega
   obtain rfl:i=l.length:=by omega
   clear hi hg IH;go_wp2;go_end0;rw[HR.out];obtain⟨e1,e2',e3⟩:=hI.out.done (HCR.out _ _).symm
   exact HFIN.out _ e1 e2' e3):P:=h
theorem QkN{P:Prop}(h:P:=by
  show #[_,_,_,_,QaB b c (Qbb fs vars l)]=_
  rw[JfL,hkv]):P:=h
theorem JfM(fs:List (List UInt8))(rb:Nat)(t:TypeId)(mb mn:Nat)(hfs:fs.length<=1000000000)(n:Nat)
  (IH:∀ (y:An) (vars':List (List UInt8)) (vv':Value) (g' q' o':Nat) (x':Option Int) (W:World),siz y.nd<=n->n+vars'.length<=1000000000->QbS fs rb t mb mn W q' o' x' vv' vars' g' y->Calls prog 77 #[.pointer (some ⟨rb,0,none⟩),.pointer (some ⟨q',o',none⟩),vv'] W (Qdr fs rb t mb W q' o' x' vars' y))
  (a:An) (vars:List (List UInt8)) (vv:Value) (g q o:Nat) (x:Option Int) (w:World) (hn:siz a.nd<=n+1) (hb:n+1+vars.length<=1000000000) (hpre:QbS fs rb t mb mn w q o x vv vars g a) (hk2:a.kind≠2) (hk20:a.kind≠20) (hk19:a.kind≠19) :
  Calls prog 77 #[.pointer (some ⟨rb,0,none⟩),.pointer (some ⟨q,o,none⟩),vv] w (Qdr fs rb t mb w q o x vars a):=by
 obtain⟨k,nn,s,off,b,c,l⟩:=a;simp only[An.kind]at hk2 hk20 hk19;obtain⟨R,hR⟩:∃ R,Qdr fs rb t mb w q o x vars (.mk k nn s off b c l)=R:=⟨_,rfl⟩
 rw[hR];have HR:Hid (R=Qdr fs rb t mb w q o x vars (.mk k nn s off b c l)):=hR.symm;have hA:=YD hpre;have hH:=hpre.hd;rw[Y8]at hn;have hwf:=hpre.wf;unfold An.nd WfN at hwf;obtain⟨h19,_,_,hsl,hwl⟩:=hwf;obtain⟨ad,cc,hkv,had⟩:=Jo b c l
 have hcs:∀ n' s',Qaa (.mk k n' s' off b c l)=#[.int .i64 k,.int .i64 n',.string (bs s'),.int .i64 off,.slice ad l.length cc]:=fun n' s'=>by
  show #[_,_,_,_,QaB b c l]=_
  rw[hkv]
 have hcr:∀ n' s',Qaa (.mk k n' s' off b c (Qbb fs vars l))=#[.int .i64 k,.int .i64 n',.string (bs s'),.int .i64 off,.slice ad l.length cc]:=fun n' s'=>by
  exact QkN
 obtain⟨va,vc,rfl,hvc,hvr⟩:=hpre.vars;have HVR:=Zh hvr;have HAD:=Zh had;have HCS:=Zh hcs;have HCR:=Zh hcr;have HWL:=Zh hwl;have HSL:=Zh hsl;have HH:=Zh hH;have HA:=Zh hA;have HSZ:Hid (Qbq (ndL l)<=n):=by rw[Hid];omega
 have hlen:l.length<=n:=by have:=Jx l;omega
 have H19:Hid (k=19->l.length=2):=fun e=>by have:=h19 e;rwa [Kj,length_map]at this
 have hne1:rb≠q:=hA.ra.2.2;have hne2:q≠rb:=Ne.symm hne1;have HFN:Hid (foot (.mk k nn s off b c l)=if l=[] then [] else b::Qah l):=KP k nn s off b c l;have hc:=hH.node.cells;rw[hcs]at hc;have d0:=hc 0 _ rfl;simp only[Nat.add_zero]at d0;clear hpre hR hA hH h19 hsl hwl hkv had hcs hcr hvr hc hn;have e2:(k==2)=false:=zzq hk2;have e20:(k==20)=false:=zzq hk20;have e19:(k==19)=false:=zzq hk19
 have HFIN:Hid (∀ W,QbX W q o (.mk k nn s off b c (Qbb fs vars l))->Qba W rb t (QaK x (QbE fs vars (ndL l)).2) (.map (some mb))->Qca (Qez q o rb (if l=[] then [] else b::Qah l)) w W->Qdr fs rb t mb w q o x vars (.mk k nn s off b c l) (.returned (.tuple #[])) W):=by
  intro W h1 h2 h3;have hr:Qbu fs vars (.mk k nn s off b c l)=.mk k nn s off b c (Qbb fs vars l):=by rw[JaC,if_neg hk2,if_neg hk20,if_neg hk19]
  refine⟨rfl,by rw[hr];exact h1,?_,by rw[HFN.out];exact h3⟩;rw[An.nd,VE,if_neg hk2,if_neg hk20,if_neg hk19];exact h2
 clear hk2 hk20 hk19 HSL H19 HVR HFN hvc;go_enter func77,ntmps77;have c1:True:=trivial;have HK:Hid (Qdh fs rb t mb mn w w q o (x) (.slice va vars.length vc) vars g b l #[.int .i64 k,.int .i64 nn,.string (bs s),.int .i64 off,.slice ad l.length cc] 0):=HH.out.kid (HCS.out _ _).symm;have c4:=HK.out.par 4 _ rfl;clear HH HCS;go_wp2_with fail;clear c4;go_loopg [136] l.length (fun gg v136 wr=>∃ i:Nat,gg+i=l.length/\v136=.int .i64 i/\Hid (Qdh fs rb t mb mn w wr q o (x) (.slice va vars.length vc) vars g b l #[.int .i64 k,.int .i64 nn,.string (bs s),.int .i64 off,.slice ad l.length cc] i))
 case atStart=>exact⟨0,rfl,rfl,HK⟩
 case round=>
 exact bx6
theorem JhZ(fs:List (List UInt8))(rb:Nat)(t:TypeId)(mb mn:Nat)(hfs:fs.length<=1000000000)(n:Nat)
  (IH:∀ (y:An) (vars':List (List UInt8)) (vv':Value) (g' q' o':Nat) (x':Option Int) (W:World),siz y.nd<=n->n+vars'.length<=1000000000->QbS fs rb t mb mn W q' o' x' vv' vars' g' y->Calls prog 77 #[.pointer (some ⟨rb,0,none⟩),.pointer (some ⟨q',o',none⟩),vv'] W (Qdr fs rb t mb W q' o' x' vars' y))
  (a:An) (vars:List (List UInt8)) (vv:Value) (g q o:Nat) (x:Option Int) (w:World) (hn:siz a.nd<=n+1) (hb:n+1+vars.length<=1000000000) (hpre:QbS fs rb t mb mn w q o x vv vars g a) (hk:a.kind=2) :
  Calls prog 77 #[.pointer (some ⟨rb,0,none⟩),.pointer (some ⟨q,o,none⟩),vv] w (Qdr fs rb t mb w q o x vars a):=by
 obtain⟨k,nn,s,off,b,c,l⟩:=a;simp only[An.kind]at hk;obtain⟨R,hR⟩:∃ R,Qdr fs rb t mb w q o x vars (.mk k nn s off b c l)=R:=⟨_,rfl⟩
 rw[hR];have HR:Hid (R=Qdr fs rb t mb w q o x vars (.mk k nn s off b c l)):=hR.symm;have hA:=YD hpre;have hH:=hpre.hd;rw[Y8]at hn;have hwf:=hpre.wf;unfold An.nd WfN at hwf;obtain⟨h19,_,_,hsl,hwl⟩:=hwf;obtain⟨ad,cc,hkv,had⟩:=Jo b c l
 have hcs:∀ n' s',Qaa (.mk k n' s' off b c l)=#[.int .i64 k,.int .i64 n',.string (bs s'),.int .i64 off,.slice ad l.length cc]:=fun n' s'=>by
  show #[_,_,_,_,QaB b c l]=_
  rw[hkv]
 have hcr:∀ n' s',Qaa (.mk k n' s' off b c (Qbb fs vars l))=#[.int .i64 k,.int .i64 n',.string (bs s'),.int .i64 off,.slice ad l.length cc]:=fun n' s'=>by
  exact QkN
 obtain⟨va,vc,rfl,hvc,hvr⟩:=hpre.vars;have HVR:=Zh hvr;have HAD:=Zh had;have HCS:=Zh hcs;have HCR:=Zh hcr;have HWL:=Zh hwl;have HSL:=Zh hsl;have HH:=Zh hH;have HA:=Zh hA;have HSZ:Hid (Qbq (ndL l)<=n):=by rw[Hid];omega
 have hlen:l.length<=n:=by have:=Jx l;omega
 have H19:Hid (k=19->l.length=2):=fun e=>by have:=h19 e;rwa [Kj,length_map]at this
 have hne1:rb≠q:=hA.ra.2.2;have hne2:q≠rb:=Ne.symm hne1;have HFN:Hid (foot (.mk k nn s off b c l)=if l=[] then [] else b::Qah l):=KP k nn s off b c l;have hc:=hH.node.cells;rw[hcs]at hc;have d0:=hc 0 _ rfl;simp only[Nat.add_zero]at d0;clear hpre hR hA hH h19 hsl hwl hkv had hcs hcr hvr hc hn;subst hk;have e2:((2:Int)==2)=true:=by decide
 have HFIN:Hid (∀ W,QbX W q o (.mk 2 (QaQ vars s) [] off b c (Qbb fs vars l))->Qba W rb t (QaK (QaK x (if QaQ vars s<0 then [off] else [])) (QbE fs vars (ndL l)).2) (.map (some mb))->Qca (Qez q o rb (if l=[] then [] else b::Qah l)) w W->Qdr fs rb t mb w q o x vars (.mk 2 nn s off b c l) (.returned (.tuple #[])) W):=by
  intro W h1 h2 h3;have hr:Qbu fs vars (.mk 2 nn s off b c l)=.mk 2 (QaQ vars s) [] off b c (Qbb fs vars l):=by rw[JaC,if_pos rfl]
  refine⟨rfl,by rw[hr];exact h1,?_,by rw[HFN.out];exact h3⟩;rw[An.nd,VE,if_pos rfl];dsimp only;rw[Jv];exact h2
 clear HSL H19 HFN;have hl0:=Zd s vars.length vars rfl;have wv:IntKind.i64.wrap ((vars.length:Int)-1)=(vars.length:Int)-1:=IntWalk.i64_in _ (by omega);have HH2:=Zh (HH.out.setN HA.out ((vars.length:Int)-1));have hc1:=HH.out.node.cells 1 (.int .i64 nn) rfl;have hf1:=HH.out.node.frz (o+1);have hlq:=HH.out.node.lt;have HLX:Hid (QaQ vars s=QaQ (vars.take vars.length) s):=by rw[Hid,List.take_length]
 clear HH;go_enter func77,ntmps77;go_wp2_with fail;clear hc1 hf1 hlq;generalize World.setCell w _ _=w1 at *;go_loopg [] vars.length (fun m wr=>m<=vars.length/\Hid (HdI fs rb t mb mn w wr q o x (.slice va vars.length vc) vars g b c l 2 off ((m:Int)-1) s)/\Hid (QaQ vars s=QaQ (vars.take m) s))
 case atStart=>exact⟨Nat.le_refl _,HH2,HLX⟩
 case round=>
 clear HH2 HLX;obtain⟨wl,rfl⟩:∃ wl:World,wl=wr:=⟨_,rfl⟩
 obtain⟨hm,hI,hx⟩:=hrel;have hD:Below wl.heap.size wl wl.drew:=(Below.refl wl.heap.size wl).drew;have HI:=Zh (hI.out.below hD);clear hD;have c1:wl.cell? ⟨q,o+1,none⟩=some (.int .i64 ((gk:Int)-1)):=hI.out.node.cells 1 _ rfl;have c2:wl.cell? ⟨q,o+2,none⟩=some (.string (bs s)):=hI.out.node.cells 2 _ rfl;have c3:wl.cell? ⟨q,o+3,none⟩=some (.int .i64 off):=hI.out.node.cells 3 _ rfl;have f1:=hI.out.node.frz (o+1);have f2:=hI.out.node.frz (o+2);have hlq:=hI.out.node.lt;have hv:=hI.out.vars;have HX:=Zh hx.out
 cases gk with
 |zero=>
  have dn:((((0:Nat):Int)-1):Int) = -1:=by omega
  rw[dn]at c1 HI;have HL:Hid (QaQ vars s = -1):=by rw[Hid,HX.out];rfl
  rw[HL.out,if_pos (by decide)]at HFIN;clear HX dn hI hx hv hl0 HL;go_upto_region 3 with fail;go_region;go_upto_region 6 with fail;clear c1 c2 c3 f1 f2 hlq;generalize wl.drew=w2 at *;have hD2:Below w2.heap.size w2 w2.drew:=(Below.refl w2.heap.size w2).drew;replace HI:=Zh (HI.out.below hD2);clear hD2;refine wp_region_held_drew (S:=fun _=>True) (by kernel_rfl) (trivial) (fun hH=>?_);refine ZT (i:=0) (v:=?vT1_0) rfl (Or.inl ⟨by rfl,?yT1_0⟩) ?_
  case yT1_0=>exact ZyQ
  try simp only[Act.put,ZA,ZB,ZC]
  refine ZT (i:=1) (v:=?vT1_1) rfl (Or.inl ⟨by rfl,?yT1_1⟩) ?_
  case yT1_1=>exact ZyQ
  try simp only[Act.put,ZA,ZB,ZC]
  refine ZT (i:=2) (v:=?vT1_2) rfl (Or.inl ⟨by rfl,?yT1_2⟩) ?_
  case yT1_2=>exact ZyQ
  try simp only[Act.put,ZA,ZB,ZC]
  refine ZT (i:=3) (v:=?vT1_3) rfl (Or.inl ⟨by rfl,?yT1_3⟩) ?_
  case yT1_3=>exact ZyQ
  try simp only[Act.put,ZA,ZB,ZC]
  refine ZT (i:=4) (v:=?vT1_4) rfl (Or.inl ⟨by rfl,?yT1_4⟩) ?_
  case yT1_4=>exact ZyQ
  try simp only[Act.put,ZA,ZB,ZC]
  refine ZT (i:=5) (v:=?vT1_5) rfl (Or.inl ⟨by rfl,?yT1_5⟩) ?_
  case yT1_5=>exact ZyQ
  try simp only[Act.put,ZA,ZB,ZC]
  refine ZS 6 rfl (fun K hK=>?_);have c3:=HI.out.node.cells 3 (Value.int .i64 off) rfl;go_simp;clear c3;refine hK.out _ _ trivial (fun hH=>?_);clear hK K
  try simp only[Act.put,ZA,ZB,ZC]
  refine ZS 7 rfl (fun K hK=>?_)
  (go_simp;go_at_call 75;refine(VD _ rb t (x) (.map (some mb)) off HI.out.flt).mono ?_;intro e w3 h3)
  have hst:=HI.out.add HA.out h3;obtain rfl:=h3.1;replace HI:=Zh hst;clear h3 hst;refine hK.out _ _ trivial (fun hH=>?_);clear hK K
  try simp only[Act.put,ZA,ZB,ZC]
  refine wpAnyH_done (by kernel_rfl) ?_ _;have c2:=HI.out.node.cells 2 (Value.string (bs s)) rfl;have f2:=HI.out.node.frz (o+2);have hlq:=HI.out.node.lt;have HS:Hid (HdI fs rb t mb mn w (w3.setCell ⟨q,o+2,none⟩ (.string ⟨#[]⟩)) q o (QaK x [off]) (.slice va vars.length vc) vars g b c l 2 off (-1) []):=HI.out.setS HA.out [];clear HI;go_upto_region 17 with fail;clear c2 f2 hlq;generalize World.setCell w3 _ _=w4 at *;have HH:=HS;clear HS;have HK:Hid (Qdh fs rb t mb mn w w4 q o (QaK x [off]) (.slice va vars.length vc) vars g b l #[.int .i64 2,.int .i64 (-1),.string (bs []),.int .i64 off,.slice ad l.length cc] 0):=HH.out.kid (HCS.out _ _).symm;have c4:=HK.out.par 4 _ rfl;clear HH HCS;go_wp2_with fail;clear c4;go_loopg [136] l.length (fun gg v136 wr=>∃ i:Nat,gg+i=l.length/\v136=.int .i64 i/\Hid (Qdh fs rb t mb mn w wr q o (QaK x [off]) (.slice va vars.length vc) vars g b l #[.int .i64 2,.int .i64 (-1),.string (bs []),.int .i64 off,.slice ad l.length cc] i))
  case atStart=>exact⟨0,rfl,rfl,HK⟩
  case round=>
  exact bx6
 |succ m=>
  have dm:(((m+1:Nat):Int)-1)=(m:Int):=by omega
  rw[dm]at c1 HI;have wk:IntKind.i64.wrap ((m:Int)-1)=(m:Int)-1:=IntWalk.i64_in _ (by omega);have hml:m<vars.length:=by omega
  have hmi:(m:Int)<(vars.length:Int):=by omega
  have hm0:(m:Int)>=0:=by omega
  obtain⟨u,hu⟩:∃ u,vars[m]?=some u:=⟨vars[m],List.getElem?_eq_getElem hml⟩
  obtain⟨va',vc',hv1,hv2,hv3⟩:=hv;injection hv1 with hva _ hvcc;have hvn:vars≠[]:=by intro e;rw[e]at hml;exact absurd hml (by simp)
  obtain⟨g1,g2⟩:=hv3 hvn;have cg:=g2 m u hu;rw[<- hva]at g1;subst g1;have hlx:=JcC s hu;rw[<- HX.out]at hlx;have HN:=Zh (HI.out.setN HA.out ((m:Int)-1));have t1:=Jl u;have t2:=Jl s;clear HX hI hx hva hvcc hv2 hv3 g2 hu hvn dm
  by_cases hus:u=s
  ·subst hus;rw[if_pos rfl]at hlx;rw[hlx,if_neg (by omega),JdH]at HFIN;have q1:(u==u)=true:=by simp
   have q2:(u !=u)=false:=by simp
   have hlt0:¬ ((m:Int)<0):=by omega
   have HS:Hid (HdI fs rb t mb mn w ((wl.setCell ⟨q,o+2,none⟩ (.string ⟨#[]⟩)).drew) q o x (.slice (some ⟨g,0,none⟩) vars.length vc) vars g b c l 2 off (m:Int) []):=HI.out.setS HA.out [];clear hlx HN hl0 HI;go_upto_region 3 with fail;go_region;go_upto_region 7 with fail;go_upto_region 17 with fail;clear c1 c2 c3 f1 f2 hlq cg t1 t2 q1 q2;generalize World.drew (World.setCell wl _ _)=w2 at *;have HH:=HS;clear HS;have HK:Hid (Qdh fs rb t mb mn w w2 q o (x) (.slice (some ⟨g,0,none⟩) vars.length vc) vars g b l #[.int .i64 2,.int .i64 (m:Int),.string (bs []),.int .i64 off,.slice ad l.length cc] 0):=HH.out.kid (HCS.out _ _).symm;have c4:=HK.out.par 4 _ rfl;clear HH HCS;go_wp2_with fail;clear c4;go_loopg [136] l.length (fun gg v136 wr=>∃ i:Nat,gg+i=l.length/\v136=.int .i64 i/\Hid (Qdh fs rb t mb mn w wr q o (x) (.slice (some ⟨g,0,none⟩) vars.length vc) vars g b l #[.int .i64 2,.int .i64 (m:Int),.string (bs []),.int .i64 off,.slice ad l.length cc] i))
   case atStart=>exact⟨0,rfl,rfl,HK⟩
   case round=>
   exact bx6
  ·rw[if_neg hus]at hlx;have HL:=Zh hlx;have q1:(u==s)=false:=zzq hus;have q2:(u !=s)=true:=bne_iff_ne.2 hus;clear hlx hus;go_upto_region 3 with fail;go_region;go_wp2_with fail;go_roundg m
   case measure=>exact Nat.lt_succ_self _
   case rel=>exact⟨by omega,HN,HL⟩
end Go.Proofs.YtdlkcjkjnehnkaaGreatDoor
