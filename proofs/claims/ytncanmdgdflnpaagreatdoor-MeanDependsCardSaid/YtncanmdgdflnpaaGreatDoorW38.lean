import Derived.Maps.AppendAt
import Derived.Test.YtncanmdgdflnpaaGreatDoorW37
namespace Go.Proofs.YtncanmdgdflnpaaGreatDoor
open Go.ChangeShapes Go.WideShapes Go.ChangeAt Go.RowKit Go.Lib
open _root_.Go.Proofs.Tryz
set_option linter.all false
set_option maxRecDepth 100000
set_option maxHeartbeats 32000000
theorem JB {w:World} {base e size n:Nat} {v:Value} {xs:List Value} (h:w.ownsRow base e size v n xs):∃ a c,v=.slice a n c:=by
 rcases h.2 with ⟨rfl,rfl⟩ | ⟨g,cap,cur,rfl,_⟩
 ·exact ⟨none,0,rfl⟩
 ·exact ⟨_,_,rfl⟩
theorem JZ {w w':World} {base e size n:Nat} {v:Value} {xs:List Value} (h:w.ownsRow base e size v n xs) (hb:Below w.heap.size w w'):w'.ownsRow base e size v n xs:=by
 refine ⟨h.1,?_⟩
 rcases h.2 with h2 | ⟨g,cap,cur,hv,hbg,hg,h3⟩
 ·exact .inl h2
 ·exact .inr ⟨g,cap,cur,hv,hbg,(hb.block g (Array.getElem?_eq_some_iff.1 hg).1).trans hg,h3⟩
theorem Za {w:World} {base e size n:Nat} {v:Value} {xs:List Value} (h:w.ownsRow base e size v n xs) {g:Nat} (hg:v.ownBlock=some g):g<w.heap.size∧base≤g:=by
 rcases h.2 with ⟨rfl,_⟩ | ⟨g',cap,cur,rfl,hb,hg',_⟩
 ·cases hg
 ·simp only[Value.ownBlock,Option.some.injEq] at hg;subst hg;exact ⟨(Array.getElem?_eq_some_iff.1 hg').1,hb⟩
theorem Kw {w:World} {base b' e size n:Nat} {v:Value} {xs:List Value} (h:w.ownsRow base e size v n xs) (hb:b'≤base):w.ownsRow b' e size v n xs:=by
 refine ⟨h.1,?_⟩
 rcases h.2 with h2 | ⟨g,cap,cur,hv,hbg,h3⟩
 ·exact .inl h2
 ·exact .inr ⟨g,cap,cur,hv,Nat.le_trans hb hbg,h3⟩
theorem Vj (w:World) (e size:Nat):(w.alloc (.cells #[] e)).ownsRow w.heap.size e size (.slice (some ⟨w.heap.size,0,none⟩) 0 0) 0 []:=
 ⟨by simp,.inr ⟨w.heap.size,0,#[],rfl,Nat.le_refl _,zzw w _,by simp,by unfold maxLen; omega,by simp,by simp⟩⟩
theorem addD (g j:Nat):(⟨g,0,none⟩:Addr).add j=⟨g,j,none⟩:=by unfold Addr.add; split <;> simp_all
theorem addD2 (g o j:Nat):(⟨g,o,none⟩:Addr).add j=⟨g,o+j,none⟩:=by unfold Addr.add; split <;> simp_all
structure ElT (t e:TypeId) (sz by':Nat):Prop where
 un:prog.underlying t=some (.slice e)
 el:prog.underlying t=some (.slice (prog.elem t))
 ee:prog.elem t=e
 info:∃ z,(prog.info? e).map (fun i=>(i.zero,i.size,i.bytes))=some (some z,sz,by')∧z.cells.size=sz
 pos:0<sz
 small:by'≤1000
section
variable {α:Type} (g:α→List Value)
def SInD (w:World) (A:Option Addr) (l:List α):Prop:=(A=none∧l=[])∨∃ ad,A=some ad∧∀ j u,(l.flatMap g)[j]?=some u→w.cell? (ad.add j)=some u
variable {g}
theorem SInD.up {w w':World} {A:Option Addr} {l:List α} (h:SInD g w A l) (hb:Below w.heap.size w w'):SInD g w' A l:=by
 rcases h with h | ⟨ad,h1,h2⟩
 ·exact .inl h
 ·exact .inr ⟨ad,h1,fun j u hu=>(hb.cell (World.block_lt_of_cell? w _ (h2 j u hu))).trans (h2 j u hu)⟩
theorem Vk {w:World} {b t:Nat} {x:α} {fr:Nat × Nat} (h:w.heap[b]?=some (.cells (g x).toArray t fr)):SInD g w (some ⟨b,0,none⟩) [x]:=
 .inr ⟨_,rfl,fun j u hu=>by
  have hu':(g x)[j]?=some u:=by simpa using hu
  rw[addD];unfold World.cell?;simp only[h]
  simpa using hu'⟩
theorem SInD.slice {w:World} {P:Nat→Prop} {ad:Option Addr} {cc:Nat} {l:List α} {R:α→List Value→Prop} (hR:∀ a c,R a c→c=g a) (h:SliceOf w P R l (.slice ad l.length cc)):l=[]∨SInD g w ad l:=by
 obtain ⟨ad',cc',xs,hv,_,hr,h4⟩:=h;simp only[Value.slice.injEq] at hv;obtain ⟨rfl,_,rfl⟩:=hv
 have hx:xs=l.flatMap g:=by
  clear h4;rename_i hle;clear hle
  induction l generalizing xs with
  | nil=>simpa[RowOf] using hr
  | cons a l ih=>
   obtain ⟨c,d,h1,h2,h3⟩:=hr;rw[h2,hR _ _ h1,ih d h3];simp
 rcases h4 with h4 | ⟨b,o,h5,_,h7⟩
 ·exact .inl h4
 ·refine .inr (.inr ⟨_,h5,fun j u hu=>?_⟩);rw[addD2];exact h7 j u (hx ▸ hu)
theorem Vs {sz:Nat} (hg:∀ a,(g a).length=sz):∀ l:List α,(l.flatMap g).length=l.length*sz
 | []=>by simp
 | a::l=>by
  rw[List.flatMap_cons,List.length_append,Vs hg l,hg,List.length_cons,Nat.add_mul,Nat.one_mul,Nat.add_comm]
theorem Jcz {w:World} {t e sz by':Nat} (E:ElT t e sz by') (hg:∀ a,(g a).length=sz) (h1:∀ a,∀ u∈g a,u.oneCell'=true) (base:Nat) (ty:TypeId) (v:Value) (n:Nat) (xs:List Value) (hown:w.ownsRow base e sz v n xs)
  (A:Option Addr) (C m:Nat) (l:List α) (hm:l.length=m) (hA:l=[]∨SInD g w A l) (h63:n+m≤1000000000) (hbase:base≤w.heap.size) :
  ∃ v' w',(Builtin.append_ #[t,t] ty #[v,.slice A m C]).run prog w=.ok v' w'∧w'.ownsRow base e sz v' (n+m) (xs++l.flatMap g)∧Below base w w'∧w.grownBy w' v.ownBlock:=by
 obtain ⟨z,hz,hzs⟩:=E.info;obtain ⟨i0,hi0,hz0,hz1,hz2⟩:=info_parts hz;subst hm
 have hbig:(n+l.length)*by'≤140737488355328:=by
  have:=Nat.mul_le_mul h63 E.small;omega
 by_cases hnil:A=none
 ·subst hnil
  have hl:l=[]:=by
   rcases hA with h | h | ⟨ad,h,_⟩
   ·exact h
   ·exact h.2
   ·cases h
  subst hl
  have hrun:(Builtin.append_ #[t,t] ty #[v,.slice none 0 C]).run prog w=.ok v w:=by
   rcases hown.2 with ⟨rfl,rfl⟩ | ⟨g,cap,cur,rfl,_,_,hnc,_⟩
   ·simp[Builtin.append_,run_underlying E.un,sizeOf,typeInfo,hi0,Builtin.lenOf,Builtin.firstCells]
   ·simp[Builtin.append_,run_underlying E.un,sizeOf,typeInfo,hi0,Builtin.lenOf,Builtin.firstCells,hnc,storeCells]
  exact ⟨v,w,hrun,by simpa using hown,Below.refl _ _,⟨rfl,rfl,rfl,Nat.le_refl _,fun _ _ _=>rfl⟩⟩
 ·obtain ⟨ad,rfl⟩:∃ ad,A=some ad:=by cases A with | none=>exact absurd rfl hnil | some a=>exact ⟨a,rfl⟩
  have hc:∀ j u,(l.flatMap g)[j]?=some u→w.cell? (ad.add j)=some u:=by
   rcases hA with rfl | ⟨h,_⟩ | ⟨ad',h,hc⟩
   ·intro j u hu; simp at hu
   ·cases h
   ·obtain rfl:=Option.some.inj h;exact hc
  obtain ⟨v',w',hr,h2,h3,h4⟩:=run_append_own (P:=prog) w base t ty e i0 z sz by' E.un hi0 hz0 hz1 hz2 hzs E.pos v n xs hown ad l.length C (l.flatMap g) (Vs hg l) hc (fun u hu=>by
   obtain ⟨a,_,ha⟩:=List.mem_flatMap.1 hu
   exact h1 a u ha) (by unfold maxLen; omega) hbig hbase
  exact ⟨v',w',hr,h2,(Below.refl base w).grown h3 hbase fun k hk=>(Za hown hk).2,h3⟩
theorem Jr {t e sz by':Nat} (E:ElT t e sz by') (hg:∀ a,(g a).length=sz) (h1:∀ a,∀ u∈g a,u.oneCell'=true) {w:World} {o:Oper} {a:Act} {K:Act→World→Prop} {Q:Exit→Act→World→Prop} (s x:Operand)
  (ho:o.op=.call { callee:=.builtin .append,args:=#[s,x],argTypes:=#[t,t] })
  (base:Nat) (v:Value) (n:Nat) (xs:List Value) (hs:a.eval s=v) (hown:w.ownsRow base e sz v n xs)
  (A:Option Addr) (C m:Nat) (l:List α) (hm:l.length=m) (hA:l=[]∨SInD g w A l) (hx:a.eval x=.slice A m C) (h63:n+m≤1000000000) (hbase:base≤w.heap.size)
  (h:∀ v' w',w'.ownsRow base e sz v' (n+m) (xs++l.flatMap g)→Below base w w'→w.grownBy w' v.ownBlock→K (a.put o.dst v') w'):o.wp prog a w K Q:=by
 obtain ⟨v',w',hr,h2,h3,h4⟩:=Jcz E hg h1 base o.type v n xs hown A C m l hm hA h63 hbase;unfold Oper.wp execOp;simp only[ho,resolve,invoke,builtin,Sem.run_bind,Sem.run_pure,Result.andThen_ok,List.map_toArray,List.map_cons,List.map_nil,hs,hx,hr];exact h v' w' h2 h3 h4
theorem VR {w:World} {base e sz n c:Nat} {A:Option Addr} {xs:List Value} (h:w.ownsRow base e sz (.slice A n c) n xs) :
  (A=none∧c=0∧n=0)∨∃ b,A=some ⟨b,0,none⟩∧n≤c∧base≤b∧∀ j u,xs[j]?=some u→w.cell? ⟨b,j,none⟩=some u:=by
 rcases h.2 with ⟨h1,h0⟩ | ⟨b,cap,cur,hv,hb,hg,hc,hm,hs,ht⟩
 ·simp only[Value.slice.injEq] at h1;exact .inl ⟨h1.1,h1.2.2,h0⟩
 ·simp only[Value.slice.injEq] at hv;obtain ⟨rfl,_,rfl⟩:=hv;refine .inr ⟨b,rfl,hc,hb,fun j u hu=>?_⟩;have:=h.cells (g:=b) rfl j u hu;rw[addD] at this;exact this
theorem Jds {t e sz by':Nat} (E:ElT t e sz by') (W:World):(sizeOf e).run prog W=.ok sz W:=by
 obtain ⟨z,hz,hzs⟩:=E.info;obtain ⟨i0,hi0,hz0,hz1,hz2⟩:=info_parts hz;unfold sizeOf typeInfo;simp[hi0,hz1]
theorem JbA {t e sz by':Nat} (E:ElT t e sz by') (hg:∀ a,(g a).length=sz) {w:World} {base:Nat} {va:Option Addr} {vc i p:Nat} {R:List α} (hp:p≤i) (hR:R.length=i) (h:w.ownsRow base e sz (.slice va i vc) i (R.flatMap g)) :
  ∃ A1 C1 A2 C2,(∀ W:World,(Instr.slice t (.slice va i vc) none (some (.int .i64 (p:Int))) none).run prog W=.ok (.slice A1 p C1) W)∧
   (∀ W:World,(Instr.slice t (.slice va i vc) (some (.int .i64 (p:Int))) none none).run prog W=.ok (.slice A2 (i-p) C2) W)∧SInD g w A1 (R.take p)∧SInD g w A2 (R.drop p):=by
 have e1:p≤vc→∀ W:World,(Instr.slice t (.slice va i vc) none (some (.int .i64 (p:Int))) none).run prog W=.ok (sliced va 0 p vc sz) W:=fun hv W=>by
  rw[run_slice_h W t va i vc E.el .i64 (p:Int) (by omega) (by omega),E.ee,Jds E];rfl
 have e2:∀ W:World,(Instr.slice t (.slice va i vc) (some (.int .i64 (p:Int))) none none).run prog W=.ok (sliced va p i vc sz) W:=fun W=>by
  rw[run_slice_l W t va i vc E.el .i64 (p:Int) (by omega) (by omega),E.ee,Jds E];rfl
 rcases VR h with ⟨rfl,rfl,rfl⟩ | ⟨b,rfl,hc,_,hcell⟩
 ·obtain rfl:p=0:=by omega
  have hn:R=[]:=List.eq_nil_of_length_eq_zero hR;subst hn;exact ⟨none,0,none,0,fun W=>e1 zzl W,fun W=>e2 W,.inl ⟨rfl,rfl⟩,.inl ⟨rfl,rfl⟩⟩
 ·have h1:R.flatMap g=(R.take p).flatMap g++(R.drop p).flatMap g:=by rw[← List.flatMap_append,List.take_append_drop]
  refine ⟨some ⟨b,0,none⟩,vc,if vc=p then some ⟨b,0,none⟩ else some ⟨b,p*sz,none⟩,vc-p,fun W=>?_,fun W=>?_,.inr ⟨_,rfl,fun j u hu=>?_⟩,?_⟩
  ·rw[e1 (by omega) W];unfold sliced
   by_cases h0:vc=0
   ·rw[if_pos h0]; simp
   ·rw[if_neg h0]; simp[addD]
  ·rw[e2 W];unfold sliced
   by_cases h0:vc=p
   ·rw[if_pos h0,if_pos h0]
   ·rw[if_neg h0,if_neg h0]; simp[addD]
  ·rw[addD];refine hcell j u ?_;rw[h1];have:=(List.getElem?_eq_some_iff.1 hu).1;rw[List.getElem?_append_left this];exact hu
  ·by_cases h0:vc=p
   ·rw[if_pos h0];have:R.drop p=[]:=List.drop_of_length_le (by omega);rw[this];exact .inr ⟨_,rfl,fun j u hu=>by simp at hu⟩
   ·rw[if_neg h0];refine .inr ⟨_,rfl,fun j u hu=>?_⟩;rw[addD2];refine hcell _ u ?_;have h2:((R.take p).flatMap g).length=p*sz:=by rw[Vs hg,List.length_take,Nat.min_eq_left (by omega)]
    rw[h1,List.getElem?_append_right (by omega),h2,Nat.add_sub_cancel_left];exact hu
end
def gL (c:List UInt8 × Int):List Value:=[.string (bs c.1),.int .i64 c.2]
def gW (s:List UInt8):List Value:=[.string (bs s)]
theorem KF (a):(gL a).length=2:=rfl
theorem KG (a):(gW a).length=1:=rfl
theorem Va (a):∀ u∈gL a,u.oneCell'=true:=by intro u hu; simp[gL] at hu; rcases hu with rfl | rfl <;> rfl
theorem Vb (a):∀ u∈gW a,u.oneCell'=true:=by intro u hu; simp[gW] at hu; rcases hu with rfl; rfl
def RLab (a:List UInt8 × Int) (c:List Value):Prop:=c=[.string (bs a.1),.int .i64 a.2]
def RWrd (a:List UInt8) (c:List Value):Prop:=c=[.string (bs a)]
theorem elL:ElT 22 91 2 24:=⟨by kernel_rfl,by kernel_rfl,by kernel_rfl,⟨.agg #[.string ⟨#[]⟩,.int .i64 0],by kernel_rfl,rfl⟩,by decide,by decide⟩
theorem elW:ElT 23 9 1 16:=⟨by kernel_rfl,by kernel_rfl,by kernel_rfl,⟨.string ⟨#[]⟩,by kernel_rfl,rfl⟩,by decide,by decide⟩
section
variable {α:Type} (p:α→Bool)
def keptM (F G:List α) (i:Nat):List α:=(F.take i).filter p++(G.take (i-F.length)).filter (fun c=>!p c)
theorem ZM (F G:List α):keptM p F G 0=[]:=by simp[keptM]
theorem JbB (F G:List α) {i:Nat} (h:F.length+G.length≤i):keptM p F G i=F.filter p++G.filter (fun c=>!p c):=by
 unfold keptM;rw[List.take_of_length_le (by omega),List.take_of_length_le (by omega)]
theorem ZN {F G:List α} {i:Nat} {x:α} (h:(F++G)[i]?=some x):keptM p F G (i+1)=keptM p F G i++if p x=decide (i<F.length) then [x] else []:=by
 unfold keptM
 by_cases hi:i<F.length
 ·rw[List.getElem?_append_left hi] at h;rw[decide_eq_true hi,show i+1-F.length=0 by omega,show i-F.length=0 by omega,List.take_add_one,h];simp
  by_cases hp:p x=true
  ·simp[hp]
  ·simp[hp]
 ·rw[List.getElem?_append_right (by omega)] at h;rw[decide_eq_false hi,show i+1-F.length=i-F.length+1 by omega,List.take_add_one (l:=G),h,List.take_of_length_le (l:=F) (by omega),List.take_of_length_le (l:=F) (by omega)];simp
  by_cases hp:p x=true
  ·simp[hp]
  ·simp[hp]
end
theorem V8 {α:Type} (key:α→List UInt8) (x:α):∀ (l out:List α),sortM key out (l++[x])=insM key x (sortM key out l)
 | [],out=>rfl
 | y::l,out=>V8 key x l (insM key y out)
theorem JhX {α:Type} (key:α→List UInt8) (x:α) (l:List α):(insM key x l).length=l.length+1:=by
 unfold insM;rw[List.length_append,List.length_cons,List.length_take,List.length_drop];have:=(Y8 key x l l.length zzl).1;omega
theorem JbC {α:Type} (key:α→List UInt8):∀ (l out:List α),(sortM key out l).length=out.length+l.length
 | [],out=>rfl
 | x::l,out=>by rw[sortM,JbC key l,JhX,List.length_cons]; omega
theorem VS {α:Type} {key:α→List UInt8} {x y:α} {l:List α} {n:Nat} (h:l[n]?=some y):posM key x l (n+1)=if ltB (key x) (key y)=true then posM key x l n else n+1:=by
 conv=>lhs; unfold posM
 rw[h]
theorem boxes3 (w:World) (o0 o1 o2:Obj):Bel w (((w.alloc o0).alloc o1).alloc o2)∧(((w.alloc o0).alloc o1).alloc o2).heap[w.heap.size]?=some o0∧(((w.alloc o0).alloc o1).alloc o2).heap[w.heap.size+1]?=some o1∧(((w.alloc o0).alloc o1).alloc o2).heap[w.heap.size+1+1]?=some o2:=by
 have h0:=zzw w o0;have h1:=zzw (w.alloc o0) o1;have h2:=zzw ((w.alloc o0).alloc o1) o2;simp only[World.size_alloc] at h1 h2;exact ⟨((zzb.alloc zzl _).alloc (by simp) _).alloc (by simp; omega) _,Jf (Jf h0),Jf h1,h2⟩
theorem Zb {α:Type} {g:α→List Value} {sz:Nat} (hg:∀ a,(g a).length=sz):∀ {l:List α} {i:Nat} {x:α} {j:Nat} {u:Value},l[i]?=some x→(g x)[j]?=some u→(l.flatMap g)[i*sz+j]?=some u
 | [],i,x,j,u,h,_=>by simp at h
 | a::l,0,x,j,u,h,hu=>by
  obtain rfl:a=x:=by simpa using h
  rw[List.flatMap_cons,Nat.zero_mul,Nat.zero_add,List.getElem?_append_left (List.getElem?_eq_some_iff.1 hu).1];exact hu
 | a::l,i+1,x,j,u,h,hu=>by
  rw[List.flatMap_cons,List.getElem?_append_right (by rw[hg,Nat.add_mul]; omega),hg,show (i+1)*sz+j-sz=i*sz+j by rw[Nat.add_mul,Nat.one_mul]; omega];exact Zb hg (by simpa using h) hu
def SBD {α:Type} (g:α→List Value) (e sz:Nat) (w6:World) (R:List α) (v:Value) (wr:World):Prop:=wr.ownsRow w6.heap.size e sz v R.length (R.flatMap g)∧Below w6.heap.size w6 wr
def RowP {α:Type} (R:α→List Value→Prop) (w:World) (l:List α) (e:Ending) (w':World):Prop:=∃ A C,e=.returned (.slice A l.length C)∧SliceOf w' (Since w w') R l (.slice A l.length C)∧Bel w w'
theorem Jgr {w w0:World} {base n:Nat} {v:Value} {l:List (List UInt8 × Int)} (hl:l.length=n) (h:w.ownsRow base 91 2 v n (l.flatMap gL)) (hb:w0.heap.size≤base):SliceOf w (Since w0 w) RLab l v:=by
 subst hl;exact SliceOf.own h (Ys RLab gL (fun a=>rfl) l) fun b hg=>⟨Nat.le_trans hb (Za h hg).2,(Za h hg).1⟩
theorem Jeo {w w0:World} {base n:Nat} {v:Value} {l:List (List UInt8)} (hl:l.length=n) (h:w.ownsRow base 9 1 v n (l.flatMap gW)) (hb:w0.heap.size≤base):SliceOf w (Since w0 w) RWrd l v:=by
 subst hl;exact SliceOf.own h (Ys RWrd gW (fun a=>rfl) l) fun b hg=>⟨Nat.le_trans hb (Za h hg).2,(Za h hg).1⟩
def kpL (r:RuleM) (F G:FactsM) (i:Nat):=sortM (·.1) [] (keptM (fun c=>mentM r 4 ((·.1) c)) F.labels G.labels i)
theorem JhY (r:RuleM) {F G:FactsM} {i:Nat} {x} (h:(F.labels++G.labels)[i]?=some x):kpL r F G (i+1)=if mentM r 4 ((·.1) x)=decide (i<F.labels.length) then insM (·.1) x (kpL r F G i) else kpL r F G i:=by
 unfold kpL;rw[ZN _ h];split
 ·rw[V8]
 ·rw[List.append_nil]
theorem wx71 {P:Prop}(h:P:=by
  rw[JbC,List.length_append,List.length_nil,Nat.zero_add];refine Nat.add_le_add (Nat.le_trans (List.length_filter_le _ _) ?_) (Nat.le_trans (List.length_filter_le _ _) ?_)
  ·rw[List.length_take]; omega
  ·rw[List.length_take]; omega):P:=h
theorem Jij (r:RuleM) (F G:FactsM) (i:Nat):(kpL r F G i).length≤F.labels.length+G.labels.length:=by
 unfold kpL keptM;exact wx71
theorem Jgs (r:RuleM) (F G:FactsM):kpL r F G (F.labels.length+G.labels.length)=labelsM r F G:=by
 unfold kpL;rw[JbB _ _ _ zzl];rfl
theorem wx134 {P:Prop}(h:P:=by
  have h:=HA.out;rw[e1,e2] at h
  exact ⟨Kw h HB6.out.size,HB6.out.trans (HB.out.mono HB6.out.size)⟩):P:=h
theorem wx24 {P:Prop}(h:P:=by
  try simp only[Act.put,ZA,ZB,ZC]
  refine wpAnyH_done (by kernel_rfl) ?_ _
  have HN3:Hid (SBD gL 91 2 w6 (kpL r F G (i+1)) v7 w7):=by
   rw[HST.out,HPUT.out];have e1:T1.flatMap gL++[(xs,xn)].flatMap gL++T2.flatMap gL=(T1++(xs,xn)::T2).flatMap gL:=by simp
   have e2:p+1+m2=(T1++(xs,xn)::T2).length:=by rw[List.length_append,List.length_cons,HL1.out,HL2.out]; omega
   exact wx134
  clear HA HB HPUT HST hH;go_wp2;go_roundw
  case rel=>exact ⟨i+1,by go_num,hin,HN3⟩
  case measure=>simp[intOf]; omega):P:=h
theorem wx49 {P:Prop}(h:P:=by
  have u1:=Jk xs;have u2:=Jk ys
  have HGT:Hid ((!Op.bytesLess ys xs&&!(ys==xs))=q):=by
   have h:=Jjb ys xs;unfold Hid;rw[hqq];have e:(!Op.bytesLess ys xs&&!(ys==xs))=!(ltB ys xs||ys==xs):=by rw[Bool.not_or]; rfl
   rw[e,h,Bool.not_not]
  clear hcy hcello hy hqq HQ FX HST HZD h0;go_region;go_wp2;go_meet
  exact ⟨congrArg Value.bool HGT.out,zzb.drew⟩):P:=h
theorem wx114 {P:Prop}(h:P:=by
  clear HST0 hH HB FF CM FX HZO HBO hbF hbFN hqe;go_wp2;go_roundw
  case rel=>exact ⟨i+1,by go_num,hin,HN3⟩
  case measure=>simp[intOf]; omega):P:=h
theorem wx117 {P:Prop}(h:P:=by
  obtain ⟨⟨q0,q1,q2⟩,_⟩:=hrv W (hwo W hW)
  exact ⟨q0,q1,q2,HFC.out W (hwo W hW),FX.out W (HBO.out.trans (hW.mono HBO.out.size))⟩):P:=h
theorem wx121 {P:Prop}(h:P:=by
  generalize hm1:p-1=p1 at *;clear hb6;go_wp2;go_roundw
  case rel=>exact ⟨p1,rfl,by omega,HN2⟩
  case measure=>simp[intOf]; omega):P:=h
theorem wx124 {P:Prop}(h:P:=by
  rw[HST0.out,if_pos rfl];unfold SBD;rw[HRN.out]
  exact ⟨JZ HZO.out HB.out,HBO.out.trans (HB.out.mono HBO.out.size)⟩):P:=h
theorem wx131 {P:Prop}(h:P:=by
  rw[show p-1+1=p by omega] at h
  (try dsimp only at h)
  rw[if_neg (by rw[← HQ.out.2 c hc h0]; decide)] at h
  exact h):P:=h
theorem wx132 {P:Prop}(h:P:=by
  rw[show p-1+1=p by omega,HPS.out] at h
  (try dsimp only at h)
  rw[if_pos (HQ.out.2 c hc h0).symm] at h
  exact h.symm):P:=h
theorem wx141 {P:Prop}(h:P:=by
  rw[hR] at h
  (try dsimp only at h)
  rw[hm,hbFN,← hq] at *;unfold Hid;rw[h]
  cases m <;> cases bF <;> rfl):P:=h
theorem Jep (r:RuleM) (c:Array Value) (F G:FactsM) (la wa la2 wa2:Option Addr) (lc wcp lc2 wcp2:Nat) (w:World) (hx:RuleX w (In w) r c) (hz:RSz r) (hF:F.labels.length≤100) (hG:G.labels.length≤100) (hlab:LabsAt w (.slice la F.labels.length lc) F.labels) (hwd:WordsAt w (.slice wa F.words.length wcp) F.words) (hlab2:LabsAt w (.slice la2 G.labels.length lc2) G.labels) (hwd2:WordsAt w (.slice wa2 G.words.length wcp2) G.words) :
  Calls prog 17 #[.agg c,.agg (factsC F (.slice la F.labels.length lc) (.slice wa F.words.length wcp)),.agg (factsC G (.slice la2 G.labels.length lc2) (.slice wa2 G.words.length wcp2))] w (RowP RLab w (labelsM r F G)):=by
 obtain ⟨hb1,hz0,hz1,hz2⟩:=boxes3 w (.cells c 30) (.cells (factsC F (.slice la F.labels.length lc) (.slice wa F.words.length wcp)) 25) (.cells (factsC G (.slice la2 G.labels.length lc2) (.slice wa2 G.words.length wcp2)) 25);have HR1:=Zh (RuleV.of hz0 (hx.up hb1));have HF1:=Zh (FactsV.of hz1 (hlab.up hb1) (hwd.up hb1));have HG1:=Zh (FactsV.of hz2 (hlab2.up hb1) (hwd2.up hb1));have HB1:=Zh (show Bel w _ from hb1);have HZ:=Zh hz;obtain ⟨fa,fc,ga,gc,rfl⟩:=hx.form;obtain ⟨RP,hRP⟩:∃ P:Ending→World→Prop,(RowP RLab w (labelsM r F G))=P:=⟨_,rfl⟩
 rw[hRP];have HRP:=Zh hRP;obtain ⟨nn,hnn⟩:∃ n,F.labels.length+G.labels.length=n:=⟨_,rfl⟩
 have HN:=Zh (And.intro hF (And.intro hG hnn));clear hb1 hz0 hz1 hz2 hx hz hlab hwd hlab2 hwd2 hRP hnn hF hG;unfold factsC at HR1 HF1 HG1 HB1 ⊢;go_enter func17,ntmps17;go_upto_region 2 with fail;generalize World.alloc (World.alloc (World.alloc w _) _) _=w1 at *;generalize w.heap.size+1+1=gb at *;generalize w.heap.size+1=fb at *;generalize w.heap.size=rb at *;have HSF:Hid (∀ W,Below w1.heap.size w1 W→F.labels=[]∨SInD gL W la F.labels):=fun W hW=>SInD.slice (fun _ _ h=>h) (HF1.out W hW).2.1
 have HSG:Hid (∀ W,Below w1.heap.size w1 W→G.labels=[]∨SInD gL W la2 G.labels):=fun W hW=>SInD.slice (fun _ _ h=>h) (HG1.out W hW).2.1
 have HFC:Hid (∀ W,Below w1.heap.size w1 W→W.cell? ⟨fb,0,none⟩=some (.slice la F.labels.length lc)):=fun W hW=>by
  obtain ⟨⟨q0,q1,q2,q3,q4,q5,q6,q7,q8,q9,q10,q11⟩,_⟩:=HF1.out W hW;exact q0
 have FF:Hid (∀ W,Below w1.heap.size w1 W→W.cell? ⟨fb,0,none⟩=some (.slice la F.labels.length lc)∧W.cell? ⟨gb,0,none⟩=some (.slice la2 G.labels.length lc2)):=fun W hW=>by
  obtain ⟨⟨q0,q1,q2,q3,q4,q5,q6,q7,q8,q9,q10,q11⟩,_⟩:=HG1.out W hW;exact ⟨HFC.out W hW,q0⟩
 have HB:=Zh (Below.refl w1.heap.size w1).drew;clear HF1 HG1;refine wp_region_held_drew (S:=(fun W=>Below w1.heap.size w1 W∧W.cell? ⟨fb,0,none⟩=some (.slice la F.labels.length lc)∧W.cell? ⟨gb,0,none⟩=some (.slice la2 G.labels.length lc2))) (by kernel_rfl) (⟨HB.out,FF.out _ HB.out⟩) (fun hH=>?_);refine ZT (i:=1) (v:=?vT1_1) rfl (Or.inl ⟨by rfl,?yT1_1⟩) ?_
 case yT1_1=>exact ZyQ
 try simp only[Act.put,ZA,ZB,ZC]
 refine ZT (i:=2) (v:=?vT1_2) rfl (Or.inl ⟨by rfl,?yT1_2⟩) ?_
 case yT1_2=>exact ZyQ
 try simp only[Act.put,ZA,ZB,ZC]
 refine ZT (i:=4) (v:=?vT1_4) rfl (Or.inl ⟨by rfl,?yT1_4⟩) ?_
 case yT1_4=>exact ZyQ
 try simp only[Act.put,ZA,ZB,ZC]
 refine ZT (i:=5) (v:=?vT1_5) rfl (Or.inl ⟨by rfl,?yT1_5⟩) ?_
 case yT1_5=>exact ZyQ
 try simp only[Act.put,ZA,ZB,ZC]
 refine ZS 0 rfl (fun K hK=>?_);go_simp;have HA:=Zh (Kw (Vj w1.drew 91 2) HB.out.size);replace HB:=Zh (HB.out.alloc HB.out.size (.cells #[] 91));refine hK.out _ _ (⟨HB.out,FF.out _ HB.out⟩) (fun hH=>?_);clear hK K
 try simp only[Act.put,ZA,ZB,ZC]
 refine ZS 3 rfl (fun K hK=>?_);rw[if_pos (by rfl)];refine Jr elL KF Va _ _ rfl w1.heap.size (.slice (some ⟨w1.heap.size,0,none⟩) 0 0) 0 [] rfl HA.out la lc F.labels.length F.labels rfl (HSF.out _ HB.out) rfl (by have:=HN.out.1; omega) HB.out.size ?_;intro v4 w4 hown hbw hgw
 (try simp only[Nat.zero_add,List.nil_append] at hown)
 replace HB:=Zh (HB.out.trans hbw);replace HA:=Zh hown;clear hown hbw hgw;obtain ⟨a4,c4,hv4⟩:=JB HA.out;subst hv4;refine hK.out _ _ (⟨HB.out,FF.out _ HB.out⟩) (fun hH=>?_);clear hK K
 try simp only[Act.put,ZA,ZB,ZC]
 refine ZS 6 rfl (fun K hK=>?_);rw[if_pos (by rfl)];refine Jr elL KF Va _ _ rfl w1.heap.size _ F.labels.length _ rfl HA.out la2 lc2 G.labels.length G.labels rfl (HSG.out _ HB.out) rfl (by have:=HN.out.1; have:=HN.out.2.1; omega) HB.out.size ?_;intro v6 w6 hown hbw hgw
 (try simp only[Nat.zero_add,List.nil_append] at hown)
 replace HB:=Zh (HB.out.trans hbw);have HAL:Hid (w6.ownsRow w1.heap.size 91 2 v6 nn ((F.labels++G.labels).flatMap gL)):=by rw[Hid,List.flatMap_append,← HN.out.2.2]; exact hown
 clear hown hbw hgw HA;obtain ⟨a6,c6,hv6⟩:=JB HAL.out;subst hv6;refine hK.out _ _ (⟨HB.out,FF.out _ HB.out⟩) (fun hH=>?_);clear hK K
 try simp only[Act.put,ZA,ZB,ZC]
 refine ZT (i:=7) (v:=?vT4_7) rfl (Or.inl ⟨by rfl,?yT4_7⟩) ?_
 case yT4_7=>exact ZyQ
 try simp only[Act.put,ZA,ZB,ZC]
 refine wpAnyH_done (by kernel_rfl) ?_ _;have HB6:=HB;clear HB FF HSF HSG hH;have HBW6:Hid (Bel w w6):=Je HB1.out HB6.out;go_wp2_with fail;go_loopw [7,9] (fun v7 v9 wr=>∃ i:Nat,v9=.int .i64 i∧i≤nn∧Hid (SBD gL 91 2 w6 (kpL r F G i) v7 wr)) (fun _ v _=>nn-(intOf v).toNat)
 case atStart=>exact ⟨0,rfl,Nat.zero_le _,(by unfold kpL; rw[ZM]; exact ⟨⟨by simp[sortM],.inl ⟨rfl,rfl⟩⟩,Below.refl _ _⟩:SBD gL 91 2 w6 (kpL r F G 0) (.slice none 0 0) w6)⟩
 case round=>
 obtain ⟨i,rfl,hi,hz⟩:=hrel;obtain ⟨wo,rfl⟩:∃ wo:World,wo=wr:=⟨_,rfl⟩
 obtain ⟨R,hR⟩:∃ R,kpL r F G i=R:=⟨_,rfl⟩
 have hRl:R.length≤200:=by
  have:=Jij r F G i;rw[hR] at this;have:=HN.out.1;have:=HN.out.2.1;omega
 have hzz:=hz.out;rw[hR] at hzz;unfold SBD at hzz;obtain ⟨rn,hrn⟩:∃ n,R.length=n:=⟨_,rfl⟩
 rw[hrn] at hzz hRl;obtain ⟨va,vc,hva⟩:=JB hzz.1;rw[hva] at hzz;subst hva;have HBO:=Zh hzz.2;have HZO:=Zh hzz.1;have HRN:=Zh hrn;have HI:=Zh hRl;clear hz hzz hrn hRl
 by_cases hin:i<nn
 ·have di:decide ((i:Int)<(nn:Int))=true:=decide_eq_true (by omega);have diN:decide (i<nn)=true:=decide_eq_true hin;have bi:(i:Int)<(nn:Int):=by omega
  have wi:IntKind.i64.wrap ((i:Int)+1)=(i:Int)+1:=IntWalk.i64_in _ (by have:=HN.out; omega);obtain ⟨⟨xs,xn⟩,hxi⟩:∃ c,(F.labels++G.labels)[i]?=some c:=⟨_,List.getElem?_eq_getElem (by rw[List.length_append,HN.out.2.2]; exact hin)⟩
  rcases VR HAL.out with ⟨_,_,h0⟩ | ⟨ab,rfl,hcap,hbb,hcell⟩
  ·omega
  have FX:Hid (∀ W,Below w6.heap.size w6 W→W.cell? ⟨ab,i*2,none⟩=some (.string (bs xs))∧W.cell? ⟨ab,i*2+1,none⟩=some (.int .i64 xn)):=by
   intro W hW
   have hc:∀ j u,(gL (xs,xn))[j]?=some u→W.cell? ⟨ab,i*2+j,none⟩=some u:=fun j u hu=>by
    have h:=hcell _ u (Zb (g:=gL) (sz:=2) KF hxi hu);exact (hW.cell (World.block_lt_of_cell? w6 _ h)).trans h
   exact ⟨hc 0 _ rfl,hc 1 _ rfl⟩
  obtain ⟨m,hm⟩:∃ m,mentM r 4 xs=m:=⟨_,rfl⟩
  obtain ⟨bF,hbF⟩:∃ b,decide ((i:Int)<(F.labels.length:Int))=b:=⟨_,rfl⟩
  have hbFN:decide (i<F.labels.length)=bF:=by rw[← hbF]; exact decide_eq_decide.2 (by omega)
  obtain ⟨q,hq⟩:∃ q,(m !=bF)=q:=⟨_,rfl⟩
  have hqe:(!(m==bF))=q:=hq
  have HST0:Hid (kpL r F G (i+1)=if q=true then R else insM (·.1) (xs,xn) R):=by
   have h:=JhY r hxi;exact wx141
  obtain ⟨ra,rc,ka,kc,hrv⟩:=HR1.out;have hwo:∀ W,Below wo.heap.size wo W→Below w1.heap.size w1 W:=fun W hW=>Je (Je HB6.out HBO.out) hW
  have CM:Hid (∀ W,Below wo.heap.size wo W→Calls prog 20 #[.agg #[.slice ra r.funcs.length rc,.slice ka r.clauses.length kc,.int .i64 r.action],.int .i64 4,.string (bs xs)] W (BelP W (.bool m))):=fun W hW=>by
   have h:=Km r _ 4 xs W (RuleX.keep (fun _ _=>rfl) (fun q hq=>Nat.lt_of_lt_of_le hq (hwo W hW).size) (hrv W (hwo W hW)).2) HZ.out;rw[hm] at h;exact h
  have FF:Hid (∀ W,Below wo.heap.size wo W→(W.cell? ⟨rb,0,none⟩=some (.slice ra r.funcs.length rc)∧W.cell? ⟨rb,1,none⟩=some (.slice ka r.clauses.length kc)∧W.cell? ⟨rb,2,none⟩=some (.int .i64 r.action)∧W.cell? ⟨fb,0,none⟩=some (.slice la F.labels.length lc)∧W.cell? ⟨ab,i*2,none⟩=some (.string (bs xs))∧W.cell? ⟨ab,i*2+1,none⟩=some (.int .i64 xn))):=fun W hW=>by
   exact wx117
  have HIN:=Zh hin;clear hxi hcap hbb hcell hm hq hR hrv hwo;go_upto_region 6 with fail;have HB:=Zh (Below.refl wo.heap.size wo).drew;refine wp_region_held_drew (S:=(fun W=>Below wo.heap.size wo W∧(W.cell? ⟨rb,0,none⟩=some (.slice ra r.funcs.length rc)∧W.cell? ⟨rb,1,none⟩=some (.slice ka r.clauses.length kc)∧W.cell? ⟨rb,2,none⟩=some (.int .i64 r.action)∧W.cell? ⟨fb,0,none⟩=some (.slice la F.labels.length lc)∧W.cell? ⟨ab,i*2,none⟩=some (.string (bs xs))∧W.cell? ⟨ab,i*2+1,none⟩=some (.int .i64 xn)))) (by kernel_rfl) (⟨HB.out,FF.out _ HB.out⟩) (fun hH=>?_);refine ZT (i:=0) (v:=?vT5_0) rfl (Or.inl ⟨by rfl,?yT5_0⟩) ?_
  case yT5_0=>exact ZyQ
  try simp only[Act.put,ZA,ZB,ZC]
  refine ZT (i:=1) (v:=?vT5_1) rfl (Or.inl ⟨by rfl,?yT5_1⟩) ?_
  case yT5_1=>exact ZyQ
  try simp only[Act.put,ZA,ZB,ZC]
  refine ZT (i:=2) (v:=?vT5_2) rfl (Or.inl ⟨by rfl,?yT5_2⟩) ?_
  case yT5_2=>exact ZyQ
  try simp only[Act.put,ZA,ZB,ZC]
  refine ZT (i:=3) (v:=?vT5_3) rfl (Or.inl ⟨by rfl,?yT5_3⟩) ?_
  case yT5_3=>exact ZyQ
  try simp only[Act.put,ZA,ZB,ZC]
  refine ZT (i:=4) (v:=?vT5_4) rfl (Or.inl ⟨by rfl,?yT5_4⟩) ?_
  case yT5_4=>exact ZyQ
  try simp only[Act.put,ZA,ZB,ZC]
  refine ZT (i:=5) (v:=?vT5_5) rfl (Or.inl ⟨by rfl,?yT5_5⟩) ?_
  case yT5_5=>exact ZyQ
  try simp only[Act.put,ZA,ZB,ZC]
  refine ZT (i:=7) (v:=?vT5_7) rfl (Or.inl ⟨by rfl,?yT5_7⟩) ?_
  case yT5_7=>exact ZyQ
  try simp only[Act.put,ZA,ZB,ZC]
  refine ZT (i:=8) (v:=?vT5_8) rfl (Or.inl ⟨by rfl,?yT5_8⟩) ?_
  case yT5_8=>exact ZyQ
  try simp only[Act.put,ZA,ZB,ZC]
  refine ZT (i:=9) (v:=?vT5_9) rfl (Or.inl ⟨by rfl,?yT5_9⟩) ?_
  case yT5_9=>exact ZyQ
  try simp only[Act.put,ZA,ZB,ZC]
  refine ZT (i:=10) (v:=?vT5_10) rfl (Or.inl ⟨by rfl,?yT5_10⟩) ?_
  case yT5_10=>exact ZyQ
  try simp only[Act.put,ZA,ZB,ZC]
  refine ZT (i:=11) (v:=?vT5_11) rfl (Or.inl ⟨by rfl,?yT5_11⟩) ?_
  case yT5_11=>exact ZyQ
  try simp only[Act.put,ZA,ZB,ZC]
  refine ZS 6 rfl (fun K hK=>?_)
  (go_simp; go_at_call 20; refine (CM.out _ HB.out).mono ?_; rintro e wd ⟨rfl,hbc⟩)
  replace HB:=Zh (HB.out.trans (hbc.mono HB.out.size));clear hbc;refine hK.out _ _ (⟨HB.out,FF.out _ HB.out⟩) (fun hH=>?_);clear hK K
  try simp only[Act.put,ZA,ZB,ZC]
  refine ZT (i:=12) (v:=?vT6_12) rfl (Or.inl ⟨by rfl,?yT6_12⟩) ?_
  case yT6_12=>exact ZyQ
  try simp only[Act.put,ZA,ZB,ZC]
  refine wpAnyH_done (by kernel_rfl) ?_ _
  cases q with
  | true=>
   have HN3:Hid (SBD gL 91 2 w6 (kpL r F G (i+1)) (.slice va rn vc) wd):=by
    exact wx124
   exact wx114
  | false=>
  have HST:Hid (kpL r F G (i+1)=insM (·.1) (xs,xn) R):=HST0.out;have HBD:Hid (Below w6.heap.size w6 wd):=HBO.out.trans (HB.out.mono HBO.out.size);have HZD:=Zh (JZ HZO.out HB.out);clear HST0 hH HB FF CM HZO HBO hbF hbFN hqe;go_wp2_with fail;go_loopw [10] (fun v10 wq=>∃ p:Nat,v10=.int .i64 p∧p≤rn∧Hid (posM (·.1) (xs,xn) R p=posM (·.1) (xs,xn) R rn∧Below wd.heap.size wd wq)) (fun v _=>(intOf v).toNat)
  case atStart=>exact ⟨rn,rfl,Nat.le_refl _,rfl,Below.refl _ _⟩
  case round=>
  obtain ⟨p,rfl,hp,hz⟩:=hrel;obtain ⟨wq,rfl⟩:∃ wq:World,wq=wr:=⟨_,rfl⟩
  have HPS:=Zh hz.out.1;have HBQ:=Zh hz.out.2;have HB6Q:Hid (Below w6.heap.size w6 wq):=HBD.out.trans (HBQ.out.mono HBD.out.size);clear hz
  obtain ⟨q,hq⟩:∃ q:Bool,(p=0→q=false)∧(∀ c,R[p-1]?=some c→p≠0→q=ltB xs ((·.1) c)):=by
   by_cases h0:p=0
   ·exact ⟨false,fun _=>rfl,fun _ _ h=>absurd h0 h⟩
   ·obtain ⟨c,hc⟩:∃ c,R[p-1]?=some c:=⟨_,List.getElem?_eq_getElem (by have:=HRN.out; omega)⟩
    exact ⟨ltB xs ((·.1) c),fun h=>absurd h h0,fun c' hc' _=>by rw[hc] at hc'; rw[Option.some.inj hc']⟩
  have HQ:=Zh hq;clear hq;go_upto_region 8 with fail;go_cut [54] (fun v wx=>v=.bool q∧Below wq.heap.size wq wx)
  case first=>
   by_cases h0:p=0
   ·have hq0:=HQ.out.1 h0;subst h0;subst hq0;go_region;go_wp2;go_meet;exact ⟨rfl,zzb.drew⟩
   ·have dp:decide (0<(p:Int))=true:=decide_eq_true (by omega);have dpN:decide (0<p)=true:=decide_eq_true (by omega);have wm:IntKind.i64.wrap ((p:Int)-1)=(p:Int)-1:=IntWalk.i64_in _ (by have:=HI.out; omega);have wm2:((p:Int)-1).toNat=p-1:=by omega
    have wm3:(0:Int)≤(p:Int)-1:=by omega
    have wm4:(1:Int)≤(p:Int):=by omega
    have wm4N:1≤p:=by omega
    have wm5:(p:Int)-1<(rn:Int):=by omega
    obtain ⟨⟨ys,yn⟩,hy⟩:∃ c,R[p-1]?=some c:=⟨_,List.getElem?_eq_getElem (by have:=HRN.out; omega)⟩
    have hqq:=HQ.out.2 _ hy h0
    (try dsimp only at hqq)
    rcases VR (JZ HZD.out HBQ.out) with ⟨_,_,h9⟩ | ⟨bo,rfl,hcapo,_,hcello⟩
    ·omega
    have hcy:∀ j u,(gL (ys,yn))[j]?=some u→wq.cell? ⟨bo,(p-1)*2+j,none⟩=some u:=fun j u hu=>hcello _ u (Zb (g:=gL) (sz:=2) KF hy hu)
    have y0:wq.cell? ⟨bo,(p-1)*2,none⟩=some (.string (bs ys)):=by have h:=hcy 0 _ rfl; simpa using h
    have x0:=(FX.out wq HB6Q.out).1;exact wx49
  case rest=>
  obtain ⟨rfl,hb6⟩:=hcut
  cases q with
  | true=>
   have h0:p≠0:=by intro e; have:=HQ.out.1 e; cases this
   have wa1:IntKind.i64.wrap ((p:Int)-1)=((p-1:Nat):Int):=by rw[IntWalk.i64_in _ (by have:=HI.out; omega)]; omega
   have HN2:Hid (posM (·.1) (xs,xn) R (p-1)=posM (·.1) (xs,xn) R rn∧Below wd.heap.size wd wc):=by
    refine ⟨?_,HBQ.out.trans (hb6.mono HBQ.out.size)⟩;obtain ⟨c,hc⟩:∃ c,R[p-1]?=some c:=⟨_,List.getElem?_eq_getElem (by have:=HRN.out; omega)⟩
    have h:=VS (key:=(·.1)) (x:=(xs,xn)) hc;exact wx132
   exact wx121
  | false=>
  have HPUT:Hid (insM (·.1) (xs,xn) R=R.take p++(xs,xn)::R.drop p):=by
   have h1:posM (·.1) (xs,xn) R rn=p:=by
    rw[← HPS.out]
    by_cases h0:p=0
    ·rw[h0]; rfl
    ·obtain ⟨c,hc⟩:∃ c,R[p-1]?=some c:=⟨_,List.getElem?_eq_getElem (by have:=HRN.out; omega)⟩
     have h:=VS (key:=(·.1)) (x:=(xs,xn)) hc;exact wx131
   unfold Hid insM;rw[HRN.out,h1]
  have HBC:Hid (Below wd.heap.size wd wc):=HBQ.out.trans (hb6.mono HBQ.out.size);have HB6C:Hid (Below w6.heap.size w6 wc):=HBD.out.trans (HBC.out.mono HBD.out.size);clear hb6 HBQ HB6Q HQ HPS HB6;have HB6:=HB6C;clear HB6C;generalize wc=wq at *;obtain ⟨A1,C1,A2,C2,hs1,hs2,hi1,hi2⟩:=JbA elL KF hp HRN.out (JZ HZD.out HBC.out);obtain ⟨m2,hm2⟩:∃ m,rn-p=m:=⟨_,rfl⟩
  rw[hm2] at hs2;have HM2:Hid (p+m2=rn):=by unfold Hid; omega
  have HL1:Hid ((R.take p).length=p):=by rw[Hid,List.length_take]; have:=HRN.out; omega
  have HL2:Hid ((R.drop p).length=m2):=by rw[Hid,List.length_drop]; have:=HRN.out; omega
  generalize R.take p=T1 at *;generalize R.drop p=T2 at *;have HS1:Hid (∀ W,Below wq.heap.size wq W→SInD gL W A1 T1):=fun W hb=>hi1.up hb
  have HS2:Hid (∀ W,Below wq.heap.size wq W→SInD gL W A2 T2):=fun W hb=>hi2.up hb
  have FF:Hid (∀ W,Below wq.heap.size wq W→(W.cell? ⟨ab,i*2,none⟩=some (.string (bs xs))∧W.cell? ⟨ab,i*2+1,none⟩=some (.int .i64 xn))):=fun W hW=>FX.out W (HB6.out.trans (hW.mono HB6.out.size))
  replace HI:Hid (p≤200∧rn≤200):=⟨by have:=HI.out; omega,HI.out⟩
  clear hi1 hi2 hm2 FX HZD HBC HBD;go_upto_region 10 with fail;have HB:=Zh (Below.refl wq.heap.size wq).drew;refine wp_region_held_drew (S:=(fun W=>Below wq.heap.size wq W∧(W.cell? ⟨ab,i*2,none⟩=some (.string (bs xs))∧W.cell? ⟨ab,i*2+1,none⟩=some (.int .i64 xn)))) (by kernel_rfl) (⟨HB.out,FF.out _ HB.out⟩) (fun hH=>?_);refine ZT (i:=1) (v:=?vT7_1) rfl (Or.inl ⟨by rfl,?yT7_1⟩) ?_
  case yT7_1=>exact ZyQ
  try simp only[Act.put,ZA,ZB,ZC]
  refine ZT (i:=2) (v:=?vT7_2) rfl (Or.inl ⟨by rfl,?yT7_2⟩) ?_
  case yT7_2=>exact ZyQ
  try simp only[Act.put,ZA,ZB,ZC]
  refine ZT (i:=3) (v:=?vT7_3) rfl (Or.inl ⟨by rfl,?yT7_3⟩) ?_
  case yT7_3=>exact ZyQ
  try simp only[Act.put,ZA,ZB,ZC]
  refine ZT (i:=5) (v:=?vT7_5) rfl (Or.inl ⟨by rfl,?yT7_5⟩) ?_
  case yT7_5=>exact ZyQ
  try simp only[Act.put,ZA,ZB,ZC]
  refine ZT (i:=6) (v:=?vT7_6) rfl (Or.inl ⟨by rfl,?yT7_6⟩) ?_
  case yT7_6=>exact ZyQ
  try simp only[Act.put,ZA,ZB,ZC]
  refine ZT (i:=7) (v:=?vT7_7) rfl (Or.inl ⟨by rfl,?yT7_7⟩) ?_
  case yT7_7=>exact ZyQ
  try simp only[Act.put,ZA,ZB,ZC]
  refine ZT (i:=8) (v:=?vT7_8) rfl (Or.inl ⟨by rfl,?yT7_8⟩) ?_
  case yT7_8=>exact ZyQ
  try simp only[Act.put,ZA,ZB,ZC]
  refine ZT (i:=11) (v:=?vT7_11) rfl (Or.inl ⟨by rfl,?yT7_11⟩) ?_
  case yT7_11=>exact ZyQ
  try simp only[Act.put,ZA,ZB,ZC]
  refine ZT (i:=12) (v:=?vT7_12) rfl (Or.inl ⟨by rfl,?yT7_12⟩) ?_
  case yT7_12=>exact ZyQ
  try simp only[Act.put,ZA,ZB,ZC]
  refine ZT (i:=13) (v:=?vT7_13) rfl (Or.inl ⟨by rfl,?yT7_13⟩) ?_
  case yT7_13=>exact ZyQ
  try simp only[Act.put,ZA,ZB,ZC]
  refine ZR (rs:=[0,9]) (AllReadyH.cons rfl (fun K hK=>?_) (AllReadyH.cons rfl (fun K hK=>?_) AllReadyH.nil))
  ·go_simp;have HA:=Zh (Kw (Vj wq.drew 91 2) HB.out.size);replace HB:=Zh (HB.out.alloc HB.out.size (.cells #[] 91));refine hK.out _ _ (⟨HB.out,FF.out _ HB.out⟩) (fun hH=>?_);clear hK K
   try simp only[Act.put,ZA,ZB,ZC]
   refine ZR (rs:=[4,9]) (AllReadyH.cons rfl (fun K hK=>?_) (AllReadyH.cons rfl (fun K hK=>?_) AllReadyH.nil))
   ·rw[if_pos (by rfl)];refine Jr elL KF Va _ _ rfl wq.heap.size (.slice (some ⟨wq.heap.size,0,none⟩) 0 0) 0 [] rfl HA.out _ _ p T1 HL1.out (.inr (HS1.out _ HB.out)) rfl (by have:=HI.out; omega) HB.out.size ?_;intro v4 w4 hown hbw hgw
    (try simp only[Nat.zero_add,List.nil_append] at hown)
    replace HB:=Zh (HB.out.trans hbw);replace HA:=Zh hown;clear hown hbw hgw;obtain ⟨a4,c4,hv4⟩:=JB HA.out;subst hv4;refine hK.out _ _ (⟨HB.out,FF.out _ HB.out⟩) (fun hH=>?_);clear hK K
    try simp only[Act.put,ZA,ZB,ZC]
    refine ZS 9 rfl (fun K hK=>?_);go_simp;have HX:=Zh (zzw w4 (.cells #[.string (bs xs),.int .i64 xn] 91));replace HA:=Zh (JZ HA.out (zzb.alloc zzl (.cells #[.string (bs xs),.int .i64 xn] 91)));replace HB:=Zh (HB.out.alloc HB.out.size (.cells #[.string (bs xs),.int .i64 xn] 91));refine hK.out _ _ (⟨HB.out,FF.out _ HB.out⟩) (fun hH=>?_);clear hK K
    try simp only[Act.put,ZA,ZB,ZC]
    refine ZS 10 rfl (fun K hK=>?_);rw[if_pos (by rfl)];refine Jr elL KF Va _ _ rfl wq.heap.size _ p _ rfl HA.out _ 1 1 [(xs,xn)] rfl (.inr (Vk (g:=gL) (x:=(xs,xn)) HX.out)) rfl (by have:=HI.out; omega) HB.out.size ?_;intro v5 w5 hown hbw hgw
    (try simp only[Nat.zero_add,List.nil_append] at hown)
    clear HX;replace HB:=Zh (HB.out.trans hbw);replace HA:=Zh hown;clear hown hbw hgw;obtain ⟨a5,c5,hv5⟩:=JB HA.out;subst hv5;refine hK.out _ _ (⟨HB.out,FF.out _ HB.out⟩) (fun hH=>?_);clear hK K
    try simp only[Act.put,ZA,ZB,ZC]
    refine ZS 14 rfl (fun K hK=>?_);rw[if_pos (by rfl)];refine Jr elL KF Va _ _ rfl wq.heap.size _ (p+1) _ rfl HA.out _ _ m2 T2 HL2.out (.inr (HS2.out _ HB.out)) rfl (by have:=HI.out; have:=HM2.out; omega) HB.out.size ?_;intro v7 w7 hown hbw hgw
    (try simp only[Nat.zero_add,List.nil_append] at hown)
    replace HB:=Zh (HB.out.trans hbw);replace HA:=Zh hown;clear hown hbw hgw;refine hK.out _ _ (⟨HB.out,FF.out _ HB.out⟩) (fun hH=>?_);clear hK K
    try simp only[Act.put,ZA,ZB,ZC]
    refine ZT (i:=15) (v:=?vT12_15) rfl (Or.inl ⟨by rfl,?yT12_15⟩) ?_
    case yT12_15=>exact ZyQ
    exact wx24
   ·go_simp;have HX:Hid (((wq.drew.alloc (.cells #[] 91)).alloc (.cells #[.string (bs xs),.int .i64 xn] 91)).heap[wq.heap.size+1]?=some (.cells #[.string (bs xs),.int .i64 xn] 91 (0,0))):=by have h9:=zzw (wq.drew.alloc (.cells #[] 91)) (.cells #[.string (bs xs),.int .i64 xn] 91); rw[World.size_alloc] at h9; exact h9
    replace HA:=Zh (JZ HA.out (zzb.alloc zzl (.cells #[.string (bs xs),.int .i64 xn] 91)));replace HB:=Zh (HB.out.alloc HB.out.size (.cells #[.string (bs xs),.int .i64 xn] 91));refine hK.out _ _ (⟨HB.out,FF.out _ HB.out⟩) (fun hH=>?_);clear hK K
    try simp only[Act.put,ZA,ZB,ZC]
    refine ZS 4 rfl (fun K hK=>?_);rw[if_pos (by rfl)];refine Jr elL KF Va _ _ rfl wq.heap.size (.slice (some ⟨wq.heap.size,0,none⟩) 0 0) 0 [] rfl HA.out _ _ p T1 HL1.out (.inr (HS1.out _ HB.out)) rfl (by have:=HI.out; omega) HB.out.size ?_;intro v4 w4 hown hbw hgw
    (try simp only[Nat.zero_add,List.nil_append] at hown)
    replace HX:=Zh ((hgw.block _ (Array.getElem?_eq_some_iff.1 HX.out).1 (by simp[Value.ownBlock])).trans HX.out);replace HB:=Zh (HB.out.trans hbw);replace HA:=Zh hown;clear hown hbw hgw;obtain ⟨a4,c4,hv4⟩:=JB HA.out;subst hv4;refine hK.out _ _ (⟨HB.out,FF.out _ HB.out⟩) (fun hH=>?_);clear hK K
    try simp only[Act.put,ZA,ZB,ZC]
    refine ZS 10 rfl (fun K hK=>?_);rw[if_pos (by rfl)];refine Jr elL KF Va _ _ rfl wq.heap.size _ p _ rfl HA.out _ 1 1 [(xs,xn)] rfl (.inr (Vk (g:=gL) (x:=(xs,xn)) HX.out)) rfl (by have:=HI.out; omega) HB.out.size ?_;intro v5 w5 hown hbw hgw
    (try simp only[Nat.zero_add,List.nil_append] at hown)
    clear HX;replace HB:=Zh (HB.out.trans hbw);replace HA:=Zh hown;clear hown hbw hgw;obtain ⟨a5,c5,hv5⟩:=JB HA.out;subst hv5;refine hK.out _ _ (⟨HB.out,FF.out _ HB.out⟩) (fun hH=>?_);clear hK K
    try simp only[Act.put,ZA,ZB,ZC]
    refine ZS 14 rfl (fun K hK=>?_);rw[if_pos (by rfl)];refine Jr elL KF Va _ _ rfl wq.heap.size _ (p+1) _ rfl HA.out _ _ m2 T2 HL2.out (.inr (HS2.out _ HB.out)) rfl (by have:=HI.out; have:=HM2.out; omega) HB.out.size ?_;intro v7 w7 hown hbw hgw
    (try simp only[Nat.zero_add,List.nil_append] at hown)
    replace HB:=Zh (HB.out.trans hbw);replace HA:=Zh hown;clear hown hbw hgw;refine hK.out _ _ (⟨HB.out,FF.out _ HB.out⟩) (fun hH=>?_);clear hK K
    try simp only[Act.put,ZA,ZB,ZC]
    refine ZT (i:=15) (v:=?vT16_15) rfl (Or.inl ⟨by rfl,?yT16_15⟩) ?_
    case yT16_15=>exact ZyQ
    exact wx24
  ·go_simp;have HX:Hid ((wq.drew.alloc (.cells #[.string (bs xs),.int .i64 xn] 91)).heap[wq.heap.size]?=some (.cells #[.string (bs xs),.int .i64 xn] 91 (0,0))):=zzw wq.drew _;replace HB:=Zh (HB.out.alloc HB.out.size (.cells #[.string (bs xs),.int .i64 xn] 91));refine hK.out _ _ (⟨HB.out,FF.out _ HB.out⟩) (fun hH=>?_);clear hK K
   try simp only[Act.put,ZA,ZB,ZC]
   refine ZS 0 rfl (fun K hK=>?_);go_simp;have HA:Hid (((wq.drew.alloc (.cells #[.string (bs xs),.int .i64 xn] 91)).alloc (.cells #[] 91)).ownsRow wq.heap.size 91 2 (.slice (some ⟨wq.heap.size+1,0,none⟩) 0 0) 0 []):=by have h9:=Kw (Vj (wq.drew.alloc (.cells #[.string (bs xs),.int .i64 xn] 91)) 91 2) HB.out.size; rw[World.size_alloc] at h9; exact h9
   replace HX:=Zh ((Below.heap_alloc _ (.cells #[] 91) _ (Array.getElem?_eq_some_iff.1 HX.out).1).trans HX.out);replace HB:=Zh (HB.out.alloc HB.out.size (.cells #[] 91));refine hK.out _ _ (⟨HB.out,FF.out _ HB.out⟩) (fun hH=>?_);clear hK K
   try simp only[Act.put,ZA,ZB,ZC]
   refine ZS 4 rfl (fun K hK=>?_);rw[if_pos (by rfl)];refine Jr elL KF Va _ _ rfl wq.heap.size (.slice (some ⟨wq.heap.size+1,0,none⟩) 0 0) 0 [] rfl HA.out _ _ p T1 HL1.out (.inr (HS1.out _ HB.out)) rfl (by have:=HI.out; omega) HB.out.size ?_;intro v4 w4 hown hbw hgw
   (try simp only[Nat.zero_add,List.nil_append] at hown)
   replace HX:=Zh ((hgw.block _ (Array.getElem?_eq_some_iff.1 HX.out).1 (by simp[Value.ownBlock])).trans HX.out);replace HB:=Zh (HB.out.trans hbw);replace HA:=Zh hown;clear hown hbw hgw;obtain ⟨a4,c4,hv4⟩:=JB HA.out;subst hv4;refine hK.out _ _ (⟨HB.out,FF.out _ HB.out⟩) (fun hH=>?_);clear hK K
   try simp only[Act.put,ZA,ZB,ZC]
   refine ZS 10 rfl (fun K hK=>?_);rw[if_pos (by rfl)];refine Jr elL KF Va _ _ rfl wq.heap.size _ p _ rfl HA.out _ 1 1 [(xs,xn)] rfl (.inr (Vk (g:=gL) (x:=(xs,xn)) HX.out)) rfl (by have:=HI.out; omega) HB.out.size ?_;intro v5 w5 hown hbw hgw
   (try simp only[Nat.zero_add,List.nil_append] at hown)
   clear HX;replace HB:=Zh (HB.out.trans hbw);replace HA:=Zh hown;clear hown hbw hgw;obtain ⟨a5,c5,hv5⟩:=JB HA.out;subst hv5;refine hK.out _ _ (⟨HB.out,FF.out _ HB.out⟩) (fun hH=>?_);clear hK K
   try simp only[Act.put,ZA,ZB,ZC]
   refine ZS 14 rfl (fun K hK=>?_);rw[if_pos (by rfl)];refine Jr elL KF Va _ _ rfl wq.heap.size _ (p+1) _ rfl HA.out _ _ m2 T2 HL2.out (.inr (HS2.out _ HB.out)) rfl (by have:=HI.out; have:=HM2.out; omega) HB.out.size ?_;intro v7 w7 hown hbw hgw
   (try simp only[Nat.zero_add,List.nil_append] at hown)
   replace HB:=Zh (HB.out.trans hbw);replace HA:=Zh hown;clear hown hbw hgw;refine hK.out _ _ (⟨HB.out,FF.out _ HB.out⟩) (fun hH=>?_);clear hK K
   try simp only[Act.put,ZA,ZB,ZC]
   refine ZT (i:=15) (v:=?vT21_15) rfl (Or.inl ⟨by rfl,?yT21_15⟩) ?_
   case yT21_15=>exact ZyQ
   exact wx24
 ·have di:decide ((i:Int)<(nn:Int))=false:=decide_eq_false (by omega);have diN:decide (i<nn)=false:=decide_eq_false hin;obtain rfl:i=nn:=by omega
  have hRR:R=labelsM r F G:=by rw[← hR,← HN.out.2.2,Jgs]
  have HFIN:Hid (RP (.returned (.slice va rn vc)) wo):=by
   rw[Hid,← HRP.out];subst hRR;refine ⟨va,vc,by rw[HRN.out],?_,Je HBW6.out HBO.out⟩;rw[HRN.out];exact Jgr HRN.out HZO.out HBW6.out.size
  clear hR hRR;go_wp2;exact HFIN.out
end Go.Proofs.YtncanmdgdflnpaaGreatDoor
