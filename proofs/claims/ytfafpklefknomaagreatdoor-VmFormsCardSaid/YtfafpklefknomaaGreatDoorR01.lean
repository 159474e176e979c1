import Derived.Laws.Rows
import Derived.Laws.Tables
import Derived.Laws.CopyOwn
import Derived.Lib.SmallJoins
import Derived.Lib.IndexAny
import Derived.Test.YtfafpklefknomaaGreatDoorR00
open List(length_cons)
namespace Go.Proofs.YtfafpklefknomaaGreatDoor
open Go Go.Lib
open _root_.Go.Proofs.Tryz
set_option linter.all false
set_option maxRecDepth 100000
set_option maxHeartbeats 32000000
def Qft(c:UInt8):Bool:=c==9||c==10||c==13||c==32
def Qef(c:UInt8):Bool:=decide (97<=c.toNat)&&decide (c.toNat<=122)
def Qgi(c:UInt8):Bool:=decide (48<=c.toNat)&&decide (c.toNat<=57)
def Qdw(c:UInt8):Bool:=Qef c||Qgi c||c==95
def QaS(l:By):By:=l.takeWhile Qdw
def Qbt:Nat->By->Option By
 |0,_=>none
 |_+1,[]=>none
 |f+1,c::r=>if c=34 then some [] else if c.toNat<32\/126<c.toNat\/c=92 then none else (Qbt f r).map (c::·)
def Qea:List By:=[[61,61],[33,61],[60,61],[62,61]]
def QcA:By:=[40,41,44,58,61,60,62,43,45,42,47,37]
def Qbk(l:By):By:=if l.take 2∈Qea then l.take 2 else if l.head?=none then [] else if l.headD 0∈QcA then [l.headD 0] else []
structure Tok where
 kind:Int
 text:By
 n:Int
 off:Int
deriving DecidableEq
def QcH(l:By):Option (Tok × Nat):=
 match l with
 |[]=>none
 |c::r=>
  if Qef c=true then (if (QaS l).length<=24 then some (⟨0,QaS l,0,0⟩,(QaS l).length) else none)
  else if Qgi c=true then (Qbm (QaS l) 0 1125899906842624).map λn=>(⟨1,[],n,0⟩,(QaS l).length)
  else if c=34 then (Qbt 25 r).map λw=>(⟨2,w,0,0⟩,w.length+2)
  else if Qbk l=[] then none else some (⟨3,Qbk l,0,0⟩,(Qbk l).length)
def wr(t:Tok):By:=if t.kind=1 then itoa t.n else if t.kind=2 then 34::(t.text++[34]) else t.text
def Zw(l:By):(QaS l).length<=l.length:=by
 unfold QaS;exact(List.takeWhile_prefix _).length_le
def JgJ(l:By):l.take (QaS l).length=QaS l:=by
 have h:QaS l <+: l:=List.takeWhile_prefix _;exact(List.prefix_iff_eq_take.1 h).symm
def Jdw{w r:By}(hw:∀c∈w,Qdw c=true)(hr:r.head?.map Qdw≠some true):QaS (w++r)=w:=by
 unfold QaS
 induction w with
 |nil=>
  cases r with
  |nil=>rfl
  |cons c r=>simp at hr;simp[hr]
 |cons c w ih=>
  rw[List.cons_append,List.takeWhile_cons_of_pos (hw c zq),ih λc h=>hw c (by simp[h])]
def VN:∀(f:Nat) (l w:By),Qbt f l=some w->w.length+1<=f/\w.length+1<=l.length/\l.take (w.length+1)=w++[34]:=by
 intro f
 induction f with
 |zero=>intro l w h;cases h
 |succ f ih=>
  intro l w h
  cases l with
  |nil=>cases h
  |cons c r=>
   simp only[Qbt]at h;split at h
   ·rename_i hc;injection h with h;subst h;subst hc;simp
   ·split at h
    ·cases h
    ·cases hr:Qbt f r with
     |none=>rw[hr]at h;cases h
     |some v=>
      rw[hr]at h;injection h with h;subst h;have:=ih r v hr;simp[this]
def JfE(l:By):(Qbk l∈Qea/\Qbk l=l.take 2)\/(l.take 2∉Qea/\∃c r,l=c::r/\c∈QcA/\Qbk l=[c])\/(Qbk l=[]):=by
 unfold Qbk
 by_cases h:l.take 2∈Qea
 ·rw[if_pos h];exact .inl ⟨h,rfl⟩
 ·rw[if_neg h]
  cases l with
  |nil=>exact .inr (.inr rfl)
  |cons c r=>
   by_cases hc:c∈QcA
   ·refine .inr (.inl ⟨h,c,r,rfl,hc,?_⟩);simp[hc]
   ·refine .inr (.inr ?_);simp[hc]
def JgK{w:By}(h:w∈Qea):w.length=2:=by
 simp[Qea]at h
 rcases h with rfl|rfl|rfl|rfl<;>rfl
def Jbk(l:By):(Qbk l).length<=l.length/\(Qbk l).length<=2/\l.take (Qbk l).length=Qbk l:=by
 rcases JfE l with⟨h,e⟩|⟨_,c,r,rfl,hc,e⟩|e
 ·have:=JgK h;rw[this];refine⟨?_,by omega,e.symm⟩;rw[e]at this;simp at this;omega
 ·rw[e];simp
 ·rw[e];simp
theorem QhC{P:Prop}(h:P:=by
  refine⟨by rw[hw,JgJ],?_,Zw _,by rw[hw]⟩;have hwo:Qdw c=true:=by simp[Qdw,hc]
  unfold QaS;rw[List.takeWhile_cons_of_pos hwo]
  simp):P:=h
def JbW{l:By}{t:Tok}{n:Nat}(h:QcH l=some (t,n)):wr t=l.take n/\1<=n/\n<=l.length/\(wr t).length=n:=by
 cases l with
 |nil=>cases h
 |cons c r=>
  simp only[QcH]at h;split at h
  ·rename_i hc;split at h
   ·rename_i h24;injection h with h;injection h with h1 h2;subst h1;subst h2;have hw:wr ⟨0,QaS (c::r),0,0⟩=QaS (c::r):=rfl;exact QhC
   ·cases h
  ·split at h
   ·rename_i hc
    cases hp:Qbm (QaS (c::r)) 0 1125899906842624 with
    |none=>rw[hp]at h;cases h
    |some m=>
     rw[hp]at h;injection h with h;injection h with h1 h2;subst h1;subst h2;have hw:wr ⟨1,[],m,0⟩=QaS (c::r):=(JeB hp).1;exact QhC
   ·split at h
    ·rename_i hc
     cases hp:Qbt 25 r with
     |none=>rw[hp]at h;cases h
     |some w=>
      rw[hp]at h;injection h with h;injection h with h1 h2;subst h1;subst h2;obtain⟨_,h3,h4⟩:=VN _ _ _ hp;have hw:wr ⟨2,w,0,0⟩=34::(w++[34]):=rfl;refine⟨?_,by omega,by simp;omega,by rw[hw];simp⟩;rw[hw,hc,List.take_succ_cons,h4]
    ·split at h
     ·cases h
     ·rename_i hs;injection h with h;injection h with h1 h2;subst h1;subst h2;have hw:wr ⟨3,Qbk (c::r),0,0⟩=Qbk (c::r):=rfl;obtain⟨h1,_,h3⟩:=Jbk (c::r);refine⟨by rw[hw,h3],?_,h1,by rw[hw]⟩
      cases hz:Qbk (c::r) with
      |nil=>exact absurd hz hs
      |cons a b=>simp
def Zx{l:By}{t:Tok}{n:Nat}(h:QcH l=some (t,n)):0<=t.kind/\t.kind<=3/\t.text.length<=24/\0<=t.n/\t.n<=1125899906842624/\t.off=0:=by
 cases l with
 |nil=>cases h
 |cons c r=>
  simp only[QcH]at h;split at h
  ·split at h
   ·rename_i h24;injection h with h;injection h with h1 h2;subst h1;exact⟨by simp,by simp,h24,by simp,by simp,rfl⟩
   ·cases h
  ·split at h
   ·cases hp:Qbm (QaS (c::r)) 0 1125899906842624 with
    |none=>rw[hp]at h;cases h
    |some m=>
     rw[hp]at h;injection h with h;injection h with h1 h2;subst h1;have:=JeB hp;exact⟨by simp,by simp,by simp,this.2.2.1,this.2.2.2,rfl⟩
   ·split at h
    ·cases hp:Qbt 25 r with
     |none=>rw[hp]at h;cases h
     |some w=>
      rw[hp]at h;injection h with h;injection h with h1 h2;subst h1;have:=VN _ _ _ hp;exact⟨by simp,by simp,by show w.length<=24;omega,by simp,by simp,rfl⟩
    ·split at h
     ·cases h
     ·injection h with h;injection h with h1 h2;subst h1;have:=(Jbk (c::r)).2.1;exact⟨by simp,by simp,by show (Qbk (c::r)).length<=24;omega,by simp,by simp,rfl⟩
inductive QeV where
 |ok (l:List Tok)
 |err (k:Nat)
def QeV.push(t:Tok):QeV->QeV
 |.ok l=>.ok (t::l)
 |.err k=>.err k
def QdY:Nat->Nat->By->QeV
 |0,k,_=>.ok [⟨4,[],0,k⟩]
 |_+1,k,[]=>.ok [⟨4,[],0,k⟩]
 |f+1,k,c::r=>
  if Qft c=true then QdY f (k+1) r
  else match QcH (c::r) with
   |none=>.err k
   |some (t,n)=>(QdY f (k+n) ((c::r).drop n)).push { t with off:=k }
def JfF:∀(f g k:Nat) (l:By),l.length<=f->l.length<=g->QdY f k l=QdY g k l:=by
 intro f
 induction f with
 |zero=>
  intro g k l h1 h2;obtain rfl:l=[]:=List.eq_nil_of_length_eq_zero zo
  cases g<;>rfl
 |succ f ih=>
  intro g k l h1 h2
  cases l with
  |nil=>cases g<;>rfl
  |cons c r=>
   cases g with
   |zero=>simp at h2
   |succ g=>
    simp only[length_cons]at h1 h2;simp only[QdY];split
    ·exact ih g _ r zo zo
    ·cases hp:QcH (c::r) with
     |none=>rfl
     |some x=>
      obtain⟨t,n⟩:=x;have:=(JbW hp).2.1;simp only;rw[ih g _ _ zr zr]
def sc(k:Nat)(l:By):QeV:=QdY l.length k l
def JeC(k:Nat):sc k []=.ok [⟨4,[],0,k⟩]:=rfl
def Jjo(k:Nat){c:UInt8}(r:By)(h:Qft c=true):sc k (c::r)=sc (k+1) r:=by
 unfold sc;simp only[length_cons,QdY];rw[if_pos h]
def Jbl(k:Nat){c:UInt8}(r:By)(h:Qft c=false)(ht:QcH (c::r)=none):sc k (c::r)=.err k:=by
 unfold sc;simp only[length_cons,QdY];rw[if_neg (by simp[h]),ht]
def Jbm(k:Nat){c:UInt8}(r:By){t:Tok}{n:Nat}(h:Qft c=false)(ht:QcH (c::r)=some (t,n)):sc k (c::r)=(sc (k+n) ((c::r).drop n)).push { t with off:=k }:=by
 have:=(JbW ht).2.1;unfold sc;simp only[length_cons,QdY];rw[if_neg (by simp[h]),ht];simp only;rw[JfF _ ((c::r).drop n).length _ _ zr (Nat.le_refl _)]
def Jbn{P:Nat->By->Prop}(h0:∀k,P k [])(h1:∀k c r,Qft c=true->P (k+1) r->P k (c::r))(h2:∀k c r,Qft c=false->QcH (c::r)=none->P k (c::r))
  (h3:∀k c r t n,Qft c=false->QcH (c::r)=some (t,n)->1<=n->n<=(c::r).length->P (k+n) ((c::r).drop n)->P k (c::r)):∀l k,P k l:=by
 have h:∀m (l:By) k,l.length<=m->P k l:=by
  intro m
  induction m with
  |zero=>
   intro l k hl;obtain rfl:l=[]:=List.eq_nil_of_length_eq_zero zo;exact h0 k
  |succ m ih=>
   intro l k hl
   cases l with
   |nil=>exact h0 k
   |cons c r=>
    simp only[length_cons]at hl
    cases hs:Qft c with
    |true=>exact h1 k c r hs (ih r _ zo)
    |false=>
     cases ht:QcH (c::r) with
     |none=>exact h2 k c r hs ht
     |some x=>
      obtain⟨t,n⟩:=x;have hw:=JbW ht;exact h3 k c r t n hs ht hw.2.1 hw.2.2.1 (ih _ _ zr)
 intro l k;exact h _ l k (Nat.le_refl _)
open Go.ChangeShapes Go.WideShapes Go.ChangeAt Go.RowKit Go.Lib
def tab(f:Nat->Nat):Array Value:=((List.range 256).map λi=>Value.int .u8 (f i:Nat)).toArray
def Ko(f:Nat->Nat):(tab f).size=256:=by simp[tab]
def YN(f:Nat->Nat){i:Nat}(h:i<256):(tab f)[i]?=some (.int .u8 (f i:Nat)):=by
 simp[tab,h]
def Zy(f:Nat->Nat)(j v:Nat):(tab f).setIfInBounds j (.int .u8 (v:Nat))=tab (λi=>if i=j then v else f i):=by
 apply Array.ext_getElem?;intro i;rw[Array.getElem?_setIfInBounds,Ko]
 by_cases hij:j=i
 ·subst hij;rw[if_pos rfl]
  by_cases h:j<256
  ·rw[if_pos h,YN _ h,if_pos rfl]
  ·rw[if_neg h,Array.getElem?_eq_none (by rw[Ko];omega)]
 ·rw[if_neg hij]
  by_cases h:i<256
  ·rw[YN _ h,YN _ h,if_neg λe=>hij e.symm]
  ·rw[Array.getElem?_eq_none (by rw[Ko];omega),Array.getElem?_eq_none (by rw[Ko];omega)]
def Vu{f g:Nat->Nat}(h:∀i,i<256->f i=g i):tab f=tab g:=by
 unfold tab
 congr 1
 apply List.map_congr_left;intro i hi;rw[h i (by simpa using hi)]
def zf:Nat->Nat:=λ_=>0
def Jbo:Tryz.zeroCells131=tab zf:=zk
def g1(k i:Nat):Nat:=if (i=9/\0<k)\/(i=10/\1<k)\/(i=13/\2<k)\/(i=32/\3<k) then 1 else 0
def g2(k i:Nat):Nat:=if 97<=i/\i<97+k then 2 else g1 4 i
def g3(k i:Nat):Nat:=if 48<=i/\i<48+k then 3 else g2 26 i
def QbV(i:Nat):Nat:=if i=34 then 5 else if i=95 then 4 else g3 10 i
def QkK:tab zf=tab (g1 0):=Vu λi _=>by simp[g1,zf]
def QkJ:tab (g1 4)=tab (g2 0):=Vu λi _=>by unfold g2;rw[if_neg zo]
def QkI:tab (g2 26)=tab (g3 0):=Vu λi _=>by unfold g3;rw[if_neg zo]
theorem Qiu{P:Prop}(h:P:=by
  rw[show (1:Int)=((1:Nat):Int) from rfl,Zy]
  exact Vu λi _=>by unfold g1;(repeat' split)<;>omega):P:=h
def Jlx:(tab (g1 0)).setIfInBounds 9 (.int .u8 1)=tab (g1 1):=by
 exact Qiu
def Jly:(tab (g1 1)).setIfInBounds 10 (.int .u8 1)=tab (g1 2):=by
 exact Qiu
def Jlz:(tab (g1 2)).setIfInBounds 13 (.int .u8 1)=tab (g1 3):=by
 exact Qiu
def JlA:(tab (g1 3)).setIfInBounds 32 (.int .u8 1)=tab (g1 4):=by
 exact Qiu
def Jno(k:Nat):(tab (g2 k)).setIfInBounds (97+k) (.int .u8 2)=tab (g2 (k+1)):=by
 rw[show (2:Int)=((2:Nat):Int) from rfl,Zy];exact Vu λi _=>by unfold g2;(repeat' split)<;>first|rfl|omega
def Jnp(k:Nat):(tab (g3 k)).setIfInBounds (48+k) (.int .u8 3)=tab (g3 (k+1)):=by
 rw[show (3:Int)=((3:Nat):Int) from rfl,Zy];exact Vu λi _=>by unfold g3;(repeat' split)<;>first|rfl|omega
def g4(i:Nat):Nat:=if i=95 then 4 else g3 10 i
def Jnq:(tab (g3 10)).setIfInBounds 95 (.int .u8 4)=tab g4:=by
 rw[show (4:Int)=((4:Nat):Int) from rfl,Zy];exact Vu λi _=>by unfold g4;split<;>rfl
def JlB:(tab g4).setIfInBounds 34 (.int .u8 5)=tab QbV:=by
 rw[show (5:Int)=((5:Nat):Int) from rfl,Zy];exact Vu λi _=>by unfold QbV g4;split<;>rfl
structure CW(B:Nat)(w wr:World)(f:Nat->Nat):Prop where
 t1:wr.heap[B+1]?=some (.cells (tab f) 131 (0,0))
 t0:wr.heap[B]?=some (.cells (tab zf) 131 (0,0))
 sz:B+2<=wr.heap.size
 bl:Below B w wr
def CW.set{B:Nat}{w wr:World}{f g:Nat->Nat}(h:CW B w wr f)(j:Nat)(v:Int)(e:(tab f).setIfInBounds j (.int .u8 v)=tab g):CW B w (wr.setCell ⟨B+1,j,none⟩ (.int .u8 v)) g:=by
 refine⟨?_,?_,?_,h.bl.setCell zq _⟩
 ·rw[heap_setCell_same _ _ _ _ _ _ h.t1,e]
 ·rw[heap_setCell_other _ _ _ _ zq,h.t0]
 ·have:=h.sz;simpa[World.setCell] using this
def CW.c1{B:Nat}{w wr:World}{f:Nat->Nat}(h:CW B w wr f){j:Nat}(hj:j<256):wr.cell? ⟨B+1,j,none⟩=some (.int .u8 (f j:Nat)):=by
 rw[cell_of_row _ _ _ _ _ _ h.t1,YN _ hj]
def CW.f1{B:Nat}{w wr:World}{f:Nat->Nat}(h:CW B w wr f)(j:Nat):wr.frozen? ⟨B+1,j,none⟩=false:=frozen_of_row _ _ _ _ _ h.t1
def JgL(f:Nat->Nat):(tab f).all (·.oneCell')=true:=by
 rw[Array.all_eq_true_iff_forall_mem];intro x hx;simp only[tab,List.mem_toArray,List.mem_map]at hx;obtain⟨i,_,rfl⟩:=hx;rfl
def QeS:(prog.info? 131).map (·.size)=some 256:=zk
theorem Qhj{P:Prop}(h:P:=by
  clear hC;go_wp2;go_roundw
  case rel=>exact⟨k+1,by omega,by go_num,HC.o⟩
  case measure=>simp[intOf];omega):P:=h
def Jdx(w:World):Calls prog 84 #[] w (λe w'=>e=.returned (.agg (tab QbV))/\Below w.heap.size w w'):=by
 obtain⟨B,hB⟩:∃B,w.heap.size=B:=⟨_,rfl⟩
 rw[hB];have aA:=Joins.run_convert_bytes_const_at (P:=prog) ((w.alloc (.cells Tryz.zeroCells131 131)).alloc (.cells Tryz.zeroCells131 131)) 60 5 #[.int .u8 9,.int .u8 10,.int .u8 13,.int .u8 32] 4 4 (B+1+1) (by simp[hB]) underlying60 underlying5;go_enter func84,ntmps84;go_wp2;obtain⟨W,hW⟩:∃W,W=((w.alloc (.cells Tryz.zeroCells131 131)).alloc (.cells Tryz.zeroCells131 131)).alloc (.cells #[.int .u8 9,.int .u8 10,.int .u8 13,.int .u8 32] 5 (4,5)):=⟨_,rfl⟩
 have hC:CW B w W (g1 0):=by
  have s1:(w.alloc (.cells Tryz.zeroCells131 131)).heap.size=B+1:=by simp[hB]
  have s2:((w.alloc (.cells Tryz.zeroCells131 131)).alloc (.cells Tryz.zeroCells131 131)).heap.size=B+2:=by simp[hB]
  refine⟨?_,?_,?_,?_⟩
  ·rw[hW,heap_alloc_old _ _ zo,<- s1,zQ,Jbo,QkK]
  ·rw[hW,heap_alloc_old _ _ zo,heap_alloc_old _ _ zo,<- hB,zQ,Jbo]
  ·rw[hW];simp[hB]
  ·rw[hW];exact((zO.alloc zo _).alloc zo _).alloc zo _
 have hD:W.heap[B+1+1]?=some (.cells #[.int .u8 9,.int .u8 10,.int .u8 13,.int .u8 32] 5 (4,5)):=by
  have s2:((w.alloc (.cells Tryz.zeroCells131 131)).alloc (.cells Tryz.zeroCells131 131)).heap.size=B+1+1:=by simp[hB]
  rw[hW,<- s2,zQ]
 have bA:B+2<W.heap.size:=by rw[hW];simp[hB]
 rw[<- hW];clear hW aA;go_loopw [9] (λv wr=>∃k:Nat,k<=4/\v=Iv k/\CW B w wr (g1 k)/\wr.heap[B+1+1]?=some (.cells #[.int .u8 9,.int .u8 10,.int .u8 13,.int .u8 32] 5 (4,5))) λv _=>4-(intOf v).toNat
 case atStart=>exact⟨0,by omega,rfl,hC,hD⟩
 case round=>
  obtain⟨k,hk,rfl,hC,hD⟩:=hrel;have zA:=λj=>cell_of_row wr _ j _ _ _ hD
  by_cases hlt:k<4
  ·rcases (by omega:k=0\/k=1\/k=2\/k=3) with rfl|rfl|rfl|rfl
   ·have q1:=zA 0;have q2:=hC.c1 (j:=9) zo;have q3:=hC.f1 9;clear zA;have yA:=hC.set 9 1 Jlx;have xA:=(heap_setCell_other wr ⟨B+1,9,none⟩ (B+1+1) (.int .u8 1) zq).trans hD;have HC:=Zh yA;have HD:=Zh xA;clear hC hD yA xA;go_wp2;go_roundw
    case rel=>exact⟨1,by omega,rfl,HC.o,HD.o⟩
    case measure=>simp[intOf]
   ·have q1:=zA 1;have q2:=hC.c1 (j:=10) zo;have q3:=hC.f1 10;clear zA;have yA:=hC.set 10 1 Jly;have xA:=(heap_setCell_other wr ⟨B+1,10,none⟩ (B+1+1) (.int .u8 1) zq).trans hD;have HC:=Zh yA;have HD:=Zh xA;clear hC hD yA xA;go_wp2;go_roundw
    case rel=>exact⟨2,by omega,rfl,HC.o,HD.o⟩
    case measure=>simp[intOf]
   ·have q1:=zA 2;have q2:=hC.c1 (j:=13) zo;have q3:=hC.f1 13;clear zA;have yA:=hC.set 13 1 Jlz;have xA:=(heap_setCell_other wr ⟨B+1,13,none⟩ (B+1+1) (.int .u8 1) zq).trans hD;have HC:=Zh yA;have HD:=Zh xA;clear hC hD yA xA;go_wp2;go_roundw
    case rel=>exact⟨3,by omega,rfl,HC.o,HD.o⟩
    case measure=>simp[intOf]
   ·have q1:=zA 3;have q2:=hC.c1 (j:=32) zo;have q3:=hC.f1 32;clear zA;have yA:=hC.set 32 1 JlA;have xA:=(heap_setCell_other wr ⟨B+1,32,none⟩ (B+1+1) (.int .u8 1) zq).trans hD;have HC:=Zh yA;have HD:=Zh xA;clear hC hD yA xA;go_wp2;go_roundw
    case rel=>exact⟨4,by omega,rfl,HC.o,HD.o⟩
    case measure=>simp[intOf]
  ·obtain rfl:k=4:=zo;clear zA hD;have hC:CW B w wr (g2 0):=⟨by rw[<- QkJ];exact hC.t1,hC.t0,hC.sz,hC.bl⟩
   have HC:=Zh hC;clear hC;go_wp2;obtain⟨w2,rfl⟩:=zJ wr;go_loopw [4] (λv wr=>∃k:Nat,k<=26/\v=.int .i32 (97+k)/\CW B w wr (g2 k)) λv _=>123-(intOf v).toNat
   case atStart=>exact⟨0,by omega,rfl,HC.o⟩
   case round=>
    clear HC;obtain⟨k,hk,rfl,hC⟩:=hrel
    by_cases hlt:k<26
    ·have q2:=hC.c1 (j:=97+k) zo;have q3:=hC.f1 (97+k);have HC:=Zh (hC.set (97+k) 2 (Jno k));have e1:(97+(k:Int)).toNat=97+k:=zo;exact Qhj
    ·obtain rfl:k=26:=zo;have hC:CW B w wr (g3 0):=⟨by rw[<- QkI];exact hC.t1,hC.t0,hC.sz,hC.bl⟩
     have HC:=Zh hC;clear hC;go_wp2;obtain⟨w3,rfl⟩:=zJ wr;go_loopw [5] (λv wr=>∃k:Nat,k<=10/\v=.int .i32 (48+k)/\CW B w wr (g3 k)) λv _=>58-(intOf v).toNat
     case atStart=>exact⟨0,by omega,rfl,HC.o⟩
     case round=>
      clear HC;obtain⟨k,hk,rfl,hC⟩:=hrel
      by_cases hlt:k<10
      ·have q2:=hC.c1 (j:=48+k) zo;have q3:=hC.f1 (48+k);have HC:=Zh (hC.set (48+k) 3 (Jnp k));have e1:(48+(k:Int)).toNat=48+k:=zo;exact Qhj
      ·obtain rfl:k=10:=zo;have q2:=hC.c1 (j:=95) zo;have q3:=hC.f1 95;have uA:=hC.set 95 4 Jnq;have q4:=uA.c1 (j:=34) zo;have q5:=uA.f1 34;have vA:=uA.set 34 5 JlB;have HC:=Zh vA;clear hC uA vA;have hu:(match (TypeDesc.array 256 5) with|.struct _|.array _ _=>true|_=>false)=true:=rfl
       go_wp2_with (first
        |(refine wpList_load_row rfl 131 (.tmp 1) rfl (B+1) rfl 131 (tab QbV) (0,0) _ HC.o.t1 underlying131 zt (by rw[Ko];exact QeS) ?_)
        |(refine wpList_store_row rfl 131 (.tmp 0) (.tmp 30) rfl B (tab QbV) rfl rfl 131 (tab zf) HC.o.t0 (by rw[Ko];exact QeS) (by rw[Ko,Ko]) (JgL _) ?_))
       refine bodyPost_ret (v:=.agg (tab QbV)) (results_cell_row rfl _ _ B 131 (tab QbV) (0,0) _ rfl (setRow_heap _ B (tab zf) _ 131 (0,0) HC.o.t0) underlying131 rfl (by rw[Ko];exact QeS)) rfl ⟨rfl,?_⟩;exact below_setRow HC.o.bl (Nat.le_refl _) _
def er(t:Tok):Tok:={ t with off:=0 }
def Jdy{t:Tok}{s:QeV}{l:List Tok}(h:s.push t=.ok l):∃r,s=.ok r/\l=t::r:=by
 cases s with
 |ok r=>simp only[QeV.push]at h;injection h with h;exact⟨r,rfl,h.symm⟩
 |err k=>cases h
def JlC:∀(l:By) (k:Nat) (ts:List Tok),sc k l=.ok ts->∃us,ts=us++[⟨4,[],0,(k+l.length:Nat)⟩]/\(∀t∈us,0<=t.kind/\t.kind<=3/\t.text.length<=24/\0<=t.n/\t.n<=1125899906842624)/\(∀t∈ts,(k:Int)<=t.off/\t.off<=k+l.length):=by
 refine Jbn (P:=λk l=>∀ts,sc k l=.ok ts->_) ?_ ?_ ?_ ?_
 ·intro k ts h;rw[JeC]at h;injection h with h;subst h;exact⟨[],rfl,by simp,by simp⟩
 ·intro k c r hs ih ts h;rw[Jjo k r hs]at h;obtain⟨us,h1,h2,h3⟩:=ih ts h;refine⟨us,by rw[h1];simp;omega,h2,λt ht=>?_⟩;have:=h3 t ht;simp only[List.length_cons];omega
 ·intro k c r hs ht ts h;rw[Jbl k r hs ht]at h
  cases h
 ·intro k c r t n hs ht h1 hn ih ts h;rw[Jbm k r hs ht]at h;obtain⟨rs,hr,rfl⟩:=Jdy h;obtain⟨us,e1,e2,e3⟩:=ih rs hr;have hl:((c::r).drop n).length=(c::r).length-n:=List.length_drop;rw[hl]at e1 e3;have hf:=Zx ht;refine⟨{ t with off:=k }::us,?_,?_,?_⟩
  ·rw[e1];simp only[List.cons_append]
   congr 5
   omega
  ·intro x hx
   rcases List.mem_cons.1 hx with rfl|hx
   ·exact⟨hf.1,hf.2.1,hf.2.2.1,hf.2.2.2.1,hf.2.2.2.2.1⟩
   ·exact e2 x hx
  ·intro x hx
   rcases List.mem_cons.1 hx with rfl|hx
   ·exact⟨Int.le_refl _,by show (k:Int)<=_;omega⟩
   ·have:=e3 x hx;omega
def Va(l:By)(a b:Nat):(bs l).extract a b=bs ((l.drop a).take (b-a)):=by
 apply ByteArray.ext;simp[bs,ByteArray.data_extract]
def JlD(l:By){k:Nat}(h:k<l.length):∀h',((bs l)[k]'h').toNat=(l[k]'h).toNat:=by
 intro h';simp only[bs];rfl
def Qdz(w:World)(p:Nat):Prop:=∀i,i<256->w.cell? ⟨p,i,none⟩=some (.int .u8 (QbV i:Nat))
def Jlc{c:UInt8}:Qft c=true↔QbV c.toNat=1:=by
 have:=c.toNat_lt;simp only[Qft,QbV,g3,g2,g1,Bool.or_eq_true,beq_iff_eq,<- UInt8.toNat_inj]
 repeat' split
 all_goals simp
 all_goals omega
def JgM{c:UInt8}:Qef c=true↔QbV c.toNat=2:=by
 have:=c.toNat_lt;simp only[Qef,QbV,g3,g2,g1,Bool.and_eq_true,decide_eq_true_eq]
 repeat' split
 all_goals first|omega|(simp;omega)
def JgN{c:UInt8}:Qgi c=true↔QbV c.toNat=3:=by
 have:=c.toNat_lt;simp only[Qgi,QbV,g3,g2,g1,Bool.and_eq_true,decide_eq_true_eq]
 repeat' split
 all_goals first|omega|(simp;omega)
def Jnr{c:UInt8}:c=95↔QbV c.toNat=4:=by
 have:=c.toNat_lt;rw[<- UInt8.toNat_inj];simp only[QbV,g3,g2,g1]
 show c.toNat=95↔_
 repeat' split
 all_goals omega
def Jld{c:UInt8}:c=34↔QbV c.toNat=5:=by
 have:=c.toNat_lt;rw[<- UInt8.toNat_inj];simp only[QbV,g3,g2,g1]
 show c.toNat=34↔_
 repeat' split
 all_goals omega
def Jns{c:UInt8}:Qdw c=true↔QbV c.toNat=2\/QbV c.toNat=3\/QbV c.toNat=4:=by
 rw[<- JgM,<- JgN,<- Jnr];simp[Qdw,or_assoc]
def JgO{l:By}{k:Nat}(h:∀c∈l.take k,Qdw c=true)(hn:(l.drop k).head?.map Qdw≠some true):QaS l=l.take k:=by
 have:=Jdw h hn
 rwa [List.take_append_drop]at this
theorem QiH{P:Prop}(h:P:=by
  go_wp2;go_quiet (fail);go_wp2;go_roundw
  case rel=>exact⟨k+1,_,by omega,by go_num,H,by first|rfl|(simp;rfl)⟩
  case measure=>simp[intOf];omega):P:=h
def Zz(l:By)(p:Nat)(w:World)(hC:Qdz w p)(hl:l.length<=281474976710656):Calls prog 129 #[Pt p,Sv l] w (QeB w (QaS l)):=by
 have hs:=JJ l;go_enter func129,ntmps129;go_wp2;go_loopw [5] (λv wr=>∃k n:Nat,k<=l.length/\v=Iv k/\Hi (∀c∈l.take k,Qdw c=true)/\wr=w.drewN n) λv _=>l.length-(intOf v).toNat
 case atStart=>exact⟨0,0,by omega,rfl,by unfold Hi;simp,rfl⟩
 case round=>
  obtain⟨k,n,hk,rfl,HA,rfl⟩:=hrel;have fin:Hi ((l.drop k).head?.map Qdw≠some true)->Hi (QaS l=l.take k):=λh=>JgO HA.o h.o
  have zA:(bs l).extract 0 k=bs (l.take k):=by rw[Va];simp
  by_cases hlt:k<l.length
  ·have d1:decide ((k:Int)<(l.length:Int))=true:=zG zo;have hg:=JlD l hlt;have hx:l[k].toNat<256:=l[k].toNat_lt;have xA:=hC _ hx;have HW:=Zh (Jns (c:=l[k]))
   have HN:Qdw l[k]=true->Hi (∀c∈l.take (k+1),Qdw c=true):=by
    intro h c hc;rw[List.take_succ_eq_append_getElem hlt,List.mem_append]at hc
    rcases hc with hc|hc
    ·exact HA.o c hc
    ·rw[List.mem_singleton]at hc;rw[hc];exact h
   have HF:Qdw l[k]=false->Hi ((l.drop k).head?.map Qdw≠some true):=by
    intro h;unfold Hi;rw[List.drop_eq_getElem_cons hlt,List.head?_cons,Option.map_some,h];simp
   obtain⟨x,yA⟩:∃x,l[k].toNat=x:=⟨_,rfl⟩
   rw[yA]at hg xA HW hx;clear yA
   by_cases h2:QbV x=2
   ·have H:=HN (HW.o.2 (.inl h2));rw[h2]at xA;clear HN HF fin h2 HW hC;exact QiH
   ·by_cases h3:QbV x=3
    ·have H:=HN (HW.o.2 (.inr (.inl h3)));rw[h3]at xA;clear HN HF fin h2 h3 HW hC;exact QiH
    ·by_cases h4:QbV x=4
     ·have H:=HN (HW.o.2 (.inr (.inr h4)));rw[h4]at xA;clear HN HF fin h2 h3 h4 HW hC;exact QiH
     ·have hno:Qdw l[k]=false:=by
       cases h:Qdw l[k]with
       |false=>rfl
       |true=>rcases HW.o.1 h with h|h|h<;>contradiction
      have H:=fin (HF hno);generalize QbV x=cn at *;have e2:((cn:Int)==2)=false:=zM zo;have e3:((cn:Int)==3)=false:=zM zo;have e4:((cn:Int)==4)=false:=zM zo;clear HN HF fin h2 h3 h4 HW hC hno;go_wp2;go_quiet (fail);go_wp2;go_ret;exact⟨by rw[H.o];rfl,Ke zO _⟩
  ·have d1:decide ((k:Int)<(l.length:Int))=false:=zH zo;have H:=fin (by unfold Hi;rw[List.drop_eq_nil_of_le zo];simp);clear fin hC;go_wp2;go_quiet (fail);go_wp2;go_ret;exact⟨by rw[H.o];rfl,Ke zO _⟩
def Jjp:∀(k f:Nat) (l:By),(∀c∈l.take k,c≠34/\¬(c.toNat<32\/126<c.toNat\/c=92))->k<=l.length->k<=f->Qbt f l=(Qbt (f-k) (l.drop k)).map (l.take k++·):=by
 intro k
 induction k with
 |zero=>
  intro f l _ _ _;simp only[Nat.sub_zero,List.drop_zero,List.take_zero]
  cases Qbt f l<;>simp
 |succ k ih=>
  intro f l h hl hf
  cases l with
  |nil=>simp at hl
  |cons c r=>
   obtain⟨g,rfl⟩:∃g,f=g+1:=⟨f-1,by omega⟩
   have hc:=h c zq;simp only[Qbt];rw[if_neg hc.1,if_neg hc.2,ih g r (λd hd=>h d (by simp[hd])) (by simpa using hl) zo];rw[show g+1-(k+1)=g-k by omega];simp only[List.drop_succ_cons,List.take_succ_cons]
   cases Qbt (g-k) (r.drop k)<;>simp
def QeU(o:Option By)(w:World)(e:Ending)(w':World):Prop:=e=.returned (.tuple #[Sv (o.getD []),.bool o.isSome])/\w=w'
def Jdz(l:By)(w:World)(hl:l.length<=281474976710656):Calls prog 131 #[Sv l] w (QeU (Qbt 25 l) w):=by
 have hs:=JJ l;have aA:bs []=(⟨#[]⟩:ByteArray):=rfl;go_enter func131,ntmps131;go_wp2;go_loop [4] (λv=>∃k:Nat,k<=l.length/\k<=25/\v=Iv k/\Hi (∀c∈l.take k,c≠34/\¬(c.toNat<32\/126<c.toNat\/c=92))) λv=>l.length-(intOf v).toNat
 case atStart=>exact⟨0,by omega,by omega,rfl,by unfold Hi;simp⟩
 case round=>
  obtain⟨k,hk,vA,rfl,HA⟩:=hrel;have dA:(bs l).extract 0 k=bs (l.take k):=by rw[Va];simp
  have HT:=Zh (Jjp k 25 l HA.o hk vA);have xA:Hi (Qbt 25 l=none)->Hi (QeU (Qbt 25 l) w (.returned (.tuple #[Em,.bool false])) w):=λh=>⟨by rw[h.o];rfl,rfl⟩
  by_cases hlt:k<l.length
  ·have d1:decide ((k:Int)<(l.length:Int))=true:=zG zo
   by_cases hlt2:k<25
   ·have d2:decide ((k:Int)<=24)=true:=zG zo;have hg:=JlD l hlt;have hx:l[k].toNat<256:=l[k].toNat_lt
    have HD:Hi (Qbt 25 l=if l[k]=34 then some (l.take k) else if l[k].toNat<32\/126<l[k].toNat\/l[k]=92 then none else Qbt 25 l):=by
     unfold Hi;have h1:=HT.o;rw[List.drop_eq_getElem_cons hlt,show 25-k=(24-k)+1 by omega]at h1;simp only[Qbt]at h1;split
     ·rename_i hq;rw[if_pos hq]at h1;rw[h1];simp
     ·rename_i hq;rw[if_neg hq]at h1;split
      ·rename_i hb;rw[if_pos hb]at h1;rw[h1];rfl
      ·rfl
    have HN:l[k]≠34->¬(l[k].toNat<32\/126<l[k].toNat\/l[k]=92)->Hi (∀c∈l.take (k+1),c≠34/\¬(c.toNat<32\/126<c.toNat\/c=92)):=by
     intro h1 h2 c hc;rw[List.take_succ_eq_append_getElem hlt,List.mem_append]at hc
     rcases hc with hc|hc
     ·exact HA.o c hc
     ·rw[List.mem_singleton]at hc;rw[hc];exact⟨h1,h2⟩
    have zA:l[k]=34↔l[k].toNat=34:=⟨λh=>by rw[h];rfl,λh=>UInt8.toNat_inj.1 h⟩
    have uA:l[k]=92↔l[k].toNat=92:=⟨λh=>by rw[h];rfl,λh=>UInt8.toNat_inj.1 h⟩
    simp only[Ne,zA,uA]at HN HD;obtain⟨x,yA⟩:∃x,l[k].toNat=x:=⟨_,rfl⟩
    rw[yA]at hg HD HN hx;clear yA zA uA HT
    by_cases h34:x=34
    ·have H:Hi (Qbt 25 l=some (l.take k)):=by unfold Hi;rw[HD.o,if_pos h34]
     subst h34;clear HD HN xA;go_wp2;go_ret2;exact⟨by rw[H.o];rfl,rfl⟩
    ·have bA:((x:Int)==34)=false:=zM zo
     by_cases h32:x<32
     ·have H:Hi (Qbt 25 l=none):=by unfold Hi;rw[HD.o,if_neg h34,if_pos (.inl h32)]
      have b1:decide ((x:Int)<32)=true:=zG zo;clear HD HN xA h34 h32;go_wp2;go_ret2;exact⟨by rw[H.o];rfl,rfl⟩
     ·have b1:decide ((x:Int)<32)=false:=zH zo
      by_cases h126:126<x
      ·have H:Hi (Qbt 25 l=none):=by unfold Hi;rw[HD.o,if_neg h34,if_pos (.inr (.inl h126))]
       have b2:decide (126<(x:Int))=true:=zG zo;clear HD HN xA h34 h32 h126;go_wp2;go_ret2;exact⟨by rw[H.o];rfl,rfl⟩
      ·have b2:decide (126<(x:Int))=false:=zH zo
       by_cases h92:x=92
       ·have H:Hi (Qbt 25 l=none):=by unfold Hi;rw[HD.o,if_neg h34,if_pos (.inr (.inr h92))]
        subst h92;clear HD HN xA;go_wp2;go_ret2;exact⟨by rw[H.o];rfl,rfl⟩
       ·have cA:((x:Int)==92)=false:=zM zo;have H:=HN h34 zo;clear HD HN xA h34 h32 h126 h92;go_wp2;go_round
        case rel=>exact⟨k+1,by omega,by omega,by go_num,H⟩
        case measure=>simp[intOf];omega
   ·have d2:decide ((k:Int)<=24)=false:=zH zo;have H:Hi (Qbt 25 l=none):=by unfold Hi;rw[HT.o,show 25-k=0 by omega];rfl
    clear HT xA;go_wp2;go_ret2;exact⟨by rw[H.o];rfl,rfl⟩
  ·have d1:decide ((k:Int)<(l.length:Int))=false:=zH zo
   have H:Hi (Qbt 25 l=none):=by
    unfold Hi;rw[HT.o,List.drop_eq_nil_of_le zo]
    cases 25-k<;>rfl
   clear HT xA;go_wp2;go_ret2;exact⟨by rw[H.o];rfl,rfl⟩
def Qgx(l:By)(a b:UInt8):Lib.hasPrefix l [a,b]=decide (l.take 2=[a,b]):=by
 rw[<- Lib.hasPrefix_of_take]
 by_cases h:l.take 2=[a,b]
 ·have hl:2<=l.length:=by
   have:=congrArg List.length h;simp at this;omega
  simp[h,hl]
 ·have:(l.take 2==[a,b])=false:=by simpa using h
  simp only[List.length_cons,List.length_nil,this,Bool.and_false,h,decide_false]
def Jbp(l:By)(a b:UInt8)(w:World):Calls prog 156 #[Sv l,.string { data:=#[a,b] }] w (Qei (.bool (decide (l.take 2=[a,b]))) w):=by
 refine(Tryz.strings_HasPrefix (bs l) { data:=#[a,b] } w).mono ?_;rintro e w' ⟨rfl,rfl⟩;refine⟨?_,rfl⟩;rw[V5,<- Qgx]
def JlE(c:Nat)(hc:c<256)(w:World):Calls prog 157 #[.string { data:=#[40,41,44,58,61,60,62,43,45,42,47,37] },.int .u8 (c:Nat)] w (Qei (Iv (Lib.indexByte QcA c.toUInt8)) w):=by
 refine(Tryz.strings_IndexByte { data:=#[40,41,44,58,61,60,62,43,45,42,47,37] } (c:Nat) w).mono ?_;rintro e w' ⟨rfl,rfl⟩;exact⟨rfl,rfl⟩
def JlF(c:UInt8):0<=Lib.indexByte QcA c↔c∈QcA:=by
 have h:=Lib.contains_iff_indexByte QcA c;rw[Bool.eq_iff_iff,decide_eq_true_iff]at h;rw[<- h,List.contains_iff_mem]
theorem QhV{P:Prop}(h:P:=by
  generalize Lib.indexByte QcA c=z at *;clear hno hm HS;go_wp2_with fail;refine(hc _).mono ?_;rintro e w' ⟨rfl,rfl⟩;go_wp2;go_ret
  exact⟨by rw[HR.o];rfl,rfl⟩):P:=h
def JdA(c:UInt8)(r:By)(w:World)(hl:(c::r).length<=281474976710656):Calls prog 132 #[Sv (c::r)] w (Qei (Sv (Qbk (c::r))) w):=by
 obtain⟨l,hL⟩:∃l,l=c::r:=⟨_,rfl⟩
 have hg:∀h,((bs l)[0]'h).toNat=c.toNat:=by rw[hL];intro h;rfl
 have xA:l.length=r.length+1:=by rw[hL];rfl
 have uA:0<l.length:=zo;have vA:(bs l).extract 0 1=bs [c]:=by rw[Va,hL];simp
 have HS:Hi (Qbk l=if l.take 2∈Qea then l.take 2 else if c∈QcA then [c] else []):=by
  unfold Hi;rw[hL,Qbk];rw[if_neg (show ¬(c::r).head?=none by simp)];rfl
 rw[<- hL]at hl |-;have hs:=JJ l;clear hL xA;have hc:=JlE c.toNat c.toNat_lt;have zA:c.toNat.toUInt8=c:=zq;rw[zA]at hc;have HI:=Zh (JlF c);have i0:∀w,(Instr.index 178 (.agg #[.string { data:=#[61,61] },.string { data:=#[33,61] },.string { data:=#[60,61] },.string { data:=#[62,61] }]) (Iv 0)).run prog w=.ok (.string { data:=#[61,61] }) w:=λ_=>by kernel_rfl
 have i1:∀w,(Instr.index 178 (.agg #[.string { data:=#[61,61] },.string { data:=#[33,61] },.string { data:=#[60,61] },.string { data:=#[62,61] }]) (Iv 1)).run prog w=.ok (.string { data:=#[33,61] }) w:=λ_=>by kernel_rfl
 have i2:∀w,(Instr.index 178 (.agg #[.string { data:=#[61,61] },.string { data:=#[33,61] },.string { data:=#[60,61] },.string { data:=#[62,61] }]) (Iv 2)).run prog w=.ok (.string { data:=#[60,61] }) w:=λ_=>by kernel_rfl
 have i3:∀w,(Instr.index 178 (.agg #[.string { data:=#[61,61] },.string { data:=#[33,61] },.string { data:=#[60,61] },.string { data:=#[62,61] }]) (Iv 3)).run prog w=.ok (.string { data:=#[62,61] }) w:=λ_=>by kernel_rfl
 have b0:Hi ((⟨#[61,61]⟩:ByteArray)=bs [61,61]):=rfl;have b1:Hi ((⟨#[33,61]⟩:ByteArray)=bs [33,61]):=rfl;have b2:Hi ((⟨#[60,61]⟩:ByteArray)=bs [60,61]):=rfl;have b3:Hi ((⟨#[62,61]⟩:ByteArray)=bs [62,61]):=rfl;have b9:Hi ((⟨#[]⟩:ByteArray)=bs []):=rfl;generalize yA:c.toNat=x at *;have hx:x<256:=by rw[<- yA];exact c.toNat_lt
 clear yA zA;go_enter func132,ntmps132;go_wp2;go_loop [6,4] (λv _=>∃k:Nat,k<=4/\v=Iv k/\Hi ((0<k->l.take 2≠[61,61])/\(1<k->l.take 2≠[33,61])/\(2<k->l.take 2≠[60,61])/\(3<k->l.take 2≠[62,61]))) λv _=>4-(intOf v).toNat
 case atStart=>exact⟨0,by omega,rfl,by unfold Hi;refine⟨?_,?_,?_,?_⟩<;>(intro h;omega)⟩
 case round=>
  obtain⟨k,hk,rfl,HA⟩:=hrel
  by_cases hlt:k<4
  ·rcases (by omega:k=0\/k=1\/k=2\/k=3) with rfl|rfl|rfl|rfl
   ·go_wp2_with fail;refine(Jbp l 61 61 w).mono ?_
    by_cases h:l.take 2=[61,61]
    ·have HR:Hi (Qbk l=[61,61]):=by unfold Hi;rw[HS.o,if_pos (by rw[h];decide),h]
     have hd:decide (l.take 2=[61,61])=true:=zG h;rw[hd];rintro e w' ⟨rfl,rfl⟩;clear h hd;go_wp2;go_ret;exact⟨by rw[HR.o];unfold Sv;rw[<- b0.o];rfl,rfl⟩
    ·have H:Hi ((0<1->l.take 2≠[61,61])/\(1<1->l.take 2≠[33,61])/\(2<1->l.take 2≠[60,61])/\(3<1->l.take 2≠[62,61])):=⟨λ_=>h,by omega,by omega,by omega⟩
     have hd:decide (l.take 2=[61,61])=false:=zH h;rw[hd];rintro e w' ⟨rfl,rfl⟩;clear h hd;go_wp2;go_round
     case rel=>exact⟨1,by omega,rfl,H⟩
     case measure=>simp[intOf]
   ·go_wp2_with fail;refine(Jbp l 33 61 w).mono ?_
    by_cases h:l.take 2=[33,61]
    ·have HR:Hi (Qbk l=[33,61]):=by unfold Hi;rw[HS.o,if_pos (by rw[h];decide),h]
     have hd:decide (l.take 2=[33,61])=true:=zG h;rw[hd];rintro e w' ⟨rfl,rfl⟩;clear h hd;go_wp2;go_ret;exact⟨by rw[HR.o];unfold Sv;rw[<- b1.o];rfl,rfl⟩
    ·have H:Hi ((0<2->l.take 2≠[61,61])/\(1<2->l.take 2≠[33,61])/\(2<2->l.take 2≠[60,61])/\(3<2->l.take 2≠[62,61])):=⟨λ_=>HA.o.1 zo,λ_=>h,by omega,by omega⟩
     have hd:decide (l.take 2=[33,61])=false:=zH h;rw[hd];rintro e w' ⟨rfl,rfl⟩;clear h hd;go_wp2;go_round
     case rel=>exact⟨2,by omega,rfl,H⟩
     case measure=>simp[intOf]
   ·go_wp2_with fail;refine(Jbp l 60 61 w).mono ?_
    by_cases h:l.take 2=[60,61]
    ·have HR:Hi (Qbk l=[60,61]):=by unfold Hi;rw[HS.o,if_pos (by rw[h];decide),h]
     have hd:decide (l.take 2=[60,61])=true:=zG h;rw[hd];rintro e w' ⟨rfl,rfl⟩;clear h hd;go_wp2;go_ret;exact⟨by rw[HR.o];unfold Sv;rw[<- b2.o];rfl,rfl⟩
    ·have H:Hi ((0<3->l.take 2≠[61,61])/\(1<3->l.take 2≠[33,61])/\(2<3->l.take 2≠[60,61])/\(3<3->l.take 2≠[62,61])):=⟨λ_=>HA.o.1 zo,λ_=>HA.o.2.1 zo,λ_=>h,by omega⟩
     have hd:decide (l.take 2=[60,61])=false:=zH h;rw[hd];rintro e w' ⟨rfl,rfl⟩;clear h hd;go_wp2;go_round
     case rel=>exact⟨3,by omega,rfl,H⟩
     case measure=>simp[intOf]
   ·go_wp2_with fail;refine(Jbp l 62 61 w).mono ?_
    by_cases h:l.take 2=[62,61]
    ·have HR:Hi (Qbk l=[62,61]):=by unfold Hi;rw[HS.o,if_pos (by rw[h];decide),h]
     have hd:decide (l.take 2=[62,61])=true:=zG h;rw[hd];rintro e w' ⟨rfl,rfl⟩;clear h hd;go_wp2;go_ret;exact⟨by rw[HR.o];unfold Sv;rw[<- b3.o];rfl,rfl⟩
    ·have H:Hi ((0<4->l.take 2≠[61,61])/\(1<4->l.take 2≠[33,61])/\(2<4->l.take 2≠[60,61])/\(3<4->l.take 2≠[62,61])):=⟨λ_=>HA.o.1 zo,λ_=>HA.o.2.1 zo,λ_=>HA.o.2.2.1 zo,λ_=>h⟩
     have hd:decide (l.take 2=[62,61])=false:=zH h;rw[hd];rintro e w' ⟨rfl,rfl⟩;clear h hd;go_wp2;go_round
     case rel=>exact⟨4,by omega,rfl,H⟩
     case measure=>simp[intOf]
  ·obtain rfl:k=4:=zo
   have hno:l.take 2∉Qea:=by
    obtain⟨h1,h2,h3,h4⟩:=HA.o;simp[Qea];exact⟨h1 zo,h2 zo,h3 zo,h4 zo⟩
   by_cases hm:c∈QcA
   ·have HR:Hi (Qbk l=[c]):=by unfold Hi;rw[HS.o,if_neg hno,if_pos hm]
    have hd:decide (0<=Lib.indexByte QcA c)=true:=zG (HI.o.2 hm);exact QhV
   ·have HR:Hi (Qbk l=[]):=by unfold Hi;rw[HS.o,if_neg hno,if_neg hm]
    have hd:decide (0<=Lib.indexByte QcA c)=false:=zH λh=>hm (HI.o.1 h);exact QhV
end Go.Proofs.YtfafpklefknomaaGreatDoor
