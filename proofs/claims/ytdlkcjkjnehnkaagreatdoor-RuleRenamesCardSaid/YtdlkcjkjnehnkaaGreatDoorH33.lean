import Derived.Test.YtdlkcjkjnehnkaaGreatDoorH30
open List(append_nil)
namespace Go.Proofs.YtdlkcjkjnehnkaaGreatDoor
open Go Go.ChangeShapes Go.WideShapes Go.ChangeAt Go.RowKit Go.Lib
open _root_.Go.Proofs.Tryz
set_option linter.all false
set_option maxRecDepth 100000
set_option maxHeartbeats 32000000
theorem JiB(B b:Nat)(fv:Value)(l:List UInt8)(w:World)(h:WrI B b fv l w)(h0:l≠[])(hlen:l.length<=140737488355328) :
  Calls prog 33 #[.pointer (some ⟨b,0,none⟩)] w fun e w'=>e=.returned (.string (bs l))/\Below B w w':=by
 obtain⟨p,hB,v,hbk,hown,hne⟩:=h.some;have hl0:l.length≠0:=by simpa using h0
 obtain⟨g,cap,cur,rfl,hbg,hg,hnc,hcm,hcs,htake⟩:∃ g cap cur,v=.slice (some ⟨g,0,none⟩) l.length cap/\B<=g/\w.heap[g]?=some (.cells cur 5 (0,0))/\l.length<=cap/\cap<=maxLen/\cur.size=cap*1/\cur.toList.take (l.length*1)=Lib.byteCells l:=by
  rcases hown.2 with⟨_,hz⟩|⟨g,cap,cur,hv,r⟩
  ·exact absurd hz hl0
  ·exact⟨g,cap,cur,hv,r⟩
 have c1:w.drew.cell? ⟨b,1,none⟩=some (.slice (some ⟨g,0,none⟩) l.length cap):=by
  have:w.drew.heap[b]?=some (.cells #[p,.slice (some ⟨g,0,none⟩) l.length cap,fv] 66 (0,0)):=hbk;rw[Ja this];rfl
 have hSD:(Builtin.unsafeSliceData_ #[62] 111 #[.slice (some ⟨g,0,none⟩) l.length cap]).run prog w.drew=.ok (.pointer (some ⟨g,0,none⟩)) w.drew:=
  Lib.run_unsafeSliceData_row _ _ _ _ _ _ (by omega)
 have hUS:(Builtin.unsafeString_ #[111,3] 9 #[.pointer (some ⟨g,0,none⟩),.int .i64 l.length]).run prog w.drew=.ok (.string (bs l)) (w.drew.freeze ⟨g,0,none⟩ l.length):=by
  refine Lib.run_unsafeString_row w.drew 111 3 9 5 underlying111 (by kernel_rfl) g cur.size (by have hg':w.drew.heap[g]?=some (.cells cur 5 (0,0)):=hg;simp[World.shape?,hg']) l h0 (by omega) (by unfold maxLen at hcm;omega) ?_;intro j x hx;have:=hown.cells (g:=g) rfl j (.int .u8 x.toNat) (by simp[Lib.byteCells,hx]);exact this
 go_enter func33,ntmps33;go_wp2;go_region
 all_goals (go_wp2;go_ret;exact⟨rfl,Lib.below_freeze (Below.drew (Below.refl B w)) (p:=⟨g,0,none⟩) hbg _⟩)
def Qiz(k:Int):List UInt8:=if k=8 then [32,43,32] else if k=9 then [32,45,32] else if k=10 then [32,42,32] else if k=11 then [32,47,32] else if k=12 then [32,37,32] else if k=13 then [32,60,32] else if k=14 then [32,60,61,32] else if k=15 then [32,61,61,32] else if k=16 then [32,97,110,100,32] else [32,111,114,32]
theorem JeI(k:Int)(w:World)(hk:bin k):Calls prog 90 #[.int .i64 k] w (Qcm (.string (bs (Qiz k))) w):=by
 rcases hk with rfl|rfl|rfl|rfl|rfl|rfl|rfl|rfl|rfl|rfl
 ·go_enter func90,ntmps90;go_wp2;go_ret;exact⟨rfl,rfl⟩
 ·go_enter func90,ntmps90;go_wp2;go_ret;exact⟨rfl,rfl⟩
 ·go_enter func90,ntmps90;go_wp2;go_ret;exact⟨rfl,rfl⟩
 ·go_enter func90,ntmps90;go_wp2;go_ret;exact⟨rfl,rfl⟩
 ·go_enter func90,ntmps90;go_wp2;go_ret;exact⟨rfl,rfl⟩
 ·go_enter func90,ntmps90;go_wp2;go_ret;exact⟨rfl,rfl⟩
 ·go_enter func90,ntmps90;go_wp2;go_ret;exact⟨rfl,rfl⟩
 ·go_enter func90,ntmps90;go_wp2;go_ret;exact⟨rfl,rfl⟩
 ·go_enter func90,ntmps90;go_wp2;go_ret;exact⟨rfl,rfl⟩
 ·go_enter func90,ntmps90;go_wp2;go_ret;exact⟨rfl,rfl⟩
theorem QeX{P:Prop}(h:P:=by
  go_enter func59,ntmps59;go_wp2;go_ret
  exact⟨rfl,zzb.alloc zzl _⟩):P:=h
theorem Zp(k n:Int)(s:List UInt8)(l:List Exp)(c:Array Value)(W:World)(hx:XAt W (In W) (.mk k n s l) c)(h7:k=7->∃ a,l=[a]):Calls prog 59 #[.agg c] W (Qck W (.int .i64 (lvE (.mk k n s l)))):=by
 have hb1:Below W.heap.size W (W.alloc (.cells c 30)):=zzb.alloc zzl _;have hx1:=hx.up hb1;obtain⟨ad,cc,rfl,_,_⟩:=hx.kid
 by_cases e18:k=18
 ·subst e18;rw[show lvE (.mk 18 n s l)=0 from by rw[Js];rfl];clear hx hx1 hb1 h7;exact QeX
 by_cases e19:k=19
 ·subst e19;rw[show lvE (.mk 19 n s l)=0 from by rw[Js];rfl];clear hx hx1 hb1 h7;exact QeX
 by_cases e17:k=17
 ·subst e17;rw[show lvE (.mk 17 n s l)=1 from by rw[Js];rfl];clear hx hx1 hb1 h7;exact QeX
 by_cases e16:k=16
 ·subst e16;rw[show lvE (.mk 16 n s l)=2 from by rw[Js];rfl];clear hx hx1 hb1 h7;exact QeX
 by_cases e13:k=13
 ·subst e13;rw[show lvE (.mk 13 n s l)=4 from by rw[Js];rfl];clear hx hx1 hb1 h7;exact QeX
 by_cases e14:k=14
 ·subst e14;rw[show lvE (.mk 14 n s l)=4 from by rw[Js];rfl];clear hx hx1 hb1 h7;exact QeX
 by_cases e15:k=15
 ·subst e15;rw[show lvE (.mk 15 n s l)=4 from by rw[Js];rfl];clear hx hx1 hb1 h7;exact QeX
 by_cases e8:k=8
 ·subst e8;rw[show lvE (.mk 8 n s l)=5 from by rw[Js];rfl];clear hx hx1 hb1 h7;exact QeX
 by_cases e9:k=9
 ·subst e9;rw[show lvE (.mk 9 n s l)=5 from by rw[Js];rfl];clear hx hx1 hb1 h7;exact QeX
 by_cases e10:k=10
 ·subst e10;rw[show lvE (.mk 10 n s l)=6 from by rw[Js];rfl];clear hx hx1 hb1 h7;exact QeX
 by_cases e11:k=11
 ·subst e11;rw[show lvE (.mk 11 n s l)=6 from by rw[Js];rfl];clear hx hx1 hb1 h7;exact QeX
 by_cases e12:k=12
 ·subst e12;rw[show lvE (.mk 12 n s l)=6 from by rw[Js];rfl];clear hx hx1 hb1 h7;exact QeX
 by_cases e6:k=6
 ·subst e6;rw[show lvE (.mk 6 n s l)=7 from by rw[Js];rfl];clear hx hx1 hb1 h7;exact QeX
 by_cases e7:k=7
 ·subst e7;obtain⟨a,rfl⟩:=h7 rfl;rw[show lvE (.mk 7 n s [a])=if a.kind=15 then 4 else 3 from by rw[Js];rfl];obtain⟨ad1,cc1,e1,_,hK⟩:=hx1.kid;obtain⟨b,o,rfl,hbq,hk⟩:=hK (by simp);obtain⟨d,hd,hcell⟩:=hk 0 a rfl;obtain⟨xa,xc,rfl,_⟩:=hd.form;obtain rfl:ad=some ⟨b,o,none⟩:=by injection e1 with e1;injection e1 with _ e1;injection e1 with _ e1;injection e1 with _ e1;injection e1 with e1 _;injection e1
  have hc0:=hcell 0 _ rfl;simp only[Nat.zero_mul,Nat.add_zero,List.length_cons,List.length_nil,Nat.zero_add]at hc0;generalize a.kind=ak at *;clear hx hx1 hb1 h7 hK hk hd hcell e1
  by_cases e15:ak=15
  ·have q1:(ak==15)=true:=beq_iff_eq.2 e15;rw[if_pos e15];clear e15;exact QeX
  ·have q1:(ak==15)=false:=zzq e15;rw[if_neg e15];clear e15;exact QeX
 rw[show lvE (.mk k n s l)=8 from by rw[Js,if_neg (by omega),if_neg e17,if_neg e16,if_neg e7,if_neg (by omega),if_neg (by omega),if_neg (by omega),if_neg e6]];have q18:(k==18)=false:=zzq e18;have q19:(k==19)=false:=zzq e19;have q17:(k==17)=false:=zzq e17;have q16:(k==16)=false:=zzq e16;have q13:(k==13)=false:=zzq e13;have q14:(k==14)=false:=zzq e14;have q15:(k==15)=false:=zzq e15;have q8:(k==8)=false:=zzq e8;have q9:(k==9)=false:=zzq e9;have q10:(k==10)=false:=zzq e10;have q11:(k==11)=false:=zzq e11;have q12:(k==12)=false:=zzq e12;have q6:(k==6)=false:=zzq e6;have q7:(k==7)=false:=zzq e7;clear hx hx1 hb1 h7 e18 e19 e17 e16 e13 e14 e15 e8 e9 e10 e11 e12 e6 e7;exact QeX
theorem QmK(B b:Nat)(fv:Value)(l:List UInt8)(L:List (List UInt8))(cs:Array Value)(n c:Nat)(w:World)(h:WrI B b fv l w)(hcs:∀ (i:Nat) (s:List UInt8),L[i]?=some s->cs[i]?=some (Value.string (bs s)))(hn:L.length=n)
  (hlen:l.length+L.flatten.length<=140737488355328) (hBw:B<=w.heap.size) (hc:n<=100) :
  Calls prog 28 #[.pointer (some ⟨b,0,none⟩),.slice (some ⟨w.heap.size,0,none⟩) n c] (w.alloc (.cells cs 9)) fun e w'=>e=.returned (.tuple #[])/\WS B b fv l L.flatten w w':=by
 subst hn;have hb:Below w.heap.size w (w.alloc (.cells cs 9)):=zzb.alloc zzl _;have hz:=zzw w (.cells cs 9);refine(Jcg B b fv l w.heap.size c L _ (h.up hb) ⟨cs,_,hz,hcs⟩ (fun e=>by have:=h.lt;omega) hlen (by simp;omega) hc).mono ?_;rintro e w' ⟨rfl,hs⟩;exact⟨rfl,hs.wr,((Below.refl B w).alloc hBw _).trans hs.bel,((OthersKept.refl _ _ w).alloc _).trans hs.oth⟩
theorem Qhe(x:Tok)(l:List It):Qae (.t x::l)=wr x++Qae l:=rfl
theorem Qht(c:UInt8)(l:List It):Qae (.s c::l)=[c]++Qae l:=rfl
theorem Zq:Qae []=[]:=rfl
theorem Qhr(s:List UInt8):wr (tW s)=s:=rfl
theorem Qlc(s:List UInt8):wr (tT s)=[34]++(s++[34]):=rfl
theorem Qib(s:List UInt8):wr (tS s)=s:=rfl
theorem JlD(fn:Int->List UInt8)(n:Int)(s:List UInt8)(l:List Exp):Qae (iB fn false (.mk 0 n s l))=itoa n:=by rw[JM];exact append_nil _
theorem JgF(fn:Int->List UInt8)(n:Int)(s:List UInt8)(l:List Exp):Qae (iB fn false (.mk 1 n s l))=if n=0 then QbA else Qcf:=by rw[JM];exact append_nil _
theorem JlE(fn:Int->List UInt8)(n:Int)(s:List UInt8)(l:List Exp):Qae (iB fn false (.mk 2 n s l))=[118]++itoa n:=by rw[JM];exact append_nil _
theorem JkF(fn:Int->List UInt8)(n:Int)(s:List UInt8)(l:List Exp):Qae (iB fn false (.mk 3 n s l))=s:=by rw[JM];exact append_nil _
theorem JiC(fn:Int->List UInt8)(n:Int)(s:List UInt8)(l:List Exp):Qae (iB fn false (.mk 4 n s l))=[108,97,98,101,108,40,34]++(s++[34,41]):=by
 rw[JM];change wr (tW QbW)++(wr (tS [40])++(wr (tT s)++(wr (tS [41])++[])))=_;simp[Qhr,Qib,Qlc,QbW]
theorem JkG(fn:Int->List UInt8)(n:Int)(s:List UInt8)(l:List Exp):Qae (iB fn false (.mk 5 n s l))=[119,111,114,100,40,34]++(s++[34,41]):=by
 rw[JM];change wr (tW QcX)++(wr (tS [40])++(wr (tT s)++(wr (tS [41])++[])))=_;simp[Qhr,Qib,Qlc,QcX]
theorem JlF(fn:Int->List UInt8)(n:Int)(s:List UInt8)(a:Exp):Qae (iB fn false (.mk 6 n s [a]))=[45]++Qae (iX fn 7 a):=by rw[JM];rfl
theorem JlG(fn:Int->List UInt8)(n:Int)(s:List UInt8)(a:Exp)(h:a.kind≠15):Qae (iB fn false (.mk 7 n s [a]))=[110,111,116,32]++Qae (iX fn 3 a):=by
 have e1:iB fn false (.mk 7 n s [a])=if a.kind=15 then iB fn true a else .t (tW Qfn)::.s 32::par (decide (lvE a<3)) (iB fn false a):=by rw[JM];rfl
 rw[e1,if_neg h];rfl
theorem JlH(ne:Bool){k:Int}(hk:bin k)(x:List It):Qae (.s 32::.t (QkJ ne k)::.s 32::x)=(if k=15/\ne=true then [32,33,61,32] else Qiz k)++Qae x:=by
 rcases hk with rfl|rfl|rfl|rfl|rfl|rfl|rfl|rfl|rfl|rfl<;>cases ne<;>rfl
theorem Jjk(fn:Int->List UInt8)(ne:Bool){k:Int}(hk:bin k)(n:Int)(s:List UInt8)(a b:Exp):Qae (iB fn ne (.mk k n s [a,b])) =
  Qae (iX fn (Qdw (lvE (.mk k n s [a,b]))) a)++((if k=15/\ne=true then [32,33,61,32] else Qiz k)++Qae (iX fn (lvE (.mk k n s [a,b])+1) b)):=by
 rw[Jdn fn ne hk,J5,JlH ne hk];rfl
theorem JmC(fn:Int->List UInt8)(n m:Int)(s t:List UInt8)(a b:Exp):Qae (iB fn false (.mk 7 n s [.mk 15 m t [a,b]]))=Qae (iX fn 5 a)++([32,33,61,32]++Qae (iX fn 5 b)):=by
 have e1:iB fn false (.mk 7 n s [.mk 15 m t [a,b]])=iB fn true (.mk 15 m t [a,b]):=by rw[JM];rfl
 rw[e1,Jjk fn true (by unfold bin;omega)];rw[show lvE (.mk 15 m t [a,b])=4 from by rw[Js];rfl];rfl
theorem ix0(fn:Int->List UInt8)(a:Exp):iX fn 0 a=iB fn false a:=by
 unfold iX;rw[decide_eq_false (Nat.not_lt_zero _)];rfl
theorem JmD(fn:Int->List UInt8)(n:Int)(s:List UInt8)(c a b:Exp):Qae (iB fn false (.mk 18 n s [c,a,b]))=[105,102,32]++(Qae (iX fn 0 c)++([32,116,104,101,110,32]++(Qae (iX fn 0 a)++([32,101,108,115,101,32]++Qae (iX fn 0 b))))):=by
 simp only[ix0];rw[JM];change Qae (.t (tW kIf)::.s 32::(iB fn false c++.s 32::.t (tW QbJ)::.s 32::(iB fn false a++.s 32::.t (tW QdP)::.s 32::iB fn false b)))=_;simp only[Qhe,Qht,J5,Qhr];simp[kIf,QbJ,QdP]
theorem JlI(fn:Int->List UInt8)(n:Int)(s:List UInt8)(a b:Exp):Qae (iB fn false (.mk 19 n s [a,b]))=[108,101,116,32,118]++(itoa n++([32,61,32]++(Qae (iX fn 0 a)++([32,105,110,32]++Qae (iX fn 0 b))))):=by
 simp only[ix0];rw[JM];change Qae (.t (tW QeN)::.s 32::.t (tW (vn n))::.s 32::.t (tS [61])::.s 32::(iB fn false a++.s 32::.t (tW kIn)::.s 32::iB fn false b))=_;simp only[Qhe,Qht,J5,Qhr,Qib];simp[QeN,kIn,vn]
theorem JkH(fn:Int->List UInt8)(n:Int)(s:List UInt8)(l:List Exp):Qae (iB fn false (.mk 20 n s l))=fn n++([40]++(Qae (iA fn l)++[41])):=by
 rw[JM];change Qae (.t (tW (fn n))::.t (tS [40])::(iA fn l++[.t (tS [41])]))=_;simp only[Qhe,Qht,J5,Qhr,Qib,Zq,append_nil]
theorem JmE(fn:Int->List UInt8)(lv:Nat)(e:Exp)(h:lvE e<lv):Qae (iX fn lv e)=[40]++(Qae (iB fn false e)++[41]):=by
 unfold iX;rw[decide_eq_true h];change Qae (.t (tS [40])::(iB fn false e++[.t (tS [41])]))=_;simp only[Qhe,J5,Qib,Zq,append_nil]
theorem JlJ(fn:Int->List UInt8)(lv:Nat)(e:Exp)(h:¬ lvE e<lv):Qae (iX fn lv e)=Qae (iB fn false e):=by
 unfold iX;rw[decide_eq_false h];rfl
def Qcq:List (Tmp × Value)->Array Value->Array Value
 |[],T=>T
 |(d,v)::r,T=>Qcq r (T.setIfInBounds d v)
theorem Jad:∀ (l:List (Tmp × Value)) (T:Array Value),(Qcq l T).size=T.size
 |[],T=>rfl
 |(d,v)::r,T=>(Jad r _).trans (by simp)
theorem Zr:∀ (l:List (Tmp × Value)) (T:Array Value) (t:Nat),(∀ p∈l,p.1≠t)->(Qcq l T).getD t undef=T.getD t undef
 |[],T,t,_=>rfl
 |(d,v)::r,T,t,h=>by
  have hd:d≠t:=h (d,v) (by simp);rw[Qcq,Zr r _ t (fun p hp=>h p (List.mem_cons_of_mem _ hp))];simp[Array.getElem?_setIfInBounds_ne hd]
theorem JbH:∀ (l:List (Tmp × Value)) (T:Array Value) (d:Tmp) (v:Value),(l.map (·.1)).Nodup->(d,v)∈l->d<T.size->(Qcq l T).getD d undef=v
 |(d',v')::r,T,d,v,hn,hm,hs=>by
  rw[List.map_cons,List.nodup_cons]at hn
  rcases List.mem_cons.1 hm with h|h
  ·injection h with h1 h2;subst h1 h2;rw[Qcq,Zr r _ d (fun p hp e=>hn.1 (by have:=List.mem_map_of_mem (f:=fun x:Tmp × Value=>x.1) hp;rw[e]at this;exact this))];simp[hs]
  ·rw[Qcq];exact JbH r _ d v hn.2 h (by simpa using hs)
def Qbj(ops:Array Oper)(i:Nat):Option Tmp:=(ops[i]?).bind (·.dst)
def Qdc:Value->Option Nat
 |.pointer (some ⟨b,0,none⟩)=>some b
 |_=>none
def Qfk(l:Array Bool):Nat->Nat
 |0=>0
 |n+1=>Qfk l n+if l.getD n false=true then 0 else 1
theorem K7{l:Array Bool}{i:Nat}(h:i<l.size):(l.setIfInBounds i true).getD i false=true:=by simp[h]
theorem JdT{l:Array Bool}{i:Nat}(hi:i<l.size)(h0:l.getD i false=false):∀ n,Qfk (l.setIfInBounds i true) n+(if i<n then 1 else 0)=Qfk l n
 |0=>by simp[Qfk]
 |n+1=>by
  have ih:=JdT hi h0 n;unfold Qfk
  by_cases e:i=n
  ·subst e;rw[K7 hi,h0];simp at ih |-;exact ih
  ·rw[getD_set_ne false e];have e2:(i<n+1)=(i<n):=propext ⟨fun h=>by omega,fun h=>by omega⟩;simp only[e2];generalize (if i<n then 1 else 0)=x at *;generalize (if l.getD n false=true then 0 else 1)=y at *;omega
theorem YJ{l:Array Bool}:∀ n,Qfk l n=0->∀ i,i<n->l.getD i false=true
 |n+1,h,i,hi=>by
  unfold Qfk at h
  by_cases e:i=n
  ·subst e
   by_cases hl:l.getD i false=true
   ·exact hl
   ·rw[if_neg hl]at h;omega
  ·exact YJ n (by omega) i (by omega)
theorem JbI{l:Array Bool}:∀ n,Qfk l n≠0->∃ i,i<n/\l.getD i false=false/\∀ j,j<i->l.getD j false=true
 |0,h=>absurd rfl h
 |n+1,h=>by
  by_cases e:Qfk l n=0
  ·refine⟨n,Nat.lt_succ_self _,?_,YJ n e⟩;unfold Qfk at h
   cases hl:l.getD n false with
   |false=>rfl
   |true=>rw[e,if_pos hl]at h;exact absurd rfl h
  ·obtain⟨i,h1,h2,h3⟩:=JbI n e;exact⟨i,by omega,h2,h3⟩
structure Qeo(ops:Array Oper)(N:Nat)(a0:Act)(l:Array Bool)(vs:Nat->Value)(a:Act):Prop where
 dfr:a.defers=a0.defers
 siz:a.tmps.size=a0.tmps.size
 val:∀ i d,i<N->Qbj ops i=some d->l.getD i false=true->a.tmps.getD d undef=vs i
 old:∀ t,(∀ i,i<N->l.getD i false=true->Qbj ops i≠some t)->a.tmps.getD t undef=a0.tmps.getD t undef
def QkD(J:List Nat)(l:Array Bool)(vs:Nat->Value)(w:World)(q:Nat):Prop:=q<w.heap.size/\∀ j∈J,l.getD j false=true->Qdc (vs j)≠some q
structure QkE(n0:Nat)(N:Nat)(J:List Nat)(rel:Nat->Value->(Nat->Prop)->World->Prop)(base:World->Prop)(l:Array Bool)(vs:Nat->Value)(w:World):Prop where
 bas:base w
 low:n0<=w.heap.size
 ptr:∀ j∈J,l.getD j false=true->∃ b,vs j=.pointer (some ⟨b,0,none⟩)/\n0<=b/\b<w.heap.size
 dis:∀ j∈J,∀ k∈J,l.getD j false=true->l.getD k false=true->j≠k->Qdc (vs j)≠Qdc (vs k)
 rls:∀ i,i<N->l.getD i false=true->rel i (vs i) (QkD J l vs w) w
def upd(vs:Nat->Value)(i:Nat)(v:Value):Nat->Value:=fun j=>if j=i then v else vs j
def Qbk(ops:Array Oper)(N:Nat)(vs:Nat->Value):List (Tmp × Value):=(List.range N).filterMap fun i=>(Qbj ops i).map fun d=>(d,vs i)
def Qjb(md:Region.Mode)(ops:Array Oper)(z i:Nat):Bool:=match ops[z]? with|some o=>o.after.any fun e=>Region.binds md e&&e.on==i|none=>false
theorem JbJ{md:Region.Mode}{ops:Array Oper}{z i:Nat}(h:Qjb md ops z i=true):∃ o,ops[z]?=some o/\∃ e∈o.after,Region.binds md e=true/\e.on=i:=by
 unfold Qjb at h
 cases ho:ops[z]? with
 |none=>rw[ho]at h;cases h
 |some o=>
  rw[ho]at h;obtain⟨e,he,hb⟩:=Array.any_eq_true'.1 h;simp only[Bool.and_eq_true,beq_iff_eq]at hb;exact⟨o,rfl,e,he,hb.1,hb.2⟩
def okR(md:Region.Mode)(ops:Array Oper)(N:Nat)(n:Nat):Bool:=
 decide (N<=ops.size)&&(List.range ops.size).all (fun z=>decide (z<N)||(List.range N).all fun i=>Qjb md ops z i||(List.range N).any fun k=>decide (i<k)&&Qjb md ops k i) &&
 (List.range N).all (fun i=>match ops[i]? with|some o=>o.after.all fun e=>!Region.binds md e||decide (e.on<i)|none=>false) &&
 decide (((List.range N).filterMap (Qbj ops)).Nodup)&&((List.range N).filterMap (Qbj ops)).all (fun d=>decide (d<n)) &&
 (List.range N).all fun i=>(List.range N).all fun j=>decide (i=j\/Qbj ops i=none\/Qbj ops i≠Qbj ops j)
def QhM(ops:Array Oper)(N:Nat):Array Bool:=Array.replicate N true++Array.replicate (ops.size-N) false
structure OkR(md:Region.Mode)(ops:Array Oper)(N:Nat)(n:Nat):Prop where
 le:N<=ops.size
 late:∀ z,N<=z->z<ops.size->∀ i,i<N->Qjb md ops z i=true\/∃ k,i<k/\k<N/\Qjb md ops k i=true
 down:∀ i,i<N->∃ o,ops[i]?=some o/\∀ e∈o.after,Region.binds md e=true->e.on<i
 nodup:((List.range N).filterMap (Qbj ops)).Nodup
 bnd:∀ i d,i<N->Qbj ops i=some d->d<n
 inj:∀ i j d,i<N->j<N->i≠j->Qbj ops i=some d->Qbj ops j≠some d
theorem JdU{md:Region.Mode}{ops:Array Oper}{N n:Nat}(h:okR md ops N n=true):OkR md ops N n:=by
 unfold okR at h;simp only[Bool.and_eq_true,decide_eq_true_eq,List.all_eq_true,List.mem_range,Bool.or_eq_true]at h;obtain⟨⟨⟨⟨⟨h1,h2⟩,h3⟩,h4⟩,h5⟩,h6⟩:=h;refine⟨h1,fun z hz hzs i hi=>?_,fun i hi=>?_,h4,fun i d hi hd=>?_,fun i j d hi hj hne hd he=>?_⟩
 ·rcases h2 z hzs with h|h
  ·omega
  ·rcases h i hi with h|h
   ·exact .inl h
   ·obtain⟨k,hk,hk2⟩:=List.any_eq_true.1 h;rw[Bool.and_eq_true,decide_eq_true_eq]at hk2;exact .inr ⟨k,hk2.1,List.mem_range.1 hk,hk2.2⟩
 ·have:=h3 i hi
  cases ho:ops[i]? with
  |none=>rw[ho]at this;cases this
  |some o=>
   rw[ho]at this;refine⟨o,rfl,fun e he hb=>?_⟩;have:=Array.all_eq_true'.1 this e he;simp only[Bool.or_eq_true,Bool.not_eq_true',decide_eq_true_eq]at this
   rcases this with h|h
   ·rw[hb]at h;cases h
   ·exact h
 ·exact h5 d (List.mem_filterMap.2 ⟨i,List.mem_range.2 hi,hd⟩)
 ·rcases h6 i hi j hj with h|h|h
  ·exact hne h
  ·rw[hd]at h;cases h
  ·exact h (hd.trans he.symm)
section
variable {P:Program} {ops:Array Oper} {Q:Exit->Act->World->Prop} {md:Region.Mode}
theorem QkE.step{n0 N:Nat}{J:List Nat}{rel:Nat->Value->(Nat->Prop)->World->Prop}{base:World->Prop}{l:Array Bool}{vs:Nat->Value}{w w':World}{i:Nat}{v:Value}(hbase:∀ w w',base w->Below w.heap.size w w'->base w')
  (hrel:∀ i v P P' w w',(∀ q,P q->q<w.heap.size)->rel i v P w->Below w.heap.size w w'->(∀ q,P q->P' q)->rel i v P' w')
  (h:QkE n0 N J rel base l vs w) (hi:i<l.size) (h0:l.getD i false=false) (hb:Below w.heap.size w w')
  (hv:∀ P',(∀ q,QkD J l vs w q->P' q)->(i∉J->∀ q,w.heap.size<=q->q<w'.heap.size->P' q)->rel i v P' w')
  (hj:i∈J->∃ b,v=.pointer (some ⟨b,0,none⟩)/\w.heap.size<=b/\b<w'.heap.size):QkE n0 N J rel base (l.setIfInBounds i true) (upd vs i v) w':=by
 have hl:∀ j,j≠i->(l.setIfInBounds i true).getD j false=l.getD j false:=fun j e=>getD_set_ne false (Ne.symm e)
 have hu:∀ j,j≠i->upd vs i v j=vs j:=fun j e=>if_neg e
 have hui:upd vs i v i=v:=if_pos rfl;have hsz:=hb.size
 have hP:∀ q,QkD J l vs w q->QkD J (l.setIfInBounds i true) (upd vs i v) w' q:=fun q hq=>by
  refine⟨Nat.lt_of_lt_of_le hq.1 hsz,fun j hjj hl'=>?_⟩
  by_cases e:j=i
  ·subst e;obtain⟨b,rfl,h1,_⟩:=hj hjj;rw[hui];intro h2;have h3:b=q:=by simpa[Qdc] using h2
   have:=hq.1;omega
  ·rw[hu j e];rw[hl j e]at hl';exact hq.2 j hjj hl'
 refine⟨hbase _ _ h.bas hb,Nat.le_trans h.low hsz,fun j hjj hl'=>?_,fun j hjj k hkk hlj hlk hne=>?_,fun j hjN hl'=>?_⟩
 ·by_cases e:j=i
  ·subst e;obtain⟨b,h1,_,h3⟩:=hj hjj;exact⟨b,by rw[hui];exact h1,by have:=h.low;omega,h3⟩
  ·rw[hl j e]at hl';obtain⟨b,h1,h1',h2⟩:=h.ptr j hjj hl';exact⟨b,by rw[hu j e];exact h1,h1',Nat.lt_of_lt_of_le h2 hsz⟩
 ·by_cases e:j=i
  ·have ek:k≠i:=fun h=>hne (e.trans h.symm)
   subst e;obtain⟨b,rfl,h1,_⟩:=hj hjj;rw[hl k ek]at hlk;obtain⟨b',h3,_,h4⟩:=h.ptr k hkk hlk;rw[hui,hu k ek,h3];intro h5;have:b=b':=by simpa[Qdc] using h5
   omega
  ·by_cases ek:k=i
   ·subst ek;obtain⟨b,rfl,h1,_⟩:=hj hkk;rw[hl j e]at hlj;obtain⟨b',h3,_,h4⟩:=h.ptr j hjj hlj;rw[hui,hu j e,h3];intro h5;have:b'=b:=by simpa[Qdc] using h5
    omega
   ·rw[hl j e]at hlj;rw[hl k ek]at hlk;rw[hu j e,hu k ek];exact h.dis j hjj k hkk hlj hlk hne
 ·by_cases e:j=i
  ·subst e;rw[hui];refine hv _ hP (fun hnj q h1 h2=>⟨h2,fun k hkk hlk=>?_⟩);have ek:k≠j:=fun h=>hnj (h ▸ hkk)
   rw[hl k ek]at hlk;obtain⟨b,h3,_,h4⟩:=h.ptr k hkk hlk;rw[hu k ek,h3];intro h5;have:b=q:=by simpa[Qdc] using h5
   omega
  ·rw[hl j e]at hl';rw[hu j e];exact hrel j _ _ _ _ _ (fun q hq=>hq.1) (h.rls j hjN hl') hb hP
theorem Qeo.put{N:Nat}{a0 a:Act}{l:Array Bool}{vs:Nat->Value}{i:Nat}{v:Value}(hk:OkR md ops N a0.tmps.size)(h:Qeo ops N a0 l vs a)(hi:i<N)(hl:i<l.size):Qeo ops N a0 (l.setIfInBounds i true) (upd vs i v) (a.put (Qbj ops i) v):=by
 have hlj:∀ j,j≠i->(l.setIfInBounds i true).getD j false=l.getD j false:=fun j e=>getD_set_ne false (Ne.symm e)
 have hget:∀ t,Qbj ops i≠some t->(a.put (Qbj ops i) v).tmps.getD t undef=a.tmps.getD t undef:=fun t ht=>by
  cases hd:Qbj ops i with
  |none=>rfl
  |some d=>
   have:d≠t:=fun e=>ht (by rw[hd,e])
   simp[Act.put,Array.getElem?_setIfInBounds_ne this]
 refine⟨?_,?_,fun j d hj hd hlt=>?_,fun t ht=>?_⟩
 ·cases hd:Qbj ops i<;>exact h.dfr
 ·cases hd:Qbj ops i with
  |none=>exact h.siz
  |some d=>simpa[Act.put] using h.siz
 ·by_cases e:j=i
  ·subst e;have hb:=hk.bnd j d hj hd;rw[<- h.siz]at hb;rw[hd];simp[Act.put,upd,hb]
  ·rw[hlj j e]at hlt;rw[hget d (hk.inj j i d hj hi e hd),h.val j d hj hd hlt];simp[upd,e]
 ·have h1:Qbj ops i≠some t:=ht i hi (K7 hl);rw[hget t h1]
  exact h.old t fun j hj hlt=>by
   by_cases e:j=i
   ·subst e;exact h1
   ·exact ht j hj (by rw[hlj j e];exact hlt)
theorem Qeo.full{N:Nat}{a0 a:Act}{l:Array Bool}{vs:Nat->Value}(hk:OkR md ops N a0.tmps.size)(h:Qeo ops N a0 l vs a)(hl:∀ i,i<N->l.getD i false=true):a=⟨Qcq (Qbk ops N vs) a0.tmps,a0.defers⟩:=by
 have hkeys:(Qbk ops N vs).map (·.1)=(List.range N).filterMap (Qbj ops):=by
  unfold Qbk;rw[List.map_filterMap]
  congr 1
  funext i
  cases Qbj ops i<;>rfl
 have ht:a.tmps=Qcq (Qbk ops N vs) a0.tmps:=by
  refine Array.ext (by rw[Jad,h.siz]) fun t h1 h2=>?_
  have e1:a.tmps[t]=a.tmps.getD t undef:=by simp[h1]
  have e2:(Qcq (Qbk ops N vs) a0.tmps)[t]=(Qcq (Qbk ops N vs) a0.tmps).getD t undef:=by simp[h2]
  rw[e1,e2]
  by_cases hd:∃ i,i<N/\Qbj ops i=some t
  ·obtain⟨i,hi,hd⟩:=hd;rw[h.val i t hi hd (hl i hi)];exact(JbH (Qbk ops N vs) _ t (vs i) (by rw[hkeys];exact hk.nodup) (List.mem_filterMap.2 ⟨i,List.mem_range.2 hi,by rw[hd];rfl⟩) (by rw[<- h.siz];exact h1)).symm
  ·rw[h.old t fun i hi _ e=>hd ⟨i,hi,e⟩];refine(Zr _ _ t fun p hp e=>?_).symm;obtain⟨i,hi,hp⟩:=List.mem_filterMap.1 hp
   cases hdi:Qbj ops i with
   |none=>rw[hdi]at hp;cases hp
   |some d=>
    rw[hdi]at hp;have:d=t:=by rw[<- e];exact congrArg (·.1) (Option.some.inj hp)
    exact hd ⟨i,List.mem_range.1 hi,by rw[hdi,this]⟩
 obtain⟨t,d⟩:=a;simp only at ht;have hd:=h.dfr;simp only at hd;rw[ht,hd]
theorem JgG{l:Array Bool}{N:Nat}(hle:N<=ops.size)(hs:l.size=ops.size)(h1:∀ i,i<N->l.getD i false=true)(h2:∀ z,N<=z->l.getD z false=false):l=QhM ops N:=by
 unfold QhM;refine Array.ext (by simp;omega) fun t ht _=>?_
 have e:l[t]=l.getD t false:=by simp[ht]
 rw[e,Array.getElem_append]
 by_cases h:t<N
 ·rw[h1 t h];simp[h]
 ·rw[h2 t (by omega)];simp[h]
theorem Qkv{P:Prop}(h:P:=by
  refine hrel i _ _ _ w w (fun q hq=>hq.1) (hI.rls i hi (h0 i hi)) zzb fun q hP=>⟨hP.1,fun j hj=>hP.2 j hj (h0 j (hJ j hj))⟩):P:=h
theorem JlK{n0 N:Nat}{J:List Nat}{rel:Nat->Value->(Nat->Prop)->World->Prop}{base:World->Prop}{a0:Act}(hk:OkR md ops N a0.tmps.size)(hJ:∀ j∈J,j<N)(hbase:∀ w w',base w->Below w.heap.size w w'->base w')
  (hrel:∀ i v P P' w w',(∀ q,P q->q<w.heap.size)->rel i v P w->Below w.heap.size w w'->(∀ q,P q->P' q)->rel i v P' w')
  (hop:∀ i,i<N->∀ (a:Act) (w:World) (Pr:Nat->Prop),base w->(∀ q,Pr q->q<w.heap.size)->(∀ q,q<n0->Pr q)->
   (∀ j,QeY md ops i j=true->∃ v,rel j v Pr w/\∀ d,Qbj ops j=some d->a.tmps.getD d undef=v)->
   (∀ t,(∀ j,j<N->Qbj ops j≠some t)->a.tmps.getD t undef=a0.tmps.getD t undef)->
   wpOp P ops Q i (fun a' w'=>∃ v,a'=a.put (Qbj ops i) v/\Below w.heap.size w w'/\(∀ Pr',(∀ q,Pr q->Pr' q)->(i∉J->∀ q,w.heap.size<=q->q<w'.heap.size->Pr' q)->rel i v Pr' w')/\
    (i∈J->∃ b,v=.pointer (some ⟨b,0,none⟩)/\w.heap.size<=b/\b<w'.heap.size)) a w)
  (hend:∀ n vs w,ops.size-N<=n->base w->(∀ j∈J,∃ b,vs j=.pointer (some ⟨b,0,none⟩)/\n0<=b/\b<w.heap.size)->(∀ j∈J,∀ k∈J,j≠k->Qdc (vs j)≠Qdc (vs k))->
   (∀ i,i<N->rel i (vs i) (fun q=>q<w.heap.size/\∀ j∈J,Qdc (vs j)≠some q) w)->wpAny P md ops Q n (QhM ops N) ⟨Qcq (Qbk ops N vs) a0.tmps,a0.defers⟩ w) :
  ∀ n l vs a w,l.size=ops.size->Qfk l N+(ops.size-N)<=n->(∀ z,N<=z->l.getD z false=false)->Qeo ops N a0 l vs a->QkE n0 N J rel base l vs w->(∀ k i,k<N->Qjb md ops k i=true->l.getD k false=true->l.getD i false=true)->wpAny P md ops Q n l a w:=by
 intro n
 induction n with
 |zero=>
  intro l vs a w hs hn hz hf hI hcl;have h0:=YJ N (show Qfk l N=0 by omega);rw[JgG hk.le hs h0 hz,hf.full hk h0]
  exact hend 0 vs w (by omega) hI.bas (fun j hj=>hI.ptr j hj (h0 j (hJ j hj))) (fun j hj k hkk=>hI.dis j hj k hkk (h0 j (hJ j hj)) (h0 k (hJ k hkk))) fun i hi=>by
   exact Qkv
 |succ n ih=>
  intro l vs a w hs hn hz hf hI hcl
  by_cases hleft:Qfk l N=0
  ·have h0:=YJ N hleft;rw[JgG hk.le hs h0 hz,hf.full hk h0]
   exact hend (n+1) vs w (by omega) hI.bas (fun j hj=>hI.ptr j hj (h0 j (hJ j hj))) (fun j hj k hkk=>hI.dis j hj k hkk (h0 j (hJ j hj)) (h0 k (hJ k hkk))) fun i hi=>by
    exact Qkv
  ·obtain⟨m,hmN,hm0,hmin⟩:=JbI N hleft;have hin:∀ j,j<N->j<l.size:=fun j hj=>by have:=hk.le;omega
   have hmr:m∈Region.ready md ops l:=by
    obtain⟨o,ho,hd⟩:=hk.down m hmN;refine mem_ready.2 ⟨?_,o,ho,fun e he hb=>hmin e.on (hd e he hb)⟩;have:=hin m hmN;simpa[this] using hm0
   refine⟨fun h=>(by rw[h]at hmr;cases hmr),fun j hj=>?_⟩;obtain⟨hj0,o,ho,hall⟩:=mem_ready.1 hj;have hjs:j<ops.size:=(Array.getElem?_eq_some_iff.1 ho).1
   have hjN:j<N:=by
    by_cases h:j<N
    ·exact h
    exfalso
    have hd:∀ n i,N-i<=n->i<N->l.getD i false=true:=by
     intro n
     induction n with
     |zero=>intro i h1 h2;omega
     |succ n ih2=>
      intro i h1 h2
      rcases hk.late j (by omega) hjs i h2 with he|⟨k,h3,h4,he⟩
      ·obtain⟨o',ho',e,he1,hb,hon⟩:=JbJ he;rw[ho]at ho';obtain rfl:=Option.some.inj ho';have:=hall e he1 hb;rw[hon]at this;exact this
      ·exact hcl k i h4 he (ih2 k (by omega) h4)
    have:=hd N m (by omega) hmN;rw[hm0]at this
    cases this
   have hjl:=hin j hjN;have hj0':l.getD j false=false:=by simpa[hjl] using hj0
   refine wpOp_mono (fun a' w' h'=>?_) (hop j hjN a w (QkD J l vs w) hI.bas (fun q hq=>hq.1) (fun q hq=>⟨Nat.lt_of_lt_of_le hq hI.low,fun k hkk hlk h=>by
     obtain⟨b,h3,h4,_⟩:=hI.ptr k hkk hlk;rw[h3]at h;have:b=q:=by simpa[Qdc] using h
     omega⟩) (fun k hw=>?_) (fun t ht=>hf.old t fun k hkN _=>ht k hkN))
   ·obtain⟨v,rfl,hb,hv,hp⟩:=h';refine ih _ (upd vs j v) _ _ (by simpa using hs) ?_ (fun z hzN=>?_) (hf.put hk hjN hjl) (QkE.step hbase hrel hI hjl hj0' hb hv hp) (fun k i hkN he hl'=>?_)
    ·have:=JdT hjl hj0' N;rw[if_pos hjN]at this;omega
    ·rw[getD_set_ne false (by omega:j≠z)];exact hz z hzN
    ·have hmono:∀ i,l.getD i false=true->(l.setIfInBounds j true).getD i false=true:=fun i h=>by
      by_cases e:j=i
      ·subst e;exact K7 hjl
      ·rw[getD_set_ne false e];exact h
     by_cases e:k=j
     ·subst e;obtain⟨o',ho',e,he1,hb1,hon⟩:=JbJ he;rw[ho]at ho';obtain rfl:=Option.some.inj ho';have:=hall e he1 hb1;rw[hon]at this;exact hmono _ this
     ·rw[getD_set_ne false (Ne.symm e)]at hl';exact hmono _ (hcl k i hkN he hl')
   ·unfold QeY at hw;rw[ho]at hw;obtain⟨e,he,hb⟩:=Array.any_eq_true'.1 hw;simp only[Bool.and_eq_true,beq_iff_eq]at hb;have hlk:=hall e he hb.1;rw[hb.2]at hlk
    have hkN:k<N:=by
     obtain⟨o',ho',hd⟩:=hk.down j hjN;rw[ho]at ho';obtain rfl:=Option.some.inj ho';have:=hd e he hb.1;omega
    exact⟨vs k,hI.rls k hkN hlk,fun d hd=>hf.val k d hkN hd hlk⟩
def QaP(P:Program)(ops:Array Oper)(Q:Exit->Act->World->Prop)(n0 N:Nat)(J:List Nat)(rel:Nat->Value->(Nat->Prop)->World->Prop)(base:World->Prop)(a0:Act)(i:Nat):Prop:=
 ∀ (a:Act) (w:World) (Pr:Nat->Prop),base w->(∀ q,Pr q->q<w.heap.size)->(∀ q,q<n0->Pr q)->
  (∀ j,QeY .any ops i j=true->∃ v,rel j v Pr w/\∀ d,Qbj ops j=some d->a.tmps.getD d undef=v)->
  (∀ t,(∀ j,j<N->Qbj ops j≠some t)->a.tmps.getD t undef=a0.tmps.getD t undef)->
  wpOp P ops Q i (fun a' w'=>∃ v,a'=a.put (Qbj ops i) v/\Below w.heap.size w w'/\(∀ Pr',(∀ q,Pr q->Pr' q)->(i∉J->∀ q,w.heap.size<=q->q<w'.heap.size->Pr' q)->rel i v Pr' w')/\
   (i∈J->∃ b,v=.pointer (some ⟨b,0,none⟩)/\w.heap.size<=b/\b<w'.heap.size)) a w
theorem QaP.of{n0 N:Nat}{J:List Nat}{rel:Nat->Value->(Nat->Prop)->World->Prop}{base:World->Prop}{a0:Act}(i:Nat){d:Option Tmp}{oo:Op}{t:TypeId}{p:String}{af:Array Edge}{g:Option (Nat × Bool)}(hi:ops[i]?=some ⟨d,oo,t,p,af,g⟩)
  (h:∀ (a:Act) (w:World) (Pr:Nat->Prop),base w->(∀ q,Pr q->q<w.heap.size)->(∀ q,q<n0->Pr q)->
   (∀ j t,QeY .any ops i j=true->Qbj ops j=some t->∃ v,rel j v Pr w/\a.tmps[t]?.getD undef=v)->
   (∀ t,((List.range N).all fun j=>decide (Qbj ops j≠some t))=true->a.tmps[t]?.getD undef=a0.tmps.getD t undef)->
   ∀ K:Act->World->Prop,Shut (∀ v w',Below w.heap.size w w'->(∀ Pr',(∀ q,Pr q->Pr' q)->(i∉J->∀ q,w.heap.size<=q->q<w'.heap.size->Pr' q)->rel i v Pr' w')->
    (i∈J->∃ b,v=.pointer (some ⟨b,0,none⟩)/\w.heap.size<=b/\b<w'.heap.size)->K (a.put d v) w')->
   if Region.wanted ⟨d,oo,t,p,af,g⟩ (yielded ops a.tmps)=true then Oper.wp P ⟨d,oo,t,p,af,g⟩ a w K Q else K (a.put d undef) w):QaP P ops Q n0 N J rel base a0 i:=by
 intro a w Pr hb hP hn hd ho;refine wpOp_step hi fun K' hK=>h a w Pr hb hP hn (fun j t hw ht=>?_) (fun t ht=>?_) K' fun v w' h1 h2 h3=>hK _ _ ⟨v,?_,h1,h2,h3⟩
 ·obtain⟨v,h1,h2⟩:=hd j hw;exact⟨v,h1,by simpa using h2 t ht⟩
 ·have:=ho t fun j hj e=>by
   have:=List.all_eq_true.1 ht j (List.mem_range.2 hj);simp[e]at this
  simpa using this
 ·unfold Qbj;rw[hi];rfl
theorem JdV(k:Nat):∀ n,Qfk (Array.replicate k false) n=n
 |0=>rfl
 |n+1=>by
  unfold Qfk;rw[JdV k n];have:(Array.replicate k false).getD n false=false:=by by_cases h:n<k<;>simp[h]
  rw[this];rfl
theorem KJ(N:Nat)(J:List Nat)(rel:Nat->Value->(Nat->Prop)->World->Prop)(base:World->Prop){id:Nat}{a0:Act}{w:World}(hb:base w.drew)(hJ:∀ j∈J,j<N)(hbase:∀ w w',base w->Below w.heap.size w w'->base w')
  (hrel:∀ i v P P' w w',(∀ q,P q->q<w.heap.size)->rel i v P w->Below w.heap.size w w'->(∀ q,P q->P' q)->rel i v P' w')
  (hop:∀ i,i<N->QaP P ops Q w.heap.size N J rel base a0 i)
  (hend:∀ n vs w1,ops.size-N<=n->base w1->(∀ j∈J,∃ b,vs j=.pointer (some ⟨b,0,none⟩)/\w.heap.size<=b/\b<w1.heap.size)->(∀ j∈J,∀ k∈J,j≠k->Qdc (vs j)≠Qdc (vs k))->
   (∀ i,i<N->rel i (vs i) (fun q=>q<w1.heap.size/\∀ j∈J,Qdc (vs j)≠some q) w1)->wpAny P .any ops Q n (QhM ops N) ⟨Qcq (Qbk ops N vs) a0.tmps,a0.defers⟩ w1)
  (hk:okR .any ops N a0.tmps.size=true:=by kernel_rfl) (hm:P.follows .mixedOrders=true:=by kernel_rfl):(Code.region id ops true).wp P Q a0 w:=
 wp_region_any hm (JlK (JdU hk) hJ hbase hrel hop hend ops.size _ (fun _=>undef) a0 w.drew (by simp) (by
  have:=(JdU hk).le;rw[JdV]
  omega) (fun z _=>by by_cases h:z<ops.size<;>simp[h]) ⟨rfl,rfl,fun i d _ _ h=>by by_cases h':i<ops.size<;>simp[h']at h,fun _ _=>rfl⟩ ⟨hb,Nat.le_refl _,fun j _ h=>by by_cases h':j<ops.size<;>simp[h']at h,fun j _ k _ h=>by by_cases h':j<ops.size<;>simp[h']at h,fun j _ h=>by by_cases h':j<ops.size<;>simp[h']at h⟩ (fun k i _ _ h=>by by_cases h':k<ops.size<;>simp[h']at h))
theorem QjP{n:Nat}{l:Array Bool}{a:Act}{w:World}(h:Q .normal a w)(hr:Region.ready .any ops l=[]:=by kernel_rfl):wpAny P .any ops Q n l a w:=by
 cases n with
 |zero=>exact⟨hr,h⟩
 |succ n=>exact⟨fun _=>h,by rw[hr];simp⟩
end
end Go.Proofs.YtdlkcjkjnehnkaaGreatDoor
