/- The law answers true for all inputs; there are no conditions. -/
import Derived.Deep.CutBlock
import Derived.Deep.DeepCutAuto
import Derived.Deep.RegionHeld3
import Derived.SevenTiedAt
import Derived.ChangeVars
import Derived.ChangeMaps5
import Derived.JoinedOf
import Derived.JoinedAt
import Derived.RowKit
import Derived.RowKit3
import Derived.RowKitTokens
import Derived.SizedLaws
import Derived.Test.YtdlkcjkjnehnkaaGreatDoorCards
import Derived.Test.YtdlkcjkjnehnkaaGreatDoorTie
import Derived.Test.YtdlkcjkjnehnkaaGreatDoorH31
import Derived.Test.YtdlkcjkjnehnkaaGreatDoorH32
import Derived.Test.YtdlkcjkjnehnkaaGreatDoorH42
open List(length_append mem_map)
open Nat(le_refl le_trans)
namespace Go.Proofs.YtdlkcjkjnehnkaaGreatDoor
open Go Go.Lib
open Go.ChangeShapes Go.WideShapes Go.ChangeAt Go.RowKit
open Go.ChangeShapes Go.WideShapes Go.ChangeAt Go.RowKit Go.Lib
open Go.RowKit
open Go Go.ChangeShapes Go.WideShapes Go.ChangeAt Go.RowKit Go.Lib
open Go
open _root_.Go.Proofs.Tryz
set_option linter.all false
set_option maxRecDepth 100000
set_option maxHeartbeats 32000000
theorem QdT(g:Nat):∀ (f:Nat) (l:List ClS) (r r':List Tok) a,Sh r->(∀ x∈l,x.reason.length<=1000000)->Qad g f l r=.ok a r'->∀ x∈a,x.reason.length<=1000000
 |0,_,_,_,_,_,_,h=>by cases h
 |f+1,l,r,r',a,hs,hl,h=>by
  rw[Qad]at h;split at h
  ·rename_i r1 h1;obtain⟨x,r2,h2,h⟩:=Je h;obtain⟨_,r3,h3,h⟩:=Je h;obtain⟨_,r4,h4,h⟩:=Je h;obtain⟨_,r5,h5,h⟩:=Je h;have s4:=Jko (J1 (KR _ _ _ _ _ (Kv hs h1) h2 trivial).2 h3) h4
   exact QdT g f _ _ _ _ (JdK s4 h5).1 (by
    intro y hy
    rcases List.mem_append.1 hy with hy|hy
    ·exact hl y hy
    ·obtain rfl:y=_:=by simpa using hy
     exact(JdK s4 h5).2) h
  ·injection h with h0 h;subst h h0;exact hl
theorem QiA{f:Nat}{r r':List Tok}{s:Src}(hs:Sh r)(h:QcO f r=.ok s r'):∀ x∈s.clauses,x.reason.length<=1000000:=by
 unfold QcO at h;obtain⟨fs,r1,h1,h⟩:=Je h;obtain⟨cs,r2,h2,h⟩:=Je h;obtain⟨_,r3,h3,h⟩:=Je h;obtain⟨_,r4,h4,h⟩:=Je h;have g2:=QdT _ _ _ _ _ _ (JdL _ _ _ _ _ _ hs (by simp) h1).2 (by simp) h2;split at h
 ·injection h with h0 h;subst h0;exact g2
 ·cases h
theorem Qgd{l:List UInt8}{T:List Tok}{r:Qaq}(hS:QaA l=(T,0,0))(h:Qbr l=(r,0,0)):RSz r:=by
 obtain⟨_,hT,htx,hT0,hfin⟩:=Jgq hS;rw[Qcd hS]at h;generalize 12*(T.length+1)=f at *
 cases hp:QaW f T with
 |none=>
  rw[hp]at h;rw[<- show Qag=r from congrArg (fun q=>q.1) h];exact QgR
 |some x=>
  rw[hp]at h;simp only[Option.getD_some]at h;subst h
  cases hs:QcO f T with
  |out=>unfold QaW at hp;rw[hs]at hp;cases hp
  |bad o=>unfold QaW at hp;rw[hs]at hp;simp at hp
  |ok s r'=>
   rw[JeF hs]at hp;unfold Qcs at hp
   cases hl:Qbd s with
   |some o=>rw[hl]at hp;simp at hp
   |none=>
    rw[hl]at hp;simp only at hp
    cases he:QaG (Qac s).2 with
    |some o=>rw[he]at hp;simp at hp
    |none=>
     rw[he]at hp;simp only at hp
     cases hc:QaG (QaY (Qac s).1) with
     |some o=>rw[hc]at hp;simp at hp
     |none=>
      rw[hc]at hp;simp only[Option.some.injEq,Prod.mk.injEq]at hp;rw[<- hp.1];have hb:=JmB hs hT htx;have hrs:=QiA (fun t ht=>le_trans (htx t ht) (by decide)) hs;obtain⟨h1,h2,h3,h4⟩:=JeB (m:=8194) (fun f hf=>⟨(hb.f f hf).1,(hb.f f hf).2.1,(hb.f f hf).2.2.1,(hb.f f hf).2.2.2⟩) (fun c hc=>hb.c c hc) he;have n1:=hb.nf;have n2:=hb.nc;unfold QaN;refine⟨by simp only[List.length_map];omega,by simp only[List.length_map];omega,fun f hf=>?_,fun c hc'=>?_⟩
      ·simp only[mem_map]at hf;obtain⟨g,hg,rfl⟩:=hf;obtain⟨q1,q2,q3,_⟩:=h1 g hg
       have hname:g.name.1.length<=1000000:=by
        unfold Qac at hg;simp only[mem_map]at hg;obtain⟨_,⟨x,hx,rfl⟩,rfl⟩:=hg;exact(hb.f x hx).1.2
       exact⟨by dsimp only;omega,by dsimp only;omega,Qix _ q1,by dsimp only;rw[Qgs];omega⟩
      ·simp only[mem_map]at hc';obtain⟨g,hg,rfl⟩:=hc';obtain⟨q1,q2,_⟩:=h2 g hg
       have hr:g.reason.length<=1000000:=by
        unfold Qac at hg;simp only[mem_map]at hg;obtain⟨_,⟨x,hx,rfl⟩,rfl⟩:=hg;exact hrs x hx
       exact⟨Qix _ q1,by dsimp only;rw[Qgs];omega,by dsimp only;omega⟩
theorem Qif(fr to':List UInt8)(h:to'.length<=50):∀ (l:List Tok) (d:Bool),(∀ t∈l,QcA t.n/\t.text.length<=50)->∀ t∈rnG fr to' d l,QcA t.n/\t.text.length<=50
 |[],d,hl,t,ht=>by rw[rnG]at ht;cases ht
 |x::r,d,hl,t,ht=>by
  rw[rnG]at ht
  rcases List.mem_cons.1 ht with rfl|ht
  ·split
   ·exact⟨(hl x (by simp)).1,h⟩
   ·exact hl x (by simp)
  ·exact Qif fr to' h r _ (fun y hy=>hl y (by simp[hy])) t ht
theorem Qge{l:List UInt8}{T:List Tok}{r:Qaq}{a:Int}(hS:QaA l=(T,0,0))(h:Qbr l=(r,0,a)):a=0:=by
 rw[Qcd hS]at h
 cases hp:QaW (12*(T.length+1)) T with
 |none=>
  rw[hp]at h;exact(congrArg (fun q=>q.2.2) h).symm
 |some x=>
  obtain⟨r2,e2,o2⟩:=x;rw[hp]at h;simp only[Option.getD_some,Prod.mk.injEq]at h;obtain⟨rfl,rfl,rfl⟩:=h;exact JeE hp
theorem QbR.cut{α:Type}{R:α->List Value->Prop}:∀ {a b:List α} {xs:List Value},QbR R (a++b) xs->∃ ys zs,xs=ys++zs/\QbR R a ys
 |[],b,xs,h=>⟨[],xs,rfl,rfl⟩
 |x::a,b,xs,h=>by
  obtain⟨c,r,h1,h2,h3⟩:=h;obtain⟨ys,zs,rfl,h4⟩:=QbR.cut h3;exact⟨c++ys,zs,by rw[h2,List.append_assoc],c,ys,h1,rfl,h4⟩
theorem QhH{W:World}{P:Nat->Prop}{fs:List FnM}{cs:List ClM}{x:ClM}{a:Int}{fa ga:Option Addr}{nf nc fc gc:Nat}(h:QaZ W P ⟨fs,cs++[x],a⟩ #[.slice fa nf fc,.slice ga nc gc,.int .i64 a]):QaZ W P ⟨fs,cs,a⟩ #[.slice fa nf fc,.slice ga cs.length gc,.int .i64 a]:=by
 obtain⟨fv,cv,h1,h2,ad,cc,xs,h3,h4,h5,h6⟩:=h;have e1:Value.slice fa nf fc=fv:=congrArg (fun q:Array Value=>q[0]!) h1;have e2:Value.slice ga nc gc=cv:=congrArg (fun q:Array Value=>q[1]!) h1;rw[h3]at e2;injection e2 with e2 e3 e4;subst e1 e2 e4;obtain⟨ys,zs,rfl,h7⟩:=h5.cut;rw[length_append]at h4;refine⟨_,_,rfl,h2,ga,gc,ys,rfl,le_trans (Nat.le_add_right _ _) h4,h7,?_⟩
 rcases h6 with h6|⟨b,o,h8,h9,h10⟩
 ·exact absurd h6 (by simp)
 ·exact .inr ⟨b,o,h8,h9,fun j u hj=>h10 j u (by rw[List.getElem?_append_left (List.getElem?_eq_some_iff.1 hj).1];exact hj)⟩
theorem QiE{W:World}{P:Nat->Prop}{r:Qaq}{c:Array Value}(h:QaZ W P r c):∃ fa fc ga gc,c=#[.slice fa r.funcs.length fc,.slice ga r.clauses.length gc,.int .i64 r.action]:=by
 obtain⟨fv,cv,rfl,⟨a,b,_,rfl,_⟩,⟨a2,b2,_,rfl,_⟩⟩:=h;exact⟨_,_,_,_,rfl⟩
theorem QhY{w W:World}{o:Obj}(h:Below w.heap.size w W):Below w.heap.size w (W.alloc o):=h.alloc h.size o
theorem Qen{w W:World}{p:Addr}{u:Value}(hp:w.heap.size<=p.block)(h:Below w.heap.size w W):Below w.heap.size w (W.setCell p u):=h.setCell hp u
theorem Qjm{w W:World}{o o':Obj}(hB:w.heap.size<=W.heap.size)(h:Below w.heap.size w (W.alloc o)):Below w.heap.size w (W.alloc o'):=by
 have h1:Bel w W:=⟨h.os,h.tape,h.output,hB,fun q hq=>by
  have e1:=h.block q hq;rw[heap_alloc_old W o (Nat.lt_of_lt_of_le hq hB)]at e1
  exact e1⟩
 exact h1.alloc h1.size o'
def QlK(w W:World)(r:Qaq)(v:Value):Prop:=∃ xb fa fc ga gc,v=.pointer (some ⟨xb,0,none⟩)/\w.heap.size<=xb/\W.heap[xb]?=some (.cells #[.slice fa r.funcs.length fc,.slice ga r.clauses.length gc,.int .i64 r.action] 25 (0,0))/\QaZ W (fun b=>b<W.heap.size/\b≠xb) r #[.slice fa r.funcs.length fc,.slice ga r.clauses.length gc,.int .i64 r.action]
theorem QgM{w w':World}{r:Qaq}{n0:Nat}{fa ga:Option Addr}{fc gc:Nat}(hw:w.heap.size<=w'.heap.size)(h:QaZ w' (fun b=>n0<=b/\b<w'.heap.size) r #[.slice fa r.funcs.length fc,.slice ga r.clauses.length gc,.int .i64 r.action]):QlK w (w'.alloc (.cells #[.slice fa r.funcs.length fc,.slice ga r.clauses.length gc,.int .i64 r.action] 25)) r (.pointer (some ⟨w'.heap.size,0,none⟩)):=
 ⟨_,_,_,_,_,rfl,hw,heap_alloc_new _ _,h.keep (fun b hb=>heap_alloc_old w' _ hb.2) (fun b hb=>⟨by rw[World.size_alloc];exact Nat.lt_succ_of_lt hb.2,Nat.ne_of_lt hb.2⟩)⟩
theorem QhD{W:World}{x b:Nat}{u0 u1 u2:Value}(hb:b<W.heap.size)(hx:b≠x):(((W.setCell ⟨x,0,none⟩ u0).setCell ⟨x,1,none⟩ u1).setCell ⟨x,2,none⟩ u2).heap[b]?=W.heap[b]?:=by
 obtain⟨o,ho⟩:∃ o,W.heap[b]?=some o:=⟨_,Array.getElem?_eq_getElem hb⟩
 rw[ho];exact Jk (Jk (Jk ho hx _) hx _) hx _
theorem Qgb{w w':World}{r:Qaq}{n0 x:Nat}{fa ga:Option Addr}{fc gc:Nat}{a0 a1 a2:Value}(hw:w.heap.size<=x)(hn:x<n0)(hh:w'.heap[x]?=some (.cells #[a0,a1,a2] 25 (0,0)))(h:QaZ w' (fun b=>n0<=b/\b<w'.heap.size) r #[.slice fa r.funcs.length fc,.slice ga r.clauses.length gc,.int .i64 r.action]):QlK w (((w'.setCell ⟨x,0,none⟩ (.slice fa r.funcs.length fc)).setCell ⟨x,1,none⟩ (.slice ga r.clauses.length gc)).setCell ⟨x,2,none⟩ (.int .i64 r.action)) r (.pointer (some ⟨x,0,none⟩)):=
 ⟨_,_,_,_,_,rfl,hw,QhX _ _ _ hh,h.keep (fun b hb=>QhD hb.2 (by have:=hb.1;omega)) (fun b hb=>⟨by simp[World.setCell];exact hb.2,by have:=hb.1;omega⟩)⟩
theorem QjH{W:World}{P:Nat->Prop}{r:Qaq}{fa ga:Option Addr}{nf nc fc gc:Nat}{a:Int}(h:QaZ W P r #[.slice fa nf fc,.slice ga nc gc,.int .i64 a]):r.clauses.length<=gc:=by
 obtain⟨fv,cv,h1,h2,ad,cc,xs,h3,h4,h5,h6⟩:=h;have e2:Value.slice ga nc gc=cv:=congrArg (fun q:Array Value=>q[1]!) h1;rw[h3]at e2;injection e2 with e2 e3 e4;rw[e4];exact h4
theorem QiN{w w6:World}{o0:Obj}(h:World.alloc w o0=w6):Bel w w6/\w6.heap[w.heap.size]?=some o0:=by
 subst h;exact⟨(Below.refl _ _).alloc (le_refl _) _,heap_alloc_new w o0⟩
theorem QhE{W:World}{x b i:Nat}{u:Value}(hb:b<W.heap.size)(hx:b≠x):(W.setCell ⟨x,i,none⟩ u).heap[b]?=W.heap[b]?:=by
 obtain⟨o,ho⟩:∃ o,W.heap[b]?=some o:=⟨_,Array.getElem?_eq_getElem hb⟩
 rw[ho];exact Jk ho hx _
theorem Qil(W:World)(P:Nat->Prop)(k n:Int)(s:List UInt8)(a:Option Addr)(c:Nat):XAt W P (.mk k n s []) #[.int .i64 k,.int .i64 n,.string (bs s),.slice a 0 c]:=by
 unfold XAt Qcy;exact⟨a,c,[],rfl,Nat.zero_le _,rfl,.inl rfl⟩
theorem QhV{W:World}{P:Nat->Prop}{k n a:Int}{s q:List UInt8}{d:List Value}(h:ClX W P ⟨.mk k n s [],a,q⟩ d):∃ xa xc,d=[.int .i64 k,.int .i64 n,.string (bs s),.slice xa 0 xc,.int .i64 a,.string (bs q)]:=by
 obtain⟨dx,hx,rfl⟩:=h;obtain⟨xa,xc,rfl,_⟩:=hx.form;exact⟨xa,xc,rfl⟩
set_option maxRecDepth 100000 in
set_option maxHeartbeats 16000000 in
theorem QeJ(l fr to':List UInt8)(w:World)(hl:l.length<=9223372036854775807)(hf:fr.length<=9223372036854775807)(ht:to'.length<=9223372036854775807)(hL:Laid w):Calls Tryz.prog 7 #[.string (bs l),.string (bs fr),.string (bs to')] w (Qck w (.bool true)):=by
 have HL:=Lib.hid hL;have ul:=JF l;have uf:=JF fr;have ut:=JF to';clear hL;go_enter Tryz.func7,Tryz.ntmps7;go_upto_region 1 with fail;go_wp2_with fail;refine(Jhe w HL.out).mono ?_;rintro e w2 ⟨rfl,hb2⟩;have HB2:Hid (Bel w w2):=hb2;clear hb2;go_upto_region 2 with fail
 by_cases e3:1500<l.length
 ·have q3:decide ((l.length:Int)>1500)=true:=decide_eq_true (by omega);clear e3;go_wp2;go_ret;exact⟨rfl,HB2.out⟩
 have q3:decide ((l.length:Int)>1500)=false:=decide_eq_false (by omega)
 by_cases e4:24<fr.length
 ·have q4:decide ((fr.length:Int)>24)=true:=decide_eq_true (by omega);clear e3 e4;go_wp2;go_ret;exact⟨rfl,HB2.out⟩
 have q4:decide ((fr.length:Int)>24)=false:=decide_eq_false (by omega)
 by_cases e5:24<to'.length
 ·have q5:decide ((to'.length:Int)>24)=true:=decide_eq_true (by omega);clear e3 e4 e5;go_wp2;go_ret;exact⟨rfl,HB2.out⟩
 have q5:decide ((to'.length:Int)>24)=false:=decide_eq_false (by omega);have HE:Hid (l.length<=1500/\fr.length<=24/\to'.length<=24):=⟨Nat.not_lt.1 e3,Nat.not_lt.1 e4,Nat.not_lt.1 e5⟩
 have cf:=Qek fr w2 hf;obtain⟨bf,hbf⟩:∃ b,Qar fr=b:=⟨_,rfl⟩
 obtain⟨bt,hbt⟩:∃ b,Qar to'=b:=⟨_,rfl⟩
 rw[hbf]at cf;have HBF:=Lib.hid hbf;have HBT:=Lib.hid hbt;clear e3 e4 e5 hbf hbt;go_wp2_with fail;refine cf.mono ?_;rintro e w3 ⟨rfl,hb3⟩;have HB3:Hid (Bel w w3):=Jd HB2.out hb3;clear cf hb3 HB2
 cases bf with
 |false=>
  go_wp2;go_ret;exact⟨rfl,HB3.out⟩
 |true=>
 have cf:=Qek to' w3 ht;rw[HBT.out]at cf;go_wp2_with fail;refine cf.mono ?_;rintro e w4 ⟨rfl,hb4⟩;have HB4:Hid (Bel w w4):=Jd HB3.out hb4;clear cf hb4 HB3
 cases bt with
 |false=>
  go_wp2;go_ret;exact⟨rfl,HB4.out⟩
 |true=>
 have cp:=Qbm l w4 (by have:=HE.out;omega) (HL.out.below HB4.out);obtain⟨r,er,ad,hX⟩:∃ r er ad,Qbr l=(r,er,ad):=⟨_,_,_,rfl⟩
 rw[hX]at cp;have HX:=Lib.hid hX;clear hX hl hf ht;go_upto_region 4 with fail;clear q3 q4 q5;go_wp2_with fail;refine cp.mono ?_;rintro e w5 hp;obtain⟨c3,rfl,hx5,hb5⟩:=hp.inw;obtain⟨fa,fc,ga,gc,rfl,_,_⟩:=hx5.parts;have hq5:Below w5.heap.size w5 (w5.alloc (.cells #[.slice fa r.funcs.length fc,.slice ga r.clauses.length gc,.int .i64 r.action] 25)):=(Below.refl _ _).alloc (le_refl _) _;have HB5:Hid (Bel w (w5.alloc (.cells #[.slice fa r.funcs.length fc,.slice ga r.clauses.length gc,.int .i64 r.action] 25))):=Jd HB4.out (Jd hb5 hq5);have HN5:=Lib.hid (heap_alloc_new w5 (.cells #[.slice fa r.funcs.length fc,.slice ga r.clauses.length gc,.int .i64 r.action] 25));have HY5:=Lib.hid (hx5.up hq5);clear hx5 hb5 hq5 cp hp HB4;go_upto_region 5 with fail;generalize World.alloc w5 _=v5 at *;generalize w5.heap.size=k5 at *
 by_cases e0:er=0
 case neg=>
  have qe:(er==(0:Int))=false:=beq_eq_false_iff_ne.2 e0;clear e0;go_wp2;go_ret;exact⟨rfl,HB5.out⟩
 subst e0
 have hsc:∃ T,sc 0 l=.ok T/\QaA l=(T,0,0):=by
  rcases Qfa l with⟨ts,h1,h2,h3⟩|⟨h1,h2⟩
  ·exact⟨ts,h1,h2⟩
  ·have hm:=Qfl (l:=l) h1;rw[HX.out]at hm;exact absurd (congrArg (fun q=>q.2.1) hm).symm h1
 obtain⟨T,hS1,hS⟩:=hsc;obtain rfl:=Qge hS HX.out;have HALL:=Lib.hid (Qgd hS HX.out);have HWF:=Lib.hid (QiB hS1);have htl:T.length<=4097:=(Jgq hS).2.1;obtain⟨n,hn⟩:∃ n,T.length=n:=⟨_,rfl⟩
 rw[hn]at htl;have HN:=Lib.hid hn;have HS1:=Lib.hid hS1;have HS:=Lib.hid hS;have cs:=Jdh l v5 (by have:=HE.out;omega) (HL.out.below HB5.out);rw[hS]at cs;clear hS1 hS hn;go_upto_region 7 with fail;go_wp2_with fail;refine cs.mono ?_;rintro e w6 hp;obtain⟨ta,tc,rfl,hT,hb6⟩:=Qgz hp;have HB6:Hid (Bel w w6):=Jd HB5.out hb6;have HN6:=Lib.hid (QbU HN5.out hb6);have HY6:=Lib.hid (HY5.out.up hb6);have HT:=Lib.hid hT;clear hb6 hp cs hT HN5 HY5 HB5;go_upto_region 8 with fail;rw[HN.out];have ut2:=Jl to';go_wp2;go_loopw [14] (fun v14 wr=>∃ k:Nat,k<=n/\v14=.int .i64 k/\Hid (∀ i t,i<k->T[i]?=some t->¬ (t.kind=0/\t.text=to'))/\w6=wr) (fun v14 _=>n-(intOf v14).toNat)
 case atStart=>exact⟨0,Nat.zero_le _,rfl,fun i t hi=>absurd hi (Nat.not_lt_zero _),rfl⟩
 case round=>
 obtain⟨k,hk,rfl,hz,rfl⟩:=hrel;have HZ:Hid (∀ i t,i<k->T[i]?=some t->¬ (t.kind=0/\t.text=to')):=hz.out;clear hz
 by_cases hi:k<n
 ·have dil:decide ((k:Int)<(n:Int))=true:=decide_eq_true (by omega);have diN:decide (k<n)=true:=decide_eq_true hi;obtain⟨t,ht⟩:∃ t,T[k]?=some t:=⟨_,List.getElem?_eq_getElem (by rw[HN.out];exact hi)⟩
  obtain⟨g,o,rfl,hg,a0,a1,a2,a3⟩:=HT.out k t ht;have HTK:=Lib.hid ht;clear ht a2 a3;obtain⟨tk,tt,tn,tof⟩:=t;have utt:=Jl tt
  have hstep:¬ (tk=0/\tt=to')->Hid (∀ i t,i<k+1->T[i]?=some t->¬ (t.kind=0/\t.text=to')):=fun hne i t hlt h=>by
   by_cases hik:i=k
   ·subst hik;rw[HTK.out]at h;injection h with h;rw[<- h];exact hne
   ·exact HZ.out i t (by omega) h
  have HST:=Lib.hid hstep;clear hstep
  by_cases c0:tk=0
  ·subst c0
   by_cases c1:tt=to'
   ·subst c1;have q1:(tt==tt)=true:=beq_self_eq_true _;go_wp2;go_ret;exact⟨rfl,HB6.out⟩
   ·have q1:(tt==to')=false:=beq_eq_false_iff_ne.2 c1;have HZ2:=Lib.hid ((HST.out (fun h=>c1 h.2)).out);clear c1;go_wp2;go_roundw
    case rel=>exact⟨k+1,by omega,by go_num,HZ2.out,by first|rfl|trivial⟩
    case measure=>simp[intOf];omega
  ·have q1:(tk==(0:Int))=false:=beq_eq_false_iff_ne.2 c0;have HZ2:=Lib.hid ((HST.out (fun h=>c0 h.1)).out);clear c0;go_wp2;go_roundw
   case rel=>exact⟨k+1,by omega,by go_num,HZ2.out,by first|rfl|trivial⟩
   case measure=>simp[intOf];omega
 have hkn:k=n:=by omega
 subst hkn
 have HTO:Hid (∀ t∈T,¬ (t.kind=0/\t.text=to')):=fun t ht=>by
  obtain⟨i,hi,e⟩:=List.mem_iff_getElem.1 ht;exact HZ.out i t (by rw[<- HN.out];exact hi) (by rw[List.getElem?_eq_getElem hi,e])
 have dil:decide ((k:Int)<(k:Int))=false:=decide_eq_false (by omega);clear HZ hi;go_upto_region 13 with fail;clear dil;have cr:=Qfj ta k tc T fr to' w6 HT.out HN.out (by omega);obtain⟨G,hG⟩:∃ G,rnG fr to' false T=G:=⟨_,rfl⟩
 have hgl:G.length=k:=by rw[<- hG,Qfh];exact HN.out
 have HGW:Hid (∀ t∈G,QcA t.n/\t.text.length<=50):=by rw[<- hG];exact Qif fr to' (by have:=HE.out;omega) T false HWF.out
 rw[hG]at cr;have HG:=Lib.hid hG;have HGL:=Lib.hid hgl;clear hG hgl HWF;go_wp2_with fail;refine cr.mono ?_;rintro e w7 ⟨ra,rc,rfl,hT7,hb7⟩;have HB7:Hid (Bel w w7):=Jd HB6.out hb7;have HN7:=Lib.hid (QbU HN6.out hb7);have HY7:=Lib.hid (HY6.out.up hb7);have HT7:=Lib.hid (HT.out.below hb7);have hwl:=QfS G HGW.out;have cw:=Qgf ra k rc G w7 hT7 HGL.out (by omega) (fun t ht=>⟨(HGW.out t ht).1,le_trans (HGW.out t ht).2 (by decide)⟩) (HL.out.below HB7.out) (by have:=HGL.out;omega);obtain⟨S,hSS⟩:∃ S,Qcw G=S:=⟨_,rfl⟩
 rw[hSS]at cw hwl;have HSS:=Lib.hid hSS;have HSL:Hid (S.length<=4097*60):=le_trans hwl (Nat.mul_le_mul_right _ (by rw[HGL.out];exact htl));clear hSS hwl cr hb7 hT7 HT HB6 HN6 HY6;go_wp2_with fail;refine cw.mono ?_;rintro e w8 ⟨rfl,hb8⟩;have HB8:Hid (Bel w w8):=Jd HB7.out hb8;have HN8:=Lib.hid (QbU HN7.out hb8);have HY8:=Lib.hid (HY7.out.up hb8);have HT8:=Lib.hid (HT7.out.below hb8);clear cw hb8 HB7 HN7 HY7 HT7;go_upto_region 14 with fail;have uS:=JF S
 by_cases e6:4096<S.length
 ·have q6:decide ((S.length:Int)>4096)=true:=decide_eq_true (by omega);clear e6;go_wp2;go_ret;exact⟨rfl,HB8.out⟩
 have q6:decide ((S.length:Int)>4096)=false:=decide_eq_false (by omega)
 have hpr:Qbr S=(r,0,0):=by
  rw[<- HSS.out,<- HG.out];exact QeL fr to' HBF.out HBT.out HS1.out HS.out HX.out HTO.out (by rw[HG.out,HSS.out];omega)
 have cp:=Qbm S w8 (by omega) (HL.out.below HB8.out);rw[hpr]at cp;clear hpr e6;go_upto_region 16 with fail;clear q6;go_wp2_with fail;refine cp.mono ?_;rintro e w9 hp;obtain⟨c9,rfl,hx9,hb9⟩:=hp.inw;obtain⟨ha,hc,ia,ic,rfl,_,_⟩:=hx9.parts;have hq9:Below w9.heap.size w9 (w9.alloc (.cells #[.slice ha r.funcs.length hc,.slice ia r.clauses.length ic,.int .i64 r.action] 25)):=(Below.refl _ _).alloc (le_refl _) _;have HB9:Hid (Bel w (w9.alloc (.cells #[.slice ha r.funcs.length hc,.slice ia r.clauses.length ic,.int .i64 r.action] 25))):=Jd HB8.out (Jd hb9 hq9);have HN9:=Lib.hid (heap_alloc_new w9 (.cells #[.slice ha r.funcs.length hc,.slice ia r.clauses.length ic,.int .i64 r.action] 25));have HY9:=Lib.hid (hx9.up hq9);have HR9:=Lib.hid (QbU HN8.out (Jd hb9 hq9));have HZ9:=Lib.hid (HY8.out.up (Jd hb9 hq9));have HT9:=Lib.hid (HT8.out.below (Jd hb9 hq9));clear hx9 hb9 hq9 cp hp HB8 HN8 HY8 HT8;go_upto_region 17 with fail;generalize World.alloc w9 _=v9 at *;generalize w9.heap.size=k9 at *;obtain⟨r0,r1,r2⟩:=Qcv HR9.out;obtain⟨y0,y1,y2⟩:=Qcv HN9.out;have cs:=Jaf (w0:=v9) r r _ _ v9 HALL.out HY9.out HZ9.out (Below.refl _ _);rw[(JcZ r r).2 rfl]at cs;go_wp2_with fail;refine cs.mono ?_;rintro e w10 ⟨rfl,hb10⟩;have HB10:Hid (Bel w w10):=Jd HB9.out hb10;have HR10:=Lib.hid (QbU HR9.out hb10);have HZ10:=Lib.hid (HZ9.out.up hb10);have HT10:=Lib.hid (HT9.out.below hb10);clear cs hb10 r0 r1 r2 y0 y1 y2 HB9 HR9 HZ9 HT9 HN9 HY9;obtain⟨p,tp,O,hTl,hTp,tp0,tp1,tpo,hOl,hno,hpx⟩:=QgN HS1.out HS.out HX.out (by have:=HE.out;omega);have HTP:=Lib.hid hTp;have HTD:Hid (tp.kind=0/\tp.text=Qaj/\tp.off=((O:Nat):Int)/\O<=l.length):=⟨tp0,tp1,tpo,hOl⟩
 have HNO:=Lib.hid hno;have HPX:=Lib.hid hpx;have HPL:Hid (k=p+3):=by rw[<- hTl];exact HN.out.symm
 clear hTp tp0 tp1 tpo hOl hno hpx hTl HTO;go_upto_region 19 with fail;go_wp2;go_loopw [19,20] (fun v19 v20 wr=>∃ (i:Nat) (z:Int),i<=k/\v20=.int .i64 i/\v19=.int .i64 z/\Hid (p<i->z=((O:Nat):Int))/\w10=wr) (fun _ v20 _=>k-(intOf v20).toNat)
 case atStart=>exact⟨0,0,Nat.zero_le _,rfl,rfl,fun h=>absurd h (Nat.not_lt_zero _),rfl⟩
 case round=>
 obtain⟨i,z,hk2,rfl,rfl,hz,rfl⟩:=hrel;have HZ:Hid (p<i->z=((O:Nat):Int)):=hz.out;clear hz
 by_cases hi:i<k
 ·have dil:decide ((i:Int)<(k:Int))=true:=decide_eq_true (by omega);have diN:decide (i<k)=true:=decide_eq_true hi;obtain⟨t,ht⟩:∃ t,T[i]?=some t:=⟨_,List.getElem?_eq_getElem (by rw[HN.out];exact hi)⟩
  obtain⟨g,o,rfl,hg,a0,a1,a2,a3⟩:=HT10.out i t ht;have HTK:=Lib.hid ht;clear ht a2;obtain⟨tk,tt,tn,tof⟩:=t;have utt:=Jl tt
  have hsame:p=i->tp=⟨tk,tt,tn,tof⟩:=fun e=>by
   subst e;have h:=HTP.out;rw[HTK.out]at h;injection h with h;exact h.symm
  have hskip:¬ (tk=0/\tt=Qaj)->(p<i+1->z=((O:Nat):Int)):=fun hne hlt=>by
   by_cases e:p=i
   ·have h:=hsame e;subst h;exact absurd ⟨HTD.out.1,HTD.out.2.1⟩ hne
   ·exact HZ.out (by omega)
  have HSK:=Lib.hid hskip;have HSA:=Lib.hid hsame;clear hskip hsame
  by_cases c0:tk=0
  ·subst c0
   by_cases c1:tt=[100,101,102,97,117,108,116]
   ·subst c1
    have HZ2:Hid (p<i+1->tof=((O:Nat):Int)):=fun hlt=>by
     by_cases e:p=i
     ·have h:=HSA.out e;have h2:=HTD.out.2.2.1;rw[h]at h2;exact h2
     ·exact absurd ⟨rfl,rfl⟩ (HNO.out i _ (by omega) HTK.out)
    clear HSK HSA;go_wp2;go_roundw
    case rel=>exact⟨i+1,tof,by omega,by go_num,rfl,HZ2.out,by first|rfl|trivial⟩
    case measure=>simp[intOf];omega
   ·have q1:(tt==[100,101,102,97,117,108,116])=false:=beq_eq_false_iff_ne.2 c1;have HZ2:=Lib.hid (HSK.out (fun h=>c1 h.2));clear c1 HSK HSA;go_wp2;go_roundw
    case rel=>exact⟨i+1,z,by omega,by go_num,rfl,HZ2.out,by first|rfl|trivial⟩
    case measure=>simp[intOf];omega
  ·have q1:(tk==(0:Int))=false:=beq_eq_false_iff_ne.2 c0;have HZ2:=Lib.hid (HSK.out (fun h=>c0 h.1));clear c0 HSK HSA;go_wp2;go_roundw
   case rel=>exact⟨i+1,z,by omega,by go_num,rfl,HZ2.out,by first|rfl|trivial⟩
   case measure=>simp[intOf];omega
 have hik:i=k:=by omega
 subst hik;have hzO:z=((O:Nat):Int):=HZ.out (by have:=HPL.out;omega);subst hzO;have dil:decide ((i:Int)<(i:Int))=false:=decide_eq_false (by omega);clear HZ hi HT10 HTP HNO HPL;go_upto_region 25 with fail;clear dil;have hOl:O<=l.length:=HTD.out.2.2.2;have hl15:l.length<=1500:=HE.out.1;have hx1:(bs l).extract 0 O=bs (l.take O):=by rw[KY];simp
 have hx2:(bs l).extract O l.length=bs (l.drop O):=by rw[KY,List.take_of_length_le (by simp)]
 have hxm:Qae xmX=[32,119,104,101,110,32,40,116,114,117,101,41,32,116,104,101,110,32,109,101,100,105,97,32,34,109,34,32]:=by decide +kernel
 have hpm:=HPX.out;rw[hxm]at hpm;have hA:(l.take O).length<=1500:=by rw[List.length_take];omega
 have hD:(l.drop O).length<=1500:=by rw[List.length_drop];omega
 obtain⟨A,hAe⟩:∃ A,l.take O=A:=⟨_,rfl⟩
 obtain⟨D,hDe⟩:∃ D,l.drop O=D:=⟨_,rfl⟩
 rw[hAe]at hpm hx1 hA;rw[hDe]at hpm hx2 hD;obtain⟨A2,hA2⟩:∃ A2,A++[32,119,104,101,110,32,40,116,114,117,101,41,32,116,104,101,110,32,109,101,100,105,97,32,34,109,34,32]=A2:=⟨_,rfl⟩
 obtain⟨U,hU⟩:∃ U,A2++D=U:=⟨_,rfl⟩
 have hx3:bs A++(⟨#[32,119,104,101,110,32,40,116,114,117,101,41,32,116,104,101,110,32,109,101,100,105,97,32,34,109,34,32]⟩:ByteArray)=bs A2:=by rw[<- hA2];exact QbP _ _
 have hx4:bs A2++bs D=bs U:=by rw[QbP,hU]
 rw[<- List.append_assoc,hA2,hU]at hpm;have y1:A2.length=A.length+28:=by rw[<- hA2,length_append];rfl
 have y2:U.length=A2.length+D.length:=by rw[<- hU,length_append]
 have z1:=JF A;have z2:=JF A2;have z3:=JF D;have z4:=JF U;clear hAe hDe hA2 hU hxm;obtain⟨r',hr'⟩:∃ r':Qaq,(⟨r.funcs,r.clauses++[⟨.mk 1 1 [] [],1,[109]⟩],r.action⟩:Qaq)=r':=⟨_,rfl⟩
 rw[hr']at hpm;have HRE:=Lib.hid hr'
 have HCP:Hid (∀ W,Below w10.heap.size w10 W->Calls Tryz.prog 16 #[.string (bs U)] W (PsP W (r',0,0))):=fun W hW=>by
  have:=Qbm U W (by omega) (HL.out.below (Jd HB10.out hW));rw[hpm]at this;exact this
 clear hpm hr';have b1:¬ 9223372036854775807<A.length+28:=by omega
 have b2:¬ 9223372036854775807<A2.length+D.length:=by omega
 clear y1 y2;go_cut [21,22,23] (fun s21 s22 s23 wx=>s22=.int .i64 0/\Hid (Bel w10 wx)/\Hid (QlK w10 wx r' s21))
 case first=>
  go_region_held3 (fun W=>Below w10.heap.size w10 W) (first|exact Below.refl _ _|exact(Below.refl _ _).drew|exact QhY (by assumption)|exact Jd (by assumption) hbx|exact Qjm (by first|exact le_refl _|exact hbx.size|exact le_trans (Nat.le_of_lt (by simp)) hbx.size) (by assumption)|exact Qen (le_refl _) (Qen (le_refl _) (Qen (le_refl _) (by assumption)))|exact Qen hbx.size (Qen hbx.size (Qen hbx.size (by assumption)))|go_keep) (first
    |(go_at_call 16;(with_reducible refine Calls.mono (HCP.out _ (by first|assumption|(apply And.left;assumption))) ?_);rintro e w' hp;obtain⟨cx,rfl,hxx,hbx⟩:=hp;obtain⟨fa9,fn9,fc9,ga9,rfl⟩:=QiE hxx;try (have hh:w'.heap[w10.heap.size]?=some (.cells #[.slice none 0 0,.slice none 0 0,.int .i64 0] 25):=(hbx.block _ (by simp)).trans (heap_alloc_new _ _);obtain⟨c0,c1,c2⟩:=Qcv hh;have f0:=Jc hh 0;have f1:=Jc hh 1;have f2:=Jc hh 2;have hl4:=Jb hh;have HH:=Lib.hid hh;clear hh)))
  all_goals
   go_wp2;go_meet
   first|exact⟨rfl,(by assumption),QgM hbx.size hxx⟩|exact⟨rfl,(by assumption),Qgb (le_refl _) (by simp) HH.out hxx⟩
 case rest=>
 obtain⟨rfl,hbc,hbox⟩:=hcut;obtain⟨xb,xa,xc,ya,yc,rfl,hxb,hrow,hrx⟩:=hbox.out;have HBC:Hid (Bel w10 wc):=hbc.out;have HRW:=Lib.hid hrow;have HRX:=Lib.hid hrx;have HXB:Hid (w10.heap.size<=xb):=hxb;have hk5:k5<w10.heap.size:=Jb HR10.out;have hne:k5≠xb:=by omega
 have hcap:=QjH hrx;have hcl:r'.clauses.length=r.clauses.length+1:=by rw[<- HRE.out,length_append];rfl
 have hfl:r'.funcs.length=r.funcs.length:=by rw[<- HRE.out]
 have hac:r'.action=r.action:=by rw[<- HRE.out]
 have hlast:r'.clauses[r.clauses.length]?=some ⟨.mk 1 1 [] [],1,[109]⟩:=by rw[<- HRE.out,List.getElem?_append_right (le_refl _),Nat.sub_self];rfl
 have hnc:=HALL.out.nc;obtain⟨m,hm⟩:∃ m,r.clauses.length=m:=⟨_,rfl⟩
 have hrx2:QaZ wc (In wc) r' _:=hrx.keep (fun _ _=>rfl) (fun b hb=>hb.1);obtain⟨_,_,_,_,hae0,_,hcx⟩:=hrx2.parts;obtain⟨ad,cc,hae,g1⟩:=Qec.of ClX.len hcx;have e9:Value.slice ya r'.clauses.length yc=_:=(congrArg (fun q:Array Value=>q[1]!) hae0).trans hae;injection e9 with e9 _ e10;subst e9;subst e10;obtain⟨bq,oq,ha1,hk1⟩:=g1 (List.ne_nil_of_mem (List.mem_of_getElem? hlast));subst ha1;obtain⟨d1,hr1,hc1⟩:=hk1 _ _ hlast;obtain⟨za,zc,rfl⟩:=QhV hr1;have HC1:=Lib.hid hc1;have HN11:=Lib.hid (QbU HR10.out HBC.out);rw[hcl,hfl,hac]at HRW HRX;rw[hcl]at hcap;rw[hm]at HRW HRX hcap hnc HC1 HN11 HR10;have HM:=Lib.hid hm;have HHN:Hid (xb<wc.heap.size):=Jb hrow;obtain⟨r0,r1,r2⟩:=Qcv HN11.out;obtain⟨y0,y1,y2⟩:=Qcv HRW.out;have e0:wc.cell? ⟨bq,oq+m*6,none⟩=some (.int .i64 1):=HC1.out wc (Below.refl _ _) 0 _ rfl;have e1:=HC1.out wc (Below.refl _ _) 1 _ rfl;have e2:=HC1.out wc (Below.refl _ _) 2 _ rfl;have e3:=HC1.out wc (Below.refl _ _) 3 _ rfl;have e4:=HC1.out wc (Below.refl _ _) 4 _ rfl;have e5:=HC1.out wc (Below.refl _ _) 5 _ rfl;have wk:IntKind.i64.wrap ((m:Int)+1)=((m+1:Nat):Int):=by rw[IntWalk.i64_in _ (by omega)];omega
 clear hbc hbox hrow hrx hxb hk5 hcl hfl hac hlast hrx2 hae0 hcx hae g1 hk1 hr1 hc1 hm hx1 hx2 hx3 hx4 z1 z2 z3 z4 b1 b2 hA hD hOl;go_upto_region 26 with fail;go_upto_region 27 with fail;go_upto_region 29 with fail;go_upto_region 30 with fail;clear e0 e1 e2 e3 e4 e5 r0 r1 r2 y0 y1 y2 HC1;generalize hw12:World.alloc wc _=w12 at *;obtain⟨hb12,hz12⟩:=QiN hw12;clear hw12;have hcb:wc.heap.size≠xb:=by have:=HHN.out;omega
 have HW12:Hid (Bel wc w12):=hb12;have HR12:=Lib.hid (QbU HRW.out hb12);have HN12:=Lib.hid (QbU HN11.out hb12);have HX12:Hid (QaZ w12 (fun b=>b<w12.heap.size/\b≠xb) _ _):=HRX.out.keep (fun b hb=>hb12.block b hb.1) (fun b hb=>⟨Nat.lt_of_lt_of_le hb.1 hb12.size,hb.2⟩);have HZ12:=Lib.hid hz12;have HBL:Hid (Bel w10 w12):=Jd HBC.out hb12;generalize wc.heap.size=cb at *;obtain⟨y0,y1,y2⟩:=Qcv HR12.out;have fz:=Jc HR12.out 1;have dm:decide ((m:Int)<=(yc:Int))=true:=decide_eq_true (by omega);have dmN:decide (m<=yc)=true:=decide_eq_true (by omega);clear hz12 hb12 HRW HRX HN11 HW12;go_upto_region 31 with fail;clear y0 y1 y2 fz dm dmN;have hk5:k5<w10.heap.size:=Jb HR10.out;have hb13:Bel w10 (w12.setCell ⟨xb,1,none⟩ (.slice (some ⟨bq,oq,none⟩) m yc)):=HBL.out.setCell HXB.out _;have hr13:(w12.setCell ⟨xb,1,none⟩ (.slice (some ⟨bq,oq,none⟩) m yc)).heap[xb]?=some (.cells #[.slice xa r.funcs.length xc,.slice (some ⟨bq,oq,none⟩) m yc,.int .i64 r.action] 25 (0,0)):=heap_setCell_same _ _ 1 _ _ _ HR12.out;have hn13:=Jk (p:=⟨xb,1,none⟩) HN12.out hne (.slice (some ⟨bq,oq,none⟩) m yc);have hz13:=Jk (p:=⟨xb,1,none⟩) HZ12.out hcb (.slice (some ⟨bq,oq,none⟩) m yc)
 have hx13:QaZ (w12.setCell ⟨xb,1,none⟩ (.slice (some ⟨bq,oq,none⟩) m yc)) (In (w12.setCell ⟨xb,1,none⟩ (.slice (some ⟨bq,oq,none⟩) m yc))) r #[.slice xa r.funcs.length xc,.slice (some ⟨bq,oq,none⟩) m yc,.int .i64 r.action]:=by
  have h:=HX12.out;rw[<- HRE.out]at h;have h2:=QhH h;rw[HM.out]at h2;exact h2.keep (fun b hb=>QhE hb.1 hb.2) (fun b hb=>by show b<_;simp[World.setCell];exact hb.1)
 generalize World.setCell w12 _ _=w13 at *;have HB13:Hid (Bel w w13):=Jd HB10.out hb13;have HY13:=Lib.hid (HZ10.out.up hb13);rw[HM.out]at HY13;have HX13:=Lib.hid hx13;have HR13:=Lib.hid hr13;have HN13:=Lib.hid hn13;have HC13:=Lib.hid (BxB.of hz13);clear hb13 hr13 hn13 hz13 hx13 HR12 HN12 HX12 HZ12 HBL;obtain⟨r0,r1,r2⟩:=Qcv HN13.out;obtain⟨y0,y1,y2⟩:=Qcv HR13.out;have cs:=Jaf (w0:=w13) r r _ _ w13 HALL.out HX13.out HY13.out (Below.refl _ _);rw[(JcZ r r).2 rfl]at cs;go_wp2_with fail;refine cs.mono ?_;rintro e w14 ⟨rfl,hb14⟩;have HB14:Hid (Bel w w14):=Jd HB13.out hb14;obtain⟨e0,e1,e2,e3,e4,e5⟩:=Qia (HC13.out _ hb14);have ce:Calls Tryz.prog 21 #[.agg #[.int .i64 1,.int .i64 1,.string (bs []),.slice za 0 zc],.agg #[.int .i64 1,.int .i64 1,.string ⟨#[]⟩,.slice none 0 0]] w14 (Qck w14 (.bool (eqE (.mk 1 1 [] []) (.mk 1 1 [] [])))):=Vl (w0:=w14) (.mk 1 1 [] []) (.mk 1 1 [] []) [.int .i64 1,.int .i64 1,.string (bs []),.slice za 0 zc] [.int .i64 1,.int .i64 1,.string (bs []),.slice none 0 0] w14 (by simp[utN,utL,JG,JE]) (Qil _ _ _ _ _ _ _) (Qil _ _ _ _ _ _ _) (Below.refl _ _);rw[(JcV _ _).2 rfl]at ce;have um:=Jl [109];clear cs hb14 r0 r1 r2 y0 y1 y2 HR13 HN13 HY13 HX13;go_wp2_with fail;refine ce.mono ?_;rintro e w15 ⟨rfl,hb15⟩;have HB15:Hid (Bel w w15):=Jd HB14.out hb15;clear ce hb15 e0 e1 e2 e3 e4 e5;go_wp2;go_ret;exact⟨rfl,HB15.out⟩
open Go.ChangeMaps (open_string shut_string)
set_option maxRecDepth 100000 in
theorem QdJ(os:Os)(started:os.Started)(H:Type)(enc:TypeId × Value->H) :
  ReturnsInHanded {} Tryz.checked os 7 .any (fun w args=>(Rows.ruleRenamesSpec.pre enc Tryz.prog Tryz.f7 Rows.ruleRenamesRow.domain false w args/\laidMet Tryz.prog Qbv w)/\sizedMet enc Tryz.prog Tryz.f7 (OpenSpec.ofChange Rows.ruleRenamesSpec) false w args)
   (Rows.ruleRenamesSpec.post enc Tryz.prog Tryz.f7 false true false false):=by
 refine returnsInHanded_of_change_and (C:=Tryz.checked) (X:=fun w _=>laidMet Tryz.prog Qbv w) (fun _ _ _ hh h=>h.of_heap hh) own started (by kernel_rfl) Tryz.func7
  (ChangeSpec.witness_at (enc:=enc) (C:=Tryz.checked) (os:=os) (X:=fun w _=>laidMet Tryz.prog Qbv w) false (QeM os) #[.string ⟨#[]⟩,.string ⟨#[]⟩,.string ⟨#[]⟩] 8 rfl (by kernel_rfl) (by kernel_rfl) (by kernel_rfl) (by kernel_rfl) (by kernel_rfl) (Jag os _)) ?_
 intro W base args ds gs before hval0 hW _ hsz0 hL _;have hsz:(DataW.weightsEach Tryz.prog (Tryz.f7.params.toList++Rows.ruleRenamesSpec.plain.varTypes Tryz.prog) (ds++gs)).all (·<=reachBytes)=true:=hsz0;clear hsz0;have hval:∀ (j:Nat) t v,Tryz.f7.params[j]?=some t->args[j]?=some v->Value.okWide Tryz.prog W .any base t v:=hval0;have hW':=hW;obtain⟨p,q,hA0,hV,rfl,_,_⟩:=hW;have hA:DataW.TrodAll enc Tryz.prog W 0 (fun _=>true) true Tryz.f7.params.toList args.toList ds p:=hA0;rw[Tryz.params7]at hA hval hsz;obtain⟨v0,vs0,d0,ds0,p0,q0,hargs,rfl,rfl,h0,r0⟩:=trodAll_cons hA;obtain⟨v1,vs1,d1,ds1,p1,q1,rfl,rfl,rfl,h1,r1⟩:=trodAll_cons r0;obtain⟨v2,vs2,d2,ds2,p2,q2,rfl,rfl,rfl,h2,r2⟩:=trodAll_cons r1;obtain⟨rfl,rfl,rfl⟩:=trodAll_nil r2;obtain rfl:args=#[v0,v1,v2]:=by cases args;simp_all
 obtain⟨rfl,rfl⟩:=trodVars_none hV;obtain⟨s0,rfl,rfl,rfl,hs0⟩:=open_string Tryz.underlying9 (hval 0 9 v0 rfl rfl) h0
 have hlim0:s0.size<=140737488355328:=by
  have h1:=sized_string hsz (j:=0) (t:=9) rfl rfl;have h2:=reachBytes_lt;have e1:s0.size=s0.data.size:=rfl;have e2:s0.data.toList.length=s0.data.size:=Array.length_toList;have e3:(2:Nat) ^ 47=140737488355328:=by decide
  omega
 obtain⟨a0,rfl⟩:=JbU s0;obtain⟨s1,rfl,rfl,rfl,hs1⟩:=open_string Tryz.underlying9 (hval 1 9 v1 rfl rfl) h1
 have hlim1:s1.size<=140737488355328:=by
  have h1:=sized_string hsz (j:=1) (t:=9) rfl rfl;have h2:=reachBytes_lt;have e1:s1.size=s1.data.size:=rfl;have e2:s1.data.toList.length=s1.data.size:=Array.length_toList;have e3:(2:Nat) ^ 47=140737488355328:=by decide
  omega
 obtain⟨a1,rfl⟩:=JbU s1;obtain⟨s2,rfl,rfl,rfl,hs2⟩:=open_string Tryz.underlying9 (hval 2 9 v2 rfl rfl) h2
 have hlim2:s2.size<=140737488355328:=by
  have h1:=sized_string hsz (j:=2) (t:=9) rfl rfl;have h2:=reachBytes_lt;have e1:s2.size=s2.data.size:=rfl;have e2:s2.data.toList.length=s2.data.size:=Array.length_toList;have e3:(2:Nat) ^ 47=140737488355328:=by decide
  omega
 obtain⟨a2,rfl⟩:=JbU s2;refine(QeJ a0 a1 a2 W (by rw[JF]at hlim0;omega) (by rw[JF]at hlim1;omega) (by rw[JF]at hlim2;omega) (Jjs hL)).mono fun e W' hp=>?_
 obtain⟨rfl,hB⟩:=hp;exact⟨_,rfl,Jhq QiP (by kernel_rfl) rfl Tryz.underlying4 rfl hW' rfl hB⟩
theorem QeE:Rows.RuleRenamesSaid:=
 OpenClaim.holds_of_wide 7 Tryz.f7 rfl rfl rfl rfl rfl rfl rfl ⟨rfl,rfl,rfl,rfl,rfl⟩ rfl rfl rfl rfl rfl (by kernel_rfl) Tryz.func7 (by kernel_rfl)
  (of_decide_eq_true (by kernel_rfl)) (by unfold Func.isWrapper;first|(rw[if_pos (by decide +kernel)];kernel_rfl)|(rw[if_neg (by decide +kernel)];exact⟨rfl,rfl⟩))
  (fun os started H enc _=>QdJ os started H enc)
theorem rrenames_holds:Rows.RuleRenamesCardSaid:=
 Claim7.holds_tied_plain_at .later [] [.data,.data,.data,.sentinel,.sentinel] true (true,"0e561d084001cd13431b698fc29d6af0d792d1a592a366644759c5e6d44678d7") true
  QeE (fun _ h=>by cases h) (by kernel_rfl) (fun _ h=>by cases h) ruleRenames_row_tie rfl ⟨rfl,rfl⟩ (by kernel_rfl) rfl
  (fun f fn hf hfn=>by
   obtain rfl:f=7:=Option.some.inj ((show Tryz.prog.funcNamed "agora/agoralaw31.RuleRenames"=some 7 by kernel_rfl).symm.trans hf) |>.symm;obtain rfl:fn=Tryz.f7:=(Option.some.inj (Tryz.func7.symm.trans hfn)).symm
   exact⟨by kernel_rfl,fun j t ht=>by
    rw[Tryz.params7]at ht
    have h3:t=9:=by
     match j with
     |0=>simp at ht;subst ht;decide
     |1=>simp at ht;subst ht;decide
     |2=>simp at ht;subst ht;decide
     |(j+3)=>simp at ht
    rcases h3 with h3<;>subst h3
    ·exact(show Tryz.prog.wantsStandIn 9=false by kernel_rfl)⟩)
  (by kernel_rfl)
#print axioms rrenames_holds
end Go.Proofs.YtdlkcjkjnehnkaaGreatDoor
