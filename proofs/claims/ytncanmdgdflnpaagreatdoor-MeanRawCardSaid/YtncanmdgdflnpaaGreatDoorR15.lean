/- The law answers true for all inputs; there are no conditions. -/
import Derived.SevenTiedAt
import Derived.ChangeVars
import Derived.ChangeMaps5
import Derived.JoinedOf
import Derived.JoinedAt
import Derived.RowKit
import Derived.RowKit3
import Derived.RowKitTokens
import Derived.SizedLaws
import Derived.Test.YtncanmdgdflnpaaGreatDoorCards
import Derived.Test.YtncanmdgdflnpaaGreatDoorTie
import Derived.Test.YtncanmdgdflnpaaGreatDoorR08
import Derived.Test.YtncanmdgdflnpaaGreatDoorR14
namespace Go.Proofs.YtncanmdgdflnpaaGreatDoor
open Go Go.Lib
open Go.ChangeShapes Go.WideShapes Go.ChangeAt Go.RowKit Go.Lib
open Go.ChangeShapes Go.WideShapes Go.RowKit Go.Deep
open Go.Joins
open _root_.Go.Proofs.Tryz
set_option linter.all false
set_option maxRecDepth 100000
set_option maxHeartbeats 32000000
mutual
def Qen:∀(e:Exp)(d:Nat)(n:Int),0<=Qbk d n e->(siz (utN e):Int)<=n-Qbk d n e
 |.mk k m s l,d,n,h=>by
  rw[Qbk]at h |-;have:=Qfs l d (n-1) h;unfold utN;rw[JA];omega
def Qfs:∀(l:List Exp)(d:Nat)(n:Int),0<=Qcv d n l->(Qaz (utL l):Int)<=n-Qcv d n l
 |[],d,n,h=>by
  rw[Jbv]at h |-;unfold utL;rw[JG];split at h
  ·omega
  ·rw[if_neg (by omega)];omega
 |a::l,d,n,h=>by
  rw[V5]at h |-;split at h
  ·omega
  ·rw[if_neg (by omega)]
   cases d with
   |zero=>exact absurd h (by simp[Qir])
   |succ d=>
    have h':0<=Qcv (d+1) (Qbk d n a) l:=h
    have h0:0<=Qbk d n a:=by
     by_cases h0:0<=Qbk d n a
     ·exact h0
     ·rw[VQ (d+1) (by omega) l]at h';omega
    have h1:=Qen a d n h0;have h2:=Qfs l (d+1) _ h'
    show _<=n-Qcv (d+1) (Qbk d n a) l
    rw[utL,Ju];omega
end
def Qfz:∀(l:List FnM)(n:Int),0<=QcF n l->QcF n l<=n/\(l.length:Int)<=n/\∀f∈l,(f.params.length:Int)<=n/\(siz (utN f.body):Int)<=n
 |[],n,h=>by rw[QcF]at h |-;exact⟨by omega,by simpa using h,λf hf=>by cases hf⟩
 |f::l,n,h=>by
  rw[QcF]at h |-;split at h
  ·omega
  ·rw[if_neg zo];obtain⟨h1,h2,h3⟩:=Qfz l _ h;have h4:=Qen f.body 60 (n-f.params.length) zo;have h5:=Jdn f.body;refine⟨by omega,by simp;omega,λg hg=>?_⟩
   rcases List.mem_cons.1 hg with rfl|hg
   ·exact⟨by omega,by omega⟩
   ·obtain⟨h6,h7⟩:=h3 g hg;exact⟨by omega,by omega⟩
def QfA:∀(l:List ClM)(n:Int),0<=Qch n l->Qch n l<=n/\(l.length:Int)<=n/\∀f∈l,(siz (utN f.cond):Int)<=n
 |[],n,h=>by rw[Qch]at h |-;exact⟨by omega,by simpa using h,λf hf=>by cases hf⟩
 |f::l,n,h=>by
  rw[Qch]at h |-;split at h
  ·omega
  ·rw[if_neg zo];obtain⟨h1,h2,h3⟩:=QfA l _ h;have h4:=Qen f.cond 60 n zo;have h5:=Jdn f.cond;refine⟨by omega,by simp;omega,λg hg=>?_⟩
   rcases List.mem_cons.1 hg with rfl|hg
   ·omega
   ·have:=h3 g hg;omega
def Qiq{r:Qah}{F:Qav}(h:Qdn r F=true)(hr:RNm r):RSz r:=by
 unfold Qdn at h;simp only[Bool.and_eq_true,decide_eq_true_eq]at h;obtain⟨⟨h1,_⟩,_⟩:=h;obtain⟨h2,h3,h4⟩:=QfA _ _ h1;obtain⟨h5,h6,h7⟩:=Qfz _ _ (by omega:0<=QcF 300 r.funcs);refine⟨by omega,by omega,λf hf=>?_,λc hc=>?_⟩
 ·obtain⟨g1,g2,g3⟩:=hr.fn f hf;obtain⟨g4,g5⟩:=h7 f hf;exact⟨g1,by omega,g3,by omega⟩
 ·obtain⟨g1,g2⟩:=hr.cl c hc;have:=h4 c hc;exact⟨g1,by omega,g2⟩
def QlS(w:World)(o0 o1 o2 o3:Obj):Bel w ((((w.alloc o0).alloc o1).alloc o2).alloc o3)/\((((w.alloc o0).alloc o1).alloc o2).alloc o3).heap[w.heap.size]?=some o0/\((((w.alloc o0).alloc o1).alloc o2).alloc o3).heap[w.heap.size+1]?=some o1/\
  ((((w.alloc o0).alloc o1).alloc o2).alloc o3).heap[w.heap.size+1+1]?=some o2/\((((w.alloc o0).alloc o1).alloc o2).alloc o3).heap[w.heap.size+1+1+1]?=some o3:=by
 have h0:=zzw w o0;have h1:=zzw (w.alloc o0) o1;have h2:=zzw ((w.alloc o0).alloc o1) o2;have h3:=zzw (((w.alloc o0).alloc o1).alloc o2) o3;simp only[World.size_alloc]at h1 h2 h3;exact⟨(((zzb.alloc zzl _).alloc zp _).alloc zq _).alloc zq _,Jf (Jf (Jf h0)),Jf (Jf h1),Jf h2,h3⟩
def Qju(X Y:QiW)(W:World):(binOp .eql 36 (.agg (QdO X)) (.agg (QdO Y))).run prog W=.ok (.bool (decide (X=Y))) W:=by
 have hu:prog.underlying 36=some (.struct (prog.fieldsOf 36)):=zk
 have hp:prog.stoodInHeld 36=false:=zk
 rw[run_eql_struct,run_equalIn_agg _ _ _ _ _ hu hp];unfold Program.fieldsOf;rw[underlying36];obtain⟨a,b,x,y⟩:=X;obtain⟨a',b',x',y'⟩:=Y;have u3:=underlying3;have u9:=underlying9;have xA:=underlying31;simp[Op.eqFields,QdO,go_sem];simp only[Jk]
 by_cases h1:a=a'
 ·by_cases h2:b=b'
  ·by_cases h3:x=x'
   ·by_cases h4:y=y'
    ·simp[h1,h2,h3,h4]
    ·simp[h1,h2,h3,h4]
   ·simp[h1,h2,h3]
  ·simp[h1,h2]
 ·simp[h1]
def QgD(X Y:QiW)(w:World):Calls prog 31 #[.agg (QdO X),.agg (QdO Y)] w (QbL w (.bool (decide (X=Y)))):=by
 obtain⟨a,b,x,y⟩:=X;obtain⟨a',b',x',y'⟩:=Y;have h:=Qja a x y a' x' y' b b' w
 have e:decide ((⟨a,b,x,y⟩:QiW)=⟨a',b',x',y'⟩)=(decide (a=a')&&decide (b=b')&&decide (x=x')&&decide (y=y')):=by
  by_cases h1:a=a'<;>by_cases h2:b=b'<;>by_cases h3:x=x'<;>by_cases h4:y=y'<;>simp[h1,h2,h3,h4]
 rw[e];exact h
def Qic(X:QiW)(w:World):Calls prog 31 #[.agg (QdO X),.agg (QdO X)] w (QbL w (.bool true)):=by
 have h:=QgD X X w
 rwa [zE (rfl:X=X)]at h
theorem zBw{P:Prop}(h:P:=by
  have o5:a0.tmps[5]?.getD undef=Pt fb:=ho 5 zk;obtain⟨⟨b0,b1,b2,b3,b4,b5,b6,b7,b8,b9,b10,b11⟩,_⟩:=T5.o _ hb;go_simp;exact hK.out _ _ zzb (λ_ _ _=>rfl) λh=>absurd h zd):P:=h
theorem zBx{P:Prop}(h:P:=by
  refine cr.mono ?_;rintro e w9 ⟨rfl,yA⟩;exact hK.out _ _ yA (λ_ _ _=>rfl) λh=>absurd h zd):P:=h
theorem zBy{P:Prop}(h:P:=by
  have o6:a0.tmps[6]?.getD undef=Pt xb:=ho 6 zk;obtain⟨x0,x1,x2,x3⟩:=Q2.o _ hb;go_simp;exact hK.out _ _ zzb (λ_ _ _=>rfl) λh=>absurd h zd):P:=h
theorem zBz{P:Prop}(h:P:=by
  obtain⟨v1,rfl,e1⟩:=hd 1 17 zk rfl;rw[if_pos (Qaj e1 zk)];have o4:a0.tmps[4]?.getD undef=Pt rb:=ho 4 zk;obtain⟨⟨r0,r1,r2⟩,_⟩:=uA.o _ hb;go_simp;exact hK.out _ _ zzb (λ_ _ _=>rfl) λh=>absurd h zd):P:=h
theorem zB0{P:Prop}(h:P:=by
  obtain⟨vA,rfl,xA⟩:=hd 17 33 zk rfl;rw[if_pos (Qaj xA zk)];have o7:a0.tmps[7]?.getD undef=Pt yb:=ho 7 zk;obtain⟨y0,y1,y2,y3⟩:=eA.o _ hb;go_simp;exact hK.out _ _ zzb (λ_ _ _=>rfl) λh=>absurd h zd):P:=h
def Qjd(r:Qah)(cr:Array Value)(F:Qav)(la wa:Option Addr)(lc wc:Nat)(X Y:QiW)(w:World)(hr:QaV w (In w) r cr)(hn:RNm r)(hlab:Qbm w (.slice la F.labels.length lc) F.labels)(hwd:QaF w (.slice wa F.words.length wc) F.words)(hL:Laid w):
  Calls prog 9 #[.agg cr,.agg (QaI F (.slice la F.labels.length lc) (.slice wa F.words.length wc)),.agg (QdO X),.agg (QdO Y)] w (Qfl w true):=by
 obtain⟨A0,pA,xB,rA,nA⟩:=QlS w (.cells cr 30) (.cells (QaI F (.slice la F.labels.length lc) (.slice wa F.words.length wc)) 25) (.cells (QdO X) 36) (.cells (QdO Y) 36);have jA:=Zh (QhN.of pA (hr.up A0));have AA:=Zh (QeX.of xB (hlab.up A0) (hwd.up A0));have C0:=Zh (QkK.of rA);have kA:=Zh (QkK.of nA);have hA:=Zh (show Bel w _ from A0);have iA:=Zh hn;have HL:=Zh hL;obtain⟨fa,fc,ga,gc,rfl⟩:=hr.form;clear A0 pA xB rA nA hr hn hlab hwd hL;unfold QaI QdO at jA AA C0 kA hA |-;go_enter func9,ntmps9;go_upto_region 1 with fail;generalize World.alloc (World.alloc (World.alloc (World.alloc w _) _) _) _=w1 at*;generalize w.heap.size+1+1+1=yb at*;generalize w.heap.size+1+1=xb at*;generalize w.heap.size+1=fb at*;generalize w.heap.size=rb at*;go_wp2_with fail;refine(Jgm w1 (HL.o.below hA.o)).mono ?_;rintro e w2 ⟨rfl,I0⟩;have cA:=Zh (Je hA.o I0);have uA:=Zh (jA.o.up I0);have T5:=Zh (AA.o.up I0);have Q2:=Zh (C0.o.up I0);have eA:=Zh (kA.o.up I0);clear jA AA C0 kA;replace cA:Hi (Bel w w2):=cA;clear I0 hA;obtain⟨fa,fc,ca,cc,qA⟩:=uA.o;have D4:=Zh qA;clear qA uA;obtain⟨⟨r0,r1,r2⟩,tA⟩:=D4.o _ zzb;obtain⟨⟨b0,b1,b2,b3,b4,b5,b6,b7,b8,b9,b10,b11⟩,vB,aB⟩:=T5.o _ zzb;have cl:=Jgn r F _ la wa lc wc w2 tA iA.o.len;unfold QaI at cl;clear tA vB aB;obtain⟨q,hq⟩:∃q,Qdn r F=q:=⟨_,rfl⟩
 rw[hq]at cl;have HQ:=Zh hq;clear hq;go_wp2_with fail;refine cl.mono ?_;rintro e w3 ⟨rfl,hb⟩;have C4:Hi (Bel w2 w3):=hb;clear cl hb r0 r1 r2 b0 b1 b2 b3 b4 b5 b6 b7 b8 b9 b10 b11
 cases q with
 |false=>
  have E0:Hi (Bel w w3):=Je cA.o C4.o;clear HQ;go_wp2;go_ret;exact⟨rfl,E0.o⟩
 |true=>
 have bA:=JhV HQ.o;have HZ:=Qiq HQ.o iA.o;have S4:Hi (Bel w w3):=Je cA.o C4.o;have uA:Hi (∀W,Bel w3 W->_):=λW hW=>D4.o W (Je C4.o hW)
 replace T5:Hi (∀W,Bel w3 W->_):=λW hW=>T5.o W (Je C4.o hW)
 replace Q2:=Zh (Q2.o.up C4.o);replace eA:=Zh (eA.o.up C4.o);have cr:=λW (hW:Bel w3 W)=>V4 r F _ (.slice la F.labels.length lc) (.slice wa F.words.length wc) W (QaV.keep (λ_ _=>rfl) (λq hq=>Nat.lt_of_lt_of_le hq (Je C4.o hW).size) (uA.o W hW).2) HZ bA (T5.o W hW).2.1 (T5.o W hW).2.2
 have cg:=λW (hW:Bel w3 W)=>QgV r F _ (.slice la F.labels.length lc) (.slice wa F.words.length wc) W (QaV.keep (λ_ _=>rfl) (λq hq=>Nat.lt_of_lt_of_le hq (Je C4.o hW).size) (uA.o W hW).2) HZ bA (T5.o W hW).2.1 (T5.o W hW).2.2
 have cf:=λW (hW:Bel w3 W)=>Vi F (.slice la F.labels.length lc) (.slice wa F.words.length wc) W bA (T5.o W hW).2.1 (T5.o W hW).2.2
 have ch:=λW (hW:Bel w3 W)=>QeS F (.slice la F.labels.length lc) (.slice wa F.words.length wc) W bA (T5.o W hW).2.1 (T5.o W hW).2.2
 unfold QaI QkP at cr cg;unfold QaI at cf ch;obtain⟨Z,sA⟩:∃x,QiT r F=x:=⟨_,rfl⟩
 rw[sA]at cr cg;have A4:=Zh cr;have R7:=Zh cg;have O4:=Zh cf;have d8:=Zh ch;clear sA cr cg cf ch bA HZ D4 C4 cA HQ HL iA;go_upto_region 4 with fail;refine JdU 32 [] (λi=>RK.rel (match i with|0=>.const (.bool true)|1=>.const (.bool true)|2=>.const (.agg #[.slice fa r.funcs.length fc,.slice ca r.clauses.length cc,Iv r.action])|3=>.const (.agg #[.slice la F.labels.length lc,Iv F.likes,Iv F.boosts,Iv F.replies,Iv F.reports,Iv F.age,Iv F.home,Iv F.scope,Iv F.length,.bool F.follows,.bool F.reply,.slice wa F.words.length wc])|4=>.const (.agg (QfU Z))|5=>.const (.agg #[.slice fa r.funcs.length fc,.slice ca r.clauses.length cc,Iv r.action])|6=>.const (.agg #[.slice la F.labels.length lc,Iv F.likes,Iv F.boosts,Iv F.replies,Iv F.reports,Iv F.age,Iv F.home,Iv F.scope,Iv F.length,.bool F.follows,.bool F.reply,.slice wa F.words.length wc])|7=>.const (.agg (QfU Z))|8=>.const (.bool true)|9=>.const (.bool true)|10=>.const (.bool true)|11=>.const (.agg #[.slice la F.labels.length lc,Iv F.likes,Iv F.boosts,Iv F.replies,Iv F.reports,Iv F.age,Iv F.home,Iv F.scope,Iv F.length,.bool F.follows,.bool F.reply,.slice wa F.words.length wc])|12=>.const (.bool (Qbs F))|13=>.const (.agg #[.slice la F.labels.length lc,Iv F.likes,Iv F.boosts,Iv F.replies,Iv F.reports,Iv F.age,Iv F.home,Iv F.scope,Iv F.length,.bool F.follows,.bool F.reply,.slice wa F.words.length wc])|14=>.const (.bool (Qbs F))|15=>.const (.bool true)|16=>.const (.bool true)|17=>.const (.bool true)|18=>.const (.agg (QdO X))|19=>.const (.agg (QdO Y))|20=>.const (.bool (decide (X=Y)))|21=>.const (.agg (QdO X))|22=>.const (.agg (QdO Y))|23=>.const (.bool (decide (X=Y)))|24=>.const (.bool true)|25=>.const (.bool true)|26=>.const (.bool true)|27=>.const (.agg (QdO X))|28=>.const (.agg (QdO X))|29=>.const (.bool true)|30=>.const (.bool true)|31=>.const (.bool true)|_=>.const undef)) (λW=>Bel w3 W) zzb.drew zd (λ_ _ h hb=>Je h hb) (λi v P P1 w w1=>RK.keep _ v P P1 w w1) (QkH (n:=32) ?_) ?_
 ·refine⟨⟨⟨⟨⟨⟨⟨⟨⟨⟨⟨⟨⟨⟨⟨⟨⟨⟨⟨⟨⟨⟨⟨⟨⟨⟨⟨⟨⟨⟨⟨⟨trivial,?_⟩,?_⟩,?_⟩,?_⟩,?_⟩,?_⟩,?_⟩,?_⟩,?_⟩,?_⟩,?_⟩,?_⟩,?_⟩,?_⟩,?_⟩,?_⟩,?_⟩,?_⟩,?_⟩,?_⟩,?_⟩,?_⟩,?_⟩,?_⟩,?_⟩,?_⟩,?_⟩,?_⟩,?_⟩,?_⟩,?_⟩,?_⟩
  ·refine Qcm.of 0 rfl λa0 w0 Pr hb hP hn hd ho K hK=>?_
   have o9:a0.tmps[9]?.getD undef=.bool true:=ho 9 zk;go_simp;exact hK.out _ _ zzb (λ_ _ _=>rfl) λh=>absurd h zd
  ·refine Qcm.of 1 rfl λa0 w0 Pr hb hP hn hd ho K hK=>?_
   obtain⟨v0,rfl,e0⟩:=hd 0 16 zk rfl;go_simp;exact hK.out _ _ zzb (λ_ _ _=>rfl) λh=>absurd h zd
  ·refine Qcm.of 2 rfl λa0 w0 Pr hb hP hn hd ho K hK=>?_
   exact zBz
  ·refine Qcm.of 3 rfl λa0 w0 Pr hb hP hn hd ho K hK=>?_
   obtain⟨v1,rfl,e1⟩:=hd 1 17 zk rfl;rw[if_pos (Qaj e1 zk)];exact zBw
  ·refine Qcm.of 4 rfl λa0 w0 Pr hb hP hn hd ho K hK=>?_
   obtain⟨v1,rfl,e1⟩:=hd 1 17 zk rfl;rw[if_pos (Qaj e1 zk)];obtain⟨v2,rfl,e2⟩:=hd 2 18 zk rfl;obtain⟨v3,rfl,e3⟩:=hd 3 19 zk rfl;have cr:=A4.o _ hb;go_simp;go_at_call 13;exact zBx
  ·refine Qcm.of 5 rfl λa0 w0 Pr hb hP hn hd ho K hK=>?_
   exact zBz
  ·refine Qcm.of 6 rfl λa0 w0 Pr hb hP hn hd ho K hK=>?_
   obtain⟨v1,rfl,e1⟩:=hd 1 17 zk rfl;rw[if_pos (Qaj e1 zk)];exact zBw
  ·refine Qcm.of 7 rfl λa0 w0 Pr hb hP hn hd ho K hK=>?_
   obtain⟨v1,rfl,e1⟩:=hd 1 17 zk rfl;rw[if_pos (Qaj e1 zk)];obtain⟨v5,rfl,e5⟩:=hd 5 21 zk rfl;obtain⟨v6,rfl,e6⟩:=hd 6 22 zk rfl;have cr:=R7.o _ hb;go_simp;go_at_call 14;exact zBx
  ·refine Qcm.of 8 rfl λa0 w0 Pr hb hP hn hd ho K hK=>?_
   obtain⟨v1,rfl,e1⟩:=hd 1 17 zk rfl;rw[if_pos (Qaj e1 zk)];obtain⟨v4,rfl,e4⟩:=hd 4 20 zk rfl;obtain⟨v7,rfl,e7⟩:=hd 7 23 zk rfl;have qn:∀W,(binOp .eql 36 (.agg (QfU Z)) (.agg (QfU Z))).run prog W=.ok (.bool true) W:=λW=>by rw[JjE];simp
   go_simp;exact hK.out _ _ zzb (λ_ _ _=>rfl) λh=>absurd h zd
  ·refine Qcm.of 9 rfl λa0 w0 Pr hb hP hn hd ho K hK=>?_
   obtain⟨v1,rfl,e1⟩:=hd 1 17 zk rfl;obtain⟨v8,rfl,e8⟩:=hd 8 24 zk rfl;go_simp;exact hK.out _ _ zzb (λ_ _ _=>rfl) λh=>absurd h zd
  ·refine Qcm.of 10 rfl λa0 w0 Pr hb hP hn hd ho K hK=>?_
   obtain⟨v9,rfl,e9⟩:=hd 9 25 zk rfl;go_simp;exact hK.out _ _ zzb (λ_ _ _=>rfl) λh=>absurd h zd
  ·refine Qcm.of 11 rfl λa0 w0 Pr hb hP hn hd ho K hK=>?_
   obtain⟨dA,rfl,zA⟩:=hd 10 26 zk rfl;rw[if_pos (Qaj zA zk)];exact zBw
  ·refine Qcm.of 12 rfl λa0 w0 Pr hb hP hn hd ho K hK=>?_
   obtain⟨dA,rfl,zA⟩:=hd 10 26 zk rfl;rw[if_pos (Qaj zA zk)];obtain⟨qB,rfl,jC⟩:=hd 11 27 zk rfl;have cr:=O4.o _ hb;go_simp;go_at_call 15;exact zBx
  ·refine Qcm.of 13 rfl λa0 w0 Pr hb hP hn hd ho K hK=>?_
   obtain⟨dA,rfl,zA⟩:=hd 10 26 zk rfl;rw[if_pos (Qaj zA zk)];exact zBw
  ·refine Qcm.of 14 rfl λa0 w0 Pr hb hP hn hd ho K hK=>?_
   obtain⟨dA,rfl,zA⟩:=hd 10 26 zk rfl;rw[if_pos (Qaj zA zk)];obtain⟨cB,rfl,iB⟩:=hd 13 29 zk rfl;have cr:=d8.o _ hb;go_simp;go_at_call 30;exact zBx
  ·refine Qcm.of 15 rfl λa0 w0 Pr hb hP hn hd ho K hK=>?_
   obtain⟨dA,rfl,zA⟩:=hd 10 26 zk rfl;rw[if_pos (Qaj zA zk)];obtain⟨kC,rfl,hC⟩:=hd 12 28 zk rfl;obtain⟨gC,rfl,dC⟩:=hd 14 30 zk rfl;have qb:((Qbs F)==(Qbs F))=true:=beq_self_eq_true _;go_simp;exact hK.out _ _ zzb (λ_ _ _=>rfl) λh=>absurd h zd
  ·refine Qcm.of 16 rfl λa0 w0 Pr hb hP hn hd ho K hK=>?_
   obtain⟨dA,rfl,zA⟩:=hd 10 26 zk rfl;obtain⟨eB,rfl,hB⟩:=hd 15 31 zk rfl;go_simp;exact hK.out _ _ zzb (λ_ _ _=>rfl) λh=>absurd h zd
  ·refine Qcm.of 17 rfl λa0 w0 Pr hb hP hn hd ho K hK=>?_
   obtain⟨mB,rfl,tB⟩:=hd 16 32 zk rfl;go_simp;exact hK.out _ _ zzb (λ_ _ _=>rfl) λh=>absurd h zd
  ·refine Qcm.of 18 rfl λa0 w0 Pr hb hP hn hd ho K hK=>?_
   obtain⟨vA,rfl,xA⟩:=hd 17 33 zk rfl;rw[if_pos (Qaj xA zk)];exact zBy
  ·refine Qcm.of 19 rfl λa0 w0 Pr hb hP hn hd ho K hK=>?_
   exact zB0
  ·refine Qcm.of 20 rfl λa0 w0 Pr hb hP hn hd ho K hK=>?_
   obtain⟨vA,rfl,xA⟩:=hd 17 33 zk rfl;rw[if_pos (Qaj xA zk)];obtain⟨qC,rfl,gB⟩:=hd 18 34 zk rfl;obtain⟨uC,rfl,eC⟩:=hd 19 35 zk rfl;have cr:Calls prog 31 #[.agg (QdO X),.agg (QdO Y)] w0 (QbL w0 (.bool (decide (X=Y)))):=QgD X Y w0;go_simp;go_at_call 31;exact zBx
  ·refine Qcm.of 21 rfl λa0 w0 Pr hb hP hn hd ho K hK=>?_
   obtain⟨vA,rfl,xA⟩:=hd 17 33 zk rfl;rw[if_pos (Qaj xA zk)];exact zBy
  ·refine Qcm.of 22 rfl λa0 w0 Pr hb hP hn hd ho K hK=>?_
   exact zB0
  ·refine Qcm.of 23 rfl λa0 w0 Pr hb hP hn hd ho K hK=>?_
   obtain⟨vA,rfl,xA⟩:=hd 17 33 zk rfl;rw[if_pos (Qaj xA zk)];obtain⟨dB,rfl,bC⟩:=hd 21 37 zk rfl;obtain⟨pC,rfl,yC⟩:=hd 22 38 zk rfl;have qn:∀W,(binOp .eql 36 (.agg (QdO X)) (.agg (QdO Y))).run prog W=.ok (.bool (decide (X=Y))) W:=λW=>Qju X Y W
   go_simp;exact hK.out _ _ zzb (λ_ _ _=>rfl) λh=>absurd h zd
  ·refine Qcm.of 24 rfl λa0 w0 Pr hb hP hn hd ho K hK=>?_
   obtain⟨vA,rfl,xA⟩:=hd 17 33 zk rfl;rw[if_pos (Qaj xA zk)];obtain⟨xC,rfl,rB⟩:=hd 20 36 zk rfl;obtain⟨sC,rfl,vC⟩:=hd 23 39 zk rfl;have qb:((decide (X=Y))==(decide (X=Y)))=true:=beq_self_eq_true _;go_simp;exact hK.out _ _ zzb (λ_ _ _=>rfl) λh=>absurd h zd
  ·refine Qcm.of 25 rfl λa0 w0 Pr hb hP hn hd ho K hK=>?_
   obtain⟨vA,rfl,xA⟩:=hd 17 33 zk rfl;obtain⟨kB,rfl,cC⟩:=hd 24 40 zk rfl;go_simp;exact hK.out _ _ zzb (λ_ _ _=>rfl) λh=>absurd h zd
  ·refine Qcm.of 26 rfl λa0 w0 Pr hb hP hn hd ho K hK=>?_
   obtain⟨mC,rfl,rC⟩:=hd 25 41 zk rfl;go_simp;exact hK.out _ _ zzb (λ_ _ _=>rfl) λh=>absurd h zd
  ·refine Qcm.of 27 rfl λa0 w0 Pr hb hP hn hd ho K hK=>?_
   obtain⟨mA,rfl,aA⟩:=hd 26 42 zk rfl;rw[if_pos (Qaj aA zk)];exact zBy
  ·refine Qcm.of 28 rfl λa0 w0 Pr hb hP hn hd ho K hK=>?_
   obtain⟨mA,rfl,aA⟩:=hd 26 42 zk rfl;rw[if_pos (Qaj aA zk)];exact zBy
  ·refine Qcm.of 29 rfl λa0 w0 Pr hb hP hn hd ho K hK=>?_
   obtain⟨mA,rfl,aA⟩:=hd 26 42 zk rfl;rw[if_pos (Qaj aA zk)];obtain⟨zC,rfl,pB⟩:=hd 27 43 zk rfl;obtain⟨nC,rfl,nB⟩:=hd 28 44 zk rfl;have cr:Calls prog 31 #[.agg (QdO X),.agg (QdO X)] w0 (QbL w0 (.bool true)):=Qic X w0;go_simp;go_at_call 31;exact zBx
  ·refine Qcm.of 30 rfl λa0 w0 Pr hb hP hn hd ho K hK=>?_
   obtain⟨mA,rfl,aA⟩:=hd 26 42 zk rfl;obtain⟨aC,rfl,jB⟩:=hd 29 45 zk rfl;go_simp;exact hK.out _ _ zzb (λ_ _ _=>rfl) λh=>absurd h zd
  ·refine Qcm.of 31 rfl λa0 w0 Pr hb hP hn hd ho K hK=>?_
   obtain⟨sB,rfl,iC⟩:=hd 30 46 zk rfl;go_simp;exact hK.out _ _ zzb (λ_ _ _=>rfl) λh=>absurd h zd
 intro n9 vs v9 bB gA zB uB yB;have e9:vs 31=_:=yB 31 zd;have gA:Bel w3 v9:=gA;rw[show Qcf _ 32 vs=[(16,vs 0),(17,vs 1),(18,vs 2),(19,vs 3),(20,vs 4),(21,vs 5),(22,vs 6),(23,vs 7),(24,vs 8),(25,vs 9),(26,vs 10),(27,vs 11),(28,vs 12),(29,vs 13),(30,vs 14),(31,vs 15),(32,vs 16),(33,vs 17),(34,vs 18),(35,vs 19),(36,vs 20),(37,vs 21),(38,vs 22),(39,vs 23),(40,vs 24),(41,vs 25),(42,vs 26),(43,vs 27),(44,vs 28),(45,vs 29),(46,vs 30),(8,vs 31)] from rfl];simp only[Qdv,e9,List.setIfInBounds_toArray,List.set_cons_zero,List.set_cons_succ];have E0:Hi (Bel w v9):=Je S4.o gA;clear bB gA zB uB yB e9 A4 R7 O4 d8 T5 uA Q2 eA S4;generalize vs 0=x0;generalize vs 1=x1;generalize vs 2=x2;generalize vs 3=x3;generalize vs 4=x4;generalize vs 5=x5;generalize vs 6=x6;generalize vs 7=x7;generalize vs 8=x8;generalize vs 9=x9;generalize vs 10=x10;generalize vs 11=x11;generalize vs 12=x12;generalize vs 13=x13;generalize vs 14=x14;generalize vs 15=x15;generalize vs 16=x16;generalize vs 17=x17;generalize vs 18=x18;generalize vs 19=x19;generalize vs 20=x20;generalize vs 21=x21;generalize vs 22=x22;generalize vs 23=x23;generalize vs 24=x24;generalize vs 25=x25;generalize vs 26=x26;generalize vs 27=x27;generalize vs 28=x28;generalize vs 29=x29;generalize vs 30=x30;clear vs;refine zL ?_;go_wp2;go_ret;exact⟨rfl,E0.o⟩
def QgJ{H:Type}{enc:TypeId×Value->H}{w:World}{base:Nat}{spare:Nat->Bool}{held:Bool}{r:Go.Reach}{b0:Nat}{v:Value}{d:DataW H}{p:List MemPlace}
  (hv:Value.okWide prog w r b0 36 v) (h:DataW.Trod enc prog w base spare held 36 v d p):∃X:QiW,v=.agg (QdO X):=by
 obtain⟨cs,rfl,xA,hg⟩:=JhI underlying36 zk zk hv h;obtain⟨v0,y0,k0,c0,t0⟩:=hg 0 _ rfl;obtain⟨v1,y1,k1,c1,t1⟩:=hg 1 _ rfl;obtain⟨v2,y2,k2,c2,t2⟩:=hg 2 _ rfl;obtain⟨v3,y3,k3,c3,t3⟩:=hg 3 _ rfl;clear hg hv h;obtain⟨n0,e0,_,_⟩:=DataW.trod_int underlying3 t0;obtain⟨s1,e1,_,_⟩:=DataW.trod_string underlying9 t1;obtain⟨n2,e2,_,_⟩:=DataW.trod_int underlying3 t2;obtain⟨n3,e3,_,_⟩:=DataW.trod_int underlying31 t3;simp only[List.cons.injEq,and_true]at e0 e1 e2 e3;obtain⟨l,rfl⟩:=Jeq s1;subst e0 e1 e2 e3
 match cs,xA with
 |[u0,u1,u2,u3],_=>
  simp only[List.getElem?_cons_zero,List.getElem?_cons_succ,Option.some.injEq]at c0 c1 c2 c3;subst c0 c1 c2 c3;exact⟨⟨n0,l,n2,n3⟩,rfl⟩
open Go.ChangeMaps (open_string shut_string)
section
variable {H:Type}{enc:TypeId×Value->H}{P:Program}
def Qfa(hl:laidOutB P=true){W W':World}{sp:Nat->Bool}(hb:Below W.heap.size W W'):
  ∀(ts:List TypeId)(vs:List Value)(ds:List (DataW H))(ps:List MemPlace),(∀t,t∈ts->P.readableRec t=true/\t<P.types.size)->
   DataW.TrodAll enc P W 0 (λ_=>true) true ts vs ds ps->(∀x,x∈ps->x.block<W.heap.size)->(∀x,x∈ps->sp x.block=true)->
   DataW.TrodAll enc P W' 0 sp true ts vs ds ps:=by
 intro ts
 induction ts with
 |nil=>
  intro vs ds ps _ h _ _;obtain⟨rfl,rfl,rfl⟩:=trodAll_nil h;exact trodAll_mk0
 |cons t ts ih=>
  intro vs ds ps xA h hlt yA;obtain⟨v,zA,d,uA,p,q,rfl,rfl,rfl,h1,h2⟩:=trodAll_cons h;obtain⟨hr,hrow⟩:=xA t zp;refine trodAll_cons_mk (WideElems.Trod_stays hl hr hrow h1 (λx hx=>hb.same (hlt x (by simp[hx]))) λx hx=>yA x (by simp[hx])) ?_;exact ih _ _ _ (λt ht=>xA t (by simp[ht])) h2 (λx hx=>hlt x (by simp[hx])) λx hx=>yA x (by simp[hx])
def Qfd{f:Func}{s:ChangeSpec}{apart fresh handsOn again:Bool}{W W':World}{args:Array Value}{v:Value}{ds gs:List (DataW H)}{before pa pv:List MemPlace}
  (hW:DataW.Whole enc P f.params.toList s.vars apart W args.toList ds gs before)
  (AB:∀(b:Nat)(sp:Nat->Bool)(hd:Bool),DataW.TrodAll enc P W' b sp hd f.resultTypes.toList (v.resultList f.resultTypes.size) (s.fn H (ds++gs)).results [])
  (hargs:∀sp:Nat->Bool,(∀p∈before,sp p.block=true)->DataW.TrodAll enc P W' 0 sp true f.params.toList args.toList (s.fn H (ds++gs)).args pa)
  (hvars:∀sp:Nat->Bool,(∀p∈before,sp p.block=true)->DataW.TrodVars enc P W' sp s.vars (s.fn H (ds++gs)).vars pv)
  (hps:before=pa++pv) (hb:Below W.heap.size W W')
  (hok:∀(j:Nat)(t:TypeId)(r:Value),f.resultTypes[j]?=some t->(v.resultList f.resultTypes.size)[j]?=some r->Value.okWide P W' .any 0 t r):
  s.post enc P f apart fresh handsOn again W args v W':=by
 have hlt:∀p∈before,p.block<W.heap.size:=λp hp=>hW.lt p hp
 have xA:∀p∈before,(λb=>decide (b<W.heap.size)) p.block=true:=λp hp=>by simpa using hlt p hp
 refine⟨ds,gs,before,[],pa,pv,hW,AB _ _ _,hargs _ xA,hvars _ xA,World.keptBut_mono (λp hp=>⟨hp,?_⟩) (hb.frame (·∈before)),λ_=>?_⟩
 ·rw[hps,List.mem_append]at hp;exact Or.inr hp
 ·obtain⟨_,_,_,_,_,hz,hn⟩:=hW;refine⟨hok,_,_,([]++pa)++pv,⟨[]++pa,pv,trodAll_append (hargs _ λ_ _=>rfl) (AB _ _ _),hvars _ λ_ _=>rfl,rfl,?_,?_⟩,?_⟩
  ·intro b off hp;have yA:MemPlace.cell b off∈before:=by rw[hps];simpa using hp
   rw[hb.frozen (hlt _ yA)];exact hz b off yA
  ·intro ha;have:=hn ha;rw[hps]at this;simpa using this
  ·intro p hp _;rw[hps];simpa using hp
def QgN{f:Func}{s:ChangeSpec}{apart fresh handsOn again:Bool}{W W':World}{args:Array Value}{ds gs:List (DataW H)}{before:List MemPlace}{tb:TypeId}
  (hl:laidOutB P=true) (hts:f.params.toList.all (λt=>P.readableRec t&&decide (t<P.types.size))=true) (hr:f.resultTypes=#[tb]) (hb:P.underlying tb=some .bool)
  (hvars:s.vars=[]) (hW:DataW.Whole enc P f.params.toList s.vars apart W args.toList ds gs before)
  (hfn:s.fn H (ds++gs)={results:=[.lit (.bool true)],args:=ds}) (hB:Below W.heap.size W W'):s.post enc P f apart fresh handsOn again W args (.bool true) W':=by
 have hlt:∀p∈before,p.block<W.heap.size:=λp hp=>hW.lt p hp
 have xA:=hW;obtain⟨p,q,hA,hV,rfl,hz,hn⟩:=xA;rw[hvars]at hV;obtain⟨rfl,rfl⟩:=trodVars_none hV;refine Qfd (pa:=p) (pv:=[]) hW ?_ ?_ ?_ rfl hB ?_
 ·intro b sp hd;rw[hfn,hr];exact trodAll_mk1 (shut_bool hb _)
 ·intro sp yA;rw[hfn]
  have h2:∀t,t∈f.params.toList->P.readableRec t=true/\t<P.types.size:=by
   intro t ht;have:=List.all_eq_true.1 hts t ht;simpa using this
  exact Qfa hl hB _ _ _ _ h2 hA (λx hx=>hlt x (by simp[hx])) λx hx=>yA x (by simp[hx])
 ·intro sp _;rw[hfn,hvars];exact rfl
 ·intro j t r h1 h2;rw[hr]at h1 h2
  cases j with
  |zero=>
   simp[Value.resultList]at h1 h2;subst h1;subst h2;exact okWide_bool_mk hb _
  |succ j=>simp at h1
end
open Go.ChangeMaps (open_string shut_string)
def Qgh(os:Os)(started:os.Started)(H:Type)(enc:TypeId×Value->H):
  ReturnsInHanded {} Tryz.checked os 9 .any (λw args=>(Rows.meanRawSpec.pre enc prog f9 Rows.meanRawRow.domain false w args/\laidMet prog Qbr w)/\sizedMet enc prog f9 (OpenSpec.ofChange Rows.meanRawSpec) false w args)
   (Rows.meanRawSpec.post enc prog f9 false true false false):=by
 refine returnsInHanded_of_change_and (C:=Tryz.checked) (X:=λw _=>laidMet prog Qbr w) (λ_ _ _ hh h=>h.of_heap hh) own started zk func9
  (ChangeSpec.witness_at (enc:=enc) (C:=Tryz.checked) (os:=os) (X:=λw _=>laidMet prog Qbr w) false (Qet os) #[.agg #[Nl,Nl,Iv 0],.agg (QaI ⟨[],0,0,0,0,0,0,0,0,false,false,[]⟩ Nl Nl),.agg #[Iv 0,Em,Iv 0,Iv 0],.agg #[Iv 0,Em,Iv 0,Iv 0]] 8 rfl zk zk zk zk zk (ZO os _)) ?_
 intro W base args ds gs before yA hW _ zA hL _;have hsz:(DataW.weightsEach prog (f9.params.toList++Rows.meanRawSpec.plain.varTypes prog) (ds++gs)).all (·<=reachBytes)=true:=zA;clear zA;have xA:∀(j:Nat) t v,f9.params[j]?=some t->args[j]?=some v->Value.okWide prog W .any base t v:=yA;have iA:=hW;obtain⟨p,q,bA,hV,rfl,_,_⟩:=hW;have hA:DataW.TrodAll enc prog W 0 (λ_=>true) true f9.params.toList args.toList ds p:=bA;rw[params9]at hA xA hsz;obtain⟨v0,sA,d0,nA,p0,q0,aA,rfl,rfl,h0,r0⟩:=trodAll_cons hA;obtain⟨v1,mA,d1,rA,p1,q1,rfl,rfl,rfl,h1,r1⟩:=trodAll_cons r0;obtain⟨v2,qA,d2,tA,p2,q2,rfl,rfl,rfl,h2,r2⟩:=trodAll_cons r1;obtain⟨v3,pA,d3,kA,p3,q3,rfl,rfl,rfl,h3,r3⟩:=trodAll_cons r2;obtain⟨rfl,rfl,rfl⟩:=trodAll_nil r3;obtain rfl:args=#[v0,v1,v2,v3]:=by cases args;simp_all
 obtain⟨rfl,rfl⟩:=trodVars_none hV;obtain⟨R0,c0,rfl,jA,i6⟩:=Qim (xA 0 30 v0 rfl rfl) h0;obtain⟨F1,gA,eA,cA,dA,rfl,uA,vA⟩:=ZG (xA 1 25 v1 rfl rfl) h1;obtain⟨X2,rfl⟩:=QgJ (xA 2 36 v2 rfl rfl) h2;obtain⟨X3,rfl⟩:=QgJ (xA 3 36 v3 rfl rfl) h3;refine(Qjd R0 c0 F1 gA eA cA dA X2 X3 W jA i6 uA vA (Jim hL)).mono λe W' hp=>?_
 obtain⟨rfl,hB⟩:=hp;exact⟨_,rfl,QgN Qis zk rfl underlying4 rfl iA rfl hB⟩
def Qjg:Rows.MeanRawSaid:=
 OpenClaim.holds_of_wide 9 f9 rfl rfl rfl rfl rfl rfl rfl ⟨rfl,rfl,rfl,rfl,rfl⟩ rfl rfl rfl rfl rfl zk func9 zk
  (of_decide_eq_true zk) (by unfold Func.isWrapper;first|(rw[if_pos (by decide +kernel)];kernel_rfl)|(rw[if_neg (by decide +kernel)];exact⟨rfl,rfl⟩))
  (λos started H enc _=>Qgh os started H enc)
theorem mraw_holds:Rows.MeanRawCardSaid:=
 Claim7.holds_tied_plain_at .later [] [.data,.data,.data,.sentinel,.sentinel] true (true,"8508d1e88098ee844df6fc1fdda0b9b90048e061b3d5640b8ec64b0f9ee913ba") true
  Qjg (λ_ h=>by cases h) zk (λ_ h=>by cases h) meanRaw_row_tie rfl ⟨rfl,rfl⟩ zk rfl
  (λf fn hf hfn=>by
   obtain rfl:f=9:=Option.some.inj ((show prog.funcNamed "agora/agoralaw32.MeanRaw"=some 9 by kernel_rfl).symm.trans hf) |>.symm;obtain rfl:fn=f9:=(Option.some.inj (func9.symm.trans hfn)).symm
   exact⟨by kernel_rfl,λj t ht=>by
    rw[params9]at ht
    have h3:t=25\/t=30\/t=36:=by
     match j with
     |0=>simp at ht;subst ht;decide
     |1=>simp at ht;subst ht;decide
     |2=>simp at ht;subst ht;decide
     |3=>simp at ht;subst ht;decide
     |(j+4)=>simp at ht
    rcases h3 with h3|h3|h3<;>subst h3
    ·exact(show prog.wantsStandIn 25=false by kernel_rfl)
    ·exact(show prog.wantsStandIn 30=false by kernel_rfl)
    ·exact(show prog.wantsStandIn 36=false by kernel_rfl)⟩)
  zk
#print axioms mraw_holds
end Go.Proofs.YtncanmdgdflnpaaGreatDoor


