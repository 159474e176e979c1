import Derived.ChangeArms
import Derived.Maps.AppendAt
import Derived.Test.YtncanmdgdflnpaaGreatDoorR10
open List(getElem?_eq_getElem)
namespace Go.Proofs.YtncanmdgdflnpaaGreatDoor
open Go.ChangeShapes Go.WideShapes Go.ChangeAt Go.RowKit Go.Lib
open _root_.Go.Proofs.Tryz
set_option linter.all false
set_option maxRecDepth 100000
set_option maxHeartbeats 32000000
mutual
def Qbk:Nat->Int->Exp->Int
 |d,n,.mk _ _ _ l=>Qcv d (n-1) l
def Qcv:Nat->Int->List Exp->Int
 |d,n,[]=>if n<0 then -1 else n
 |d,n,a::l=>if n<0 then -1 else match d with|0=>-1|d+1=>Qcv (d+1) (Qbk d n a) l
end
def Qir(d:Nat)(n:Int)(a:Exp)(l:List Exp):Int:=match d with|0=>-1|d+1=>Qcv (d+1) (Qbk d n a) l
def Jbv(d:Nat)(n:Int):Qcv d n []=if n<0 then -1 else n:=by
 conv=>lhs;unfold Qcv
def V5(d:Nat)(n:Int)(a:Exp)(l:List Exp):Qcv d n (a::l)=if n<0 then -1 else Qir d n a l:=by
 conv=>lhs;unfold Qcv
 rfl
def VQ(d:Nat){n:Int}(h:n<0):∀l,Qcv d n l = -1
 |[]=>by rw[Jbv,if_pos h]
 |a::l=>by rw[V5,if_pos h]
mutual
def Yu:∀(e:Exp)(d:Nat)(n:Int),-1<=Qbk d n e/\(0<=n->Qbk d n e<=n-1)
 |.mk k m s l,d,n=>by
  rw[Qbk];obtain⟨h1,h2⟩:=Jdm l d (n-1);refine⟨h1,λh=>?_⟩
  by_cases h0:0<=n-1
  ·exact h2 h0
  ·rw[VQ d (by omega) l];omega
def Jdm:∀(l:List Exp)(d:Nat)(n:Int),-1<=Qcv d n l/\(0<=n->Qcv d n l<=n)
 |[],d,n=>by
  rw[Jbv];split
  ·exact⟨by omega,λh=>by omega⟩
  ·exact⟨by omega,λh=>by omega⟩
 |a::l,d,n=>by
  rw[V5];split
  ·exact⟨by omega,λh=>by omega⟩
  ·cases d with
   |zero=>exact⟨by simp[Qir],λh=>by simp[Qir];omega⟩
   |succ d=>
    show -1<=Qcv (d+1) (Qbk d n a) l/\(0<=n->Qcv (d+1) (Qbk d n a) l<=n)
    obtain⟨h1,h2⟩:=Yu a d n;obtain⟨h3,h4⟩:=Jdm l (d+1) (Qbk d n a);refine⟨h3,λh=>?_⟩
    by_cases h0:0<=Qbk d n a
    ·have:=h4 h0;have:=h2 h;omega
    ·rw[VQ (d+1) (by omega) l];omega
end
def QcF:Int->List FnM->Int
 |n,[]=>n
 |n,f::l=>if n<0 then n else QcF (Qbk 60 (n-f.params.length) f.body) l
def Qch:Int->List ClM->Int
 |n,[]=>n
 |n,c::l=>if n<0 then n else Qch (Qbk 60 n c.cond) l
def Qdn(r:Qah)(F:Qav):Bool:=decide (0<=Qch (QcF 300 r.funcs) r.clauses)&&decide (F.labels.length<=100)&&decide (F.words.length<=100)
def JhV{r:Qah}{F:Qav}(h:Qdn r F=true):FSz F:=by
 unfold Qdn at h;simp only[Bool.and_eq_true,decide_eq_true_eq]at h;exact⟨by omega,by omega⟩
def QjO{P:Prop}(h:P:=by
  subst T8;clear hq hm G1 hi hg j5;go_wp2;go_ret
  exact⟨rfl,E0.o⟩):P:=h
def Jbw(d:Nat)(IH:∀d',d=d'+1->∀(e:Exp)(c:Array Value)(n:Int)(W:World),XAt W (In W) e c->-9223372036854775807<=n->n<=1000000->Calls prog 39 #[.agg c,Iv n,Iv d'] W (QbL W (Iv (Qbk d' n e))))
  (hd:d<=60) (k nn:Int) (s:By) (l:List Exp) (ad:Option Addr) (cc:Nat) (n:Int) (w:World) (hK:QbC w ad l) (h1:-9223372036854775807<=n) (h2:n<=1000000):
  Calls prog 39 #[.agg #[Iv k,Iv nn,Sv s,.slice ad l.length cc],Iv n,Iv d] w (QbL w (Iv (Qbk d n (.mk k nn s l)))):=by
 obtain⟨q,hq⟩:∃q,Qbk d n (.mk k nn s l)=q:=⟨_,rfl⟩
 rw[hq];rw[Qbk]at hq;have HQ:Hi (Qcv d (n-1) (l.drop 0)=q):=hq;have A0:Below w.heap.size w (w.alloc (.cells #[Iv k,Iv nn,Sv s,.slice ad l.length cc] 50)):=zzb.alloc zzl _;have S0:=Zh (zzw w (.cells #[Iv k,Iv nn,Sv s,.slice ad l.length cc] 50));have B0:Hi (∀W,Below (w.alloc (.cells #[Iv k,Iv nn,Sv s,.slice ad l.length cc] 50)).heap.size (w.alloc (.cells #[Iv k,Iv nn,Sv s,.slice ad l.length cc] 50)) W->Bel w W):=λW hW=>Je A0 hW
 have vA:=Zh hK;have aA:=Zh IH;have wn:IntKind.i64.wrap (n-1)=n-1:=IntWalk.i64_in _ zo;have yA:Hi ((0:Int)+(n-1)<=1000000/\-9223372036854775808<=n-1):=by unfold Hi;omega
 go_enter func39,ntmps39;go_upto_region 1 with fail;have S3:Hi (w.heap.size<(w.alloc (.cells #[Iv k,Iv nn,Sv s,.slice ad l.length cc] 50)).heap.size):=Jb S0.o;generalize World.alloc w _=w1 at*;generalize w.heap.size=eb at*
 have FF:Hi (∀W,Below w1.heap.size w1 W->W.cell? ⟨eb,3,none⟩=some (.slice ad l.length cc)):=by
  intro W hW;have hh:=(hW.block _ S3.o).trans S0.o;rw[Ja hh];rfl
 have zA:Hi (Below w1.heap.size w1 w1):=zzb;go_wp2_with fail;go_loopg [1,7] l.length λg v1 v7 wr=>∃(i:Nat) (m:Int),g+i=l.length/\v1=Iv m/\v7=Iv i/\Hi (Below w1.heap.size w1 wr)/\Hi ((i:Int)+m<=1000000/\-9223372036854775808<=m)/\Hi (Qcv d m (l.drop i)=q)
 case atStart=>exact⟨0,n-1,rfl,rfl,rfl,zA,yA,HQ⟩
 case round=>
 obtain⟨wl,rfl⟩:=zG wr
 obtain⟨i,m,hg,rfl,rfl,G1,hm,hq⟩:=hrel;have b3:=FF.o _ G1.o;have E0:Hi (Bel w wl):=B0.o _ G1.o
 by_cases hi:i<l.length
 ·have hil:(i:Int)<(l.length:Int):=zo
  have dil:decide ((i:Int)<(l.length:Int))=true:=zE hil
  by_cases j5:0<=m
  ·have dm:decide (0<=m)=true:=zE j5
   have xA:Qcv d m (l.drop i)=Qir d m l[i] (l.drop (i+1)):=by
    rw[List.drop_eq_getElem_cons hi,V5,if_neg zo]
   rw[xA]at hq;have wk:IntKind.i64.wrap ((i:Int)+1)=(i:Int)+1:=IntWalk.i64_in _ (zt hm.o)
   cases d with
   |zero=>
    have T8:q = -1:=hq.o.symm;subst T8;go_wp2;go_ret;exact⟨rfl,E0.o⟩
   |succ d=>
    obtain⟨y,hy⟩:∃y,l[i]?=some y:=⟨l[i],List.getElem?_eq_getElem hi⟩
    have uA:l[i]=y:=(List.getElem?_eq_some_iff.1 hy).2;rw[uA]at hq;have Q4:Qcv (d+1) (Qbk d m y) (l.drop (i+1))=q:=hq.o;obtain⟨b,o,da,dc,cA,hxy,c0,c1,c2,c3⟩:=vA.o.at' (B0.o _ G1.o) hy;have ed:(((d+1:Nat):Int)==0)=false:=zzq zo;have wd:IntKind.i64.wrap (((d+1:Nat):Int)-1)=(d:Int):=by rw[IntWalk.i64_in _ zo];omega
    have ci:=aA.o d rfl y _ m wl hxy zo (zt hm.o);obtain⟨h3,h4⟩:=Yu y d m;have bA:=h4 j5;have Q8:Hi (((i+1:Nat):Int)+Qbk d m y<=1000000/\-9223372036854775808<=Qbk d m y):=by have:=hm.o;unfold Hi;omega
    have D5:=Zh Q4;have S4:=Zh G1.o;have HG:=Zh hg;have B3:=Zh hi;generalize Qbk d m y=m2 at*;subst cA;rw[Int.natCast_add,Int.natCast_one]at ed wd;go_wp2_with fail;refine ci.mono ?_;rintro e w7 ⟨rfl,E4⟩;have I3:=Zh (Je S4.o E4);go_wp2;go_roundg (l.length-(i+1))
    case measure=>have:=HG.o;have:=B3.o;omega
    case rel=>exact⟨i+1,m2,by have:=B3.o;omega,rfl,by go_num,I3,Q8,D5⟩
  ·have dm:decide (0<=m)=false:=zF j5;have dA:decide (m<0)=true:=zE zo;have T8:q = -1:=by rw[<-hq.o,VQ d zo]
   exact QjO
 ·have hil:¬(i:Int)<(l.length:Int):=zo
  have dil:decide ((i:Int)<(l.length:Int))=false:=zF hil;have T8:q=if m<0 then -1 else m:=by rw[<-hq.o,List.drop_of_length_le zo,Qcv]
  by_cases j5:m<0
  ·have dm:decide (m<0)=true:=zE j5;rw[if_pos j5]at T8;exact QjO
  ·have dm:decide (m<0)=false:=zF j5;rw[if_neg j5]at T8;exact QjO
def Jal:∀d:Nat,d<=60->∀(e:Exp)(c:Array Value)(n:Int)(W:World),XAt W (In W) e c->-9223372036854775807<=n->n<=1000000->Calls prog 39 #[.agg c,Iv n,Iv d] W (QbL W (Iv (Qbk d n e)))
 |0,hd,.mk k nn s l,c,n,W,hx,h1,h2=>by
  obtain⟨ad,cc,rfl,_,hK⟩:=hx.kids;exact Jbw 0 (λd' h=>by omega) hd k nn s l ad cc n W hK h1 h2
 |d+1,hd,.mk k nn s l,c,n,W,hx,h1,h2=>by
  obtain⟨ad,cc,rfl,_,hK⟩:=hx.kids;refine Jbw (d+1) (λd' h=>?_) hd k nn s l ad cc n W hK h1 h2;obtain rfl:d=d':=zo
  exact Jal d zo
structure Qod(r:Qah):Prop where
 nf:r.funcs.length<=9223372036854775807
 nc:r.clauses.length<=9223372036854775807
 np:∀f∈r.funcs,f.params.length<=9223372036854775807
def Jem{n:Int}(h:n<0)(l:List FnM):QcF n l=n:=by
 cases l with
 |nil=>rfl
 |cons a l=>rw[QcF,if_pos h]
def Jen{n:Int}(h:n<0)(l:List ClM):Qch n l=n:=by
 cases l with
 |nil=>rfl
 |cons a l=>rw[Qch,if_pos h]
def Qnl{P:Prop}(h:P:=by
  rw[dwN]at P9;subst P9
  rcases hcond with⟨c1,c2⟩|c1
  all_goals first
   |(exfalso;rw[d0]at c2;cases c2)
   |(clear h0 E7 hw1;go_wp2;go_ret;exact⟨rfl,E0.o⟩)):P:=h
def wx7{P:Prop}(h:P:=by
  go_loopg [5,7] r.clauses.length (λg v5 v7 wr=>∃(j:Nat) (n:Int),g+j=r.clauses.length/\v5=Iv n/\v7=Iv j/\Hi (Below w1.heap.size w1 wr)/\Hi ((j:Int)+n<=300/\-1<=n)/\Hi (Qch n (r.clauses.drop j)=L))
  case atStart=>exact⟨0,m,rfl,rfl,rfl,S4,H2,nD⟩
  case round=>
  clear S4 H2 nD;obtain⟨wm,rfl⟩:=zG wr
  obtain⟨j,n,hg,rfl,rfl,G1,hm,hq⟩:=hrel
  by_cases hi:j<r.clauses.length/\0<=n
  ·obtain⟨hi,j5⟩:=hi;have hil:(j:Int)<(r.clauses.length:Int):=by omega
   have dil:decide ((j:Int)<(r.clauses.length:Int))=true:=zE hil;have dm:decide (0<=n)=true:=zE j5;obtain⟨f,hf⟩:∃f,r.clauses[j]?=some f:=⟨r.clauses[j],List.getElem?_eq_getElem hi⟩
   have RC:r.clauses[j]=f:=(List.getElem?_eq_some_iff.1 hf).2;have X5:=U9.o.up (B0.o _ G1.o);obtain⟨b,o,da,dc,G3,hfc⟩:=X5.get hf;have Q4:=hq.o;rw[List.drop_eq_getElem_cons hi,RC,Qch,if_neg (by omega)]at Q4;have hle:=(Yu f.cond 60 n)
   have Q8:Hi (((j+1:Nat):Int)+Qbk 60 n f.cond<=300/\-1<=Qbk 60 n f.cond):=by
    have:=hm.o;have:=hle.2 j5;exact⟨by omega,hle.1⟩
   have wk:IntKind.i64.wrap ((j:Int)+1)=(j:Int)+1:=IntWalk.i64_in _ (by have:=hm.o;omega);have cl:=Jal 60 (by decide) f.cond _ n wm hfc.cond (by omega) (by have:=hm.o;omega);generalize Qbk 60 n f.cond=m2 at*;have D5:=Zh Q4;have S4:=Zh G1.o;have HG:=Zh hg;have B3:=Zh hi;have c0:=hfc.c0;have c1:=hfc.c1;have c2:=hfc.c2;have c3:=hfc.c3;obtain⟨b0,b1,b2,b3⟩:=FF.o _ G1.o;rw[show ((60:Nat):Int)=60 from rfl]at cl;subst G3;clear hle hq Q4 hm G1 hi hg hf RC X5 hfc j5;go_wp2_with fail;refine cl.mono ?_;rintro e w7 ⟨rfl,E4⟩;have I3:=Zh (Je S4.o E4);clear cl E4 b0 b1 b2 b3 c0 c1 c2 c3;go_wp2;go_roundg (r.clauses.length-(j+1))
   case measure=>have:=HG.o;have:=B3.o;omega
   case rel=>exact⟨j+1,m2,by have:=B3.o;omega,rfl,by go_num,I3,Q8,D5⟩
  have hnL:n=L:=by
   by_cases h0:n<0
   ·have:=hq.o;rw[Jen h0]at this;exact this
   ·have UB:r.clauses.length<=j:=by omega
    have:=hq.o;rw[List.drop_of_length_le UB]at this;exact this
  subst hnL;obtain⟨b0,b1,b2,b3⟩:=FF.o _ G1.o;have E0:Hi (Bel w wm):=B0.o _ G1.o
  have hcond:((j:Int)<(r.clauses.length:Int)/\decide (0<=n)=false)\/¬(j:Int)<(r.clauses.length:Int):=by
   by_cases h0:j<r.clauses.length
   ·exact .inl ⟨by omega,zF (by omega)⟩
   ·exact .inr (by omega)
  have P9:q=(decide (0<=n)&&decide (F.labels.length<=100)&&decide (F.words.length<=100)):=by
   rw[<-HQ.o];unfold Qdn;rw[C8.o]
  clear hq hm G1 hi hg
  by_cases h0:0<=n
  ·have d0:decide (0<=n)=true:=zE h0;rw[d0,Bool.true_and]at P9
   by_cases E7:F.labels.length<=100
   ·have dl:decide ((F.labels.length:Int)<=100)=true:=zE (by omega);have dlN:decide (F.labels.length<=100)=true:=zE E7;rw[dlN,Bool.true_and]at P9
    by_cases hw1:F.words.length<=100
    ·have dw:decide ((F.words.length:Int)<=100)=true:=zE (by omega);have dwN:decide (F.words.length<=100)=true:=zE hw1;exact Qnl
    ·have dw:decide ((F.words.length:Int)<=100)=false:=zF (by omega);have dwN:decide (F.words.length<=100)=false:=zF hw1;exact Qnl
   ·have dl:decide ((F.labels.length:Int)<=100)=false:=zF (by omega);have dlN:decide (F.labels.length<=100)=false:=zF E7;rw[dlN,Bool.false_and]at P9;subst P9
    rcases hcond with⟨c1,c2⟩|c1
    all_goals first
     |(exfalso;rw[d0]at c2;cases c2)
     |(clear h0 E7;go_wp2;go_ret;exact⟨rfl,E0.o⟩)
  ·have d0:decide (0<=n)=false:=zF h0;rw[d0]at P9;simp only[Bool.false_and]at P9;subst P9
   rcases hcond with⟨c1,c2⟩|c1
   all_goals (clear h0;go_wp2;go_ret;exact⟨rfl,E0.o⟩)):P:=h
def Jgn(r:Qah)(F:Qav)(c:Array Value)(la wa:Option Addr)(lc wc:Nat)(w:World)(hx:QaV w (In w) r c)(hz:Qod r):
  Calls prog 12 #[.agg c,.agg (QaI F (.slice la F.labels.length lc) (.slice wa F.words.length wc))] w (QbL w (.bool (Qdn r F))):=by
 obtain⟨fa,fc,ca,cc,rfl,hF,hC⟩:=hx.parts;obtain⟨q,hq⟩:∃q,Qdn r F=q:=⟨_,rfl⟩
 rw[hq];obtain⟨L,yA⟩:∃L,Qch (QcF 300 r.funcs) r.clauses=L:=⟨_,rfl⟩
 have HQ:Hi (Qdn r F=q):=hq;have HL:Hi (Qch (QcF 300 (r.funcs.drop 0)) r.clauses=L):=yA;have C8:=Zh yA;unfold QaI;have uA:Below w.heap.size w ((w.alloc (.cells #[.slice fa r.funcs.length fc,.slice ca r.clauses.length cc,Iv r.action] 30)).alloc (.cells #[.slice la F.labels.length lc,Iv F.likes,Iv F.boosts,Iv F.replies,Iv F.reports,Iv F.age,Iv F.home,Iv F.scope,Iv F.length,.bool F.follows,.bool F.reply,.slice wa F.words.length wc] 25)):=(zzb.alloc zzl _).alloc zp _;have B0:Hi (∀W,Below ((w.alloc (.cells #[.slice fa r.funcs.length fc,.slice ca r.clauses.length cc,Iv r.action] 30)).alloc (.cells #[.slice la F.labels.length lc,Iv F.likes,Iv F.boosts,Iv F.replies,Iv F.reports,Iv F.age,Iv F.home,Iv F.scope,Iv F.length,.bool F.follows,.bool F.reply,.slice wa F.words.length wc] 25)).heap.size ((w.alloc (.cells #[.slice fa r.funcs.length fc,.slice ca r.clauses.length cc,Iv r.action] 30)).alloc (.cells #[.slice la F.labels.length lc,Iv F.likes,Iv F.boosts,Iv F.replies,Iv F.reports,Iv F.age,Iv F.home,Iv F.scope,Iv F.length,.bool F.follows,.bool F.reply,.slice wa F.words.length wc] 25)) W->Bel w W):=λW hW=>Je uA hW
 have cA:Hi (((w.alloc (.cells #[.slice fa r.funcs.length fc,.slice ca r.clauses.length cc,Iv r.action] 30)).alloc (.cells #[.slice la F.labels.length lc,Iv F.likes,Iv F.boosts,Iv F.replies,Iv F.reports,Iv F.age,Iv F.home,Iv F.scope,Iv F.length,.bool F.follows,.bool F.reply,.slice wa F.words.length wc] 25)).heap[w.heap.size]?=some (.cells #[.slice fa r.funcs.length fc,.slice ca r.clauses.length cc,Iv r.action] 30 (0,0))):=Jf (zzw _ _)
 have L1:Hi (((w.alloc (.cells #[.slice fa r.funcs.length fc,.slice ca r.clauses.length cc,Iv r.action] 30)).alloc (.cells #[.slice la F.labels.length lc,Iv F.likes,Iv F.boosts,Iv F.replies,Iv F.reports,Iv F.age,Iv F.home,Iv F.scope,Iv F.length,.bool F.follows,.bool F.reply,.slice wa F.words.length wc] 25)).heap[w.heap.size+1]?=some (.cells #[.slice la F.labels.length lc,Iv F.likes,Iv F.boosts,Iv F.replies,Iv F.reports,Iv F.age,Iv F.home,Iv F.scope,Iv F.length,.bool F.follows,.bool F.reply,.slice wa F.words.length wc] 25 (0,0))):=by
  have e1:=zzw (w.alloc (.cells #[.slice fa r.funcs.length fc,.slice ca r.clauses.length cc,Iv r.action] 30)) (.cells #[.slice la F.labels.length lc,Iv F.likes,Iv F.boosts,Iv F.replies,Iv F.reports,Iv F.age,Iv F.home,Iv F.scope,Iv F.length,.bool F.follows,.bool F.reply,.slice wa F.words.length wc] 25);simp only[World.size_alloc]at e1;exact e1
 have A2:Hi (w.heap.size<((w.alloc (.cells #[.slice fa r.funcs.length fc,.slice ca r.clauses.length cc,Iv r.action] 30)).alloc (.cells #[.slice la F.labels.length lc,Iv F.likes,Iv F.boosts,Iv F.replies,Iv F.reports,Iv F.age,Iv F.home,Iv F.scope,Iv F.length,.bool F.follows,.bool F.reply,.slice wa F.words.length wc] 25)).heap.size/\w.heap.size+1<((w.alloc (.cells #[.slice fa r.funcs.length fc,.slice ca r.clauses.length cc,Iv r.action] 30)).alloc (.cells #[.slice la F.labels.length lc,Iv F.likes,Iv F.boosts,Iv F.replies,Iv F.reports,Iv F.age,Iv F.home,Iv F.scope,Iv F.length,.bool F.follows,.bool F.reply,.slice wa F.words.length wc] 25)).heap.size):=by unfold Hi;simp only[World.size_alloc];omega
 have dA:=Zh hF;have U9:=Zh hC;have HZ:=Zh hz;have hA:=hz.nf;have eA:=hz.nc;go_enter func12,ntmps12;go_upto_region 1 with fail;generalize World.alloc (World.alloc w _) _=w1 at*;generalize w.heap.size+1=fb at*;generalize w.heap.size=eb at*
 have FF:Hi (∀W,Below w1.heap.size w1 W->W.cell? ⟨eb,0,none⟩=some (.slice fa r.funcs.length fc)/\W.cell? ⟨eb,1,none⟩=some (.slice ca r.clauses.length cc)/\W.cell? ⟨fb,0,none⟩=some (.slice la F.labels.length lc)/\W.cell? ⟨fb,11,none⟩=some (.slice wa F.words.length wc)):=by
  intro W hW;have hr:=(hW.block _ A2.o.1).trans cA.o;have hf:=(hW.block _ A2.o.2).trans L1.o;refine⟨?_,?_,?_,?_⟩
  ·rw[Ja hr];rfl
  ·rw[Ja hr];rfl
  ·rw[Ja hf];rfl
  ·rw[Ja hf];rfl
 have vA:Hi (Below w1.heap.size w1 w1):=zzb;go_wp2_with fail;go_loopg [5,6] r.funcs.length λg v5 v6 wr=>∃(i:Nat) (m:Int),g+i=r.funcs.length/\v5=Iv m/\v6=Iv i/\Hi (Below w1.heap.size w1 wr)/\Hi ((i:Int)+m<=300/\-1<=m)/\Hi (Qch (QcF m (r.funcs.drop i)) r.clauses=L)
 case atStart=>exact⟨0,300,rfl,rfl,rfl,vA,by unfold Hi;omega,HL⟩
 case round=>
 obtain⟨wl,rfl⟩:=zG wr
 obtain⟨i,m,hg,rfl,rfl,G1,hm,hq⟩:=hrel
 by_cases hi:i<r.funcs.length/\0<=m
 ·obtain⟨hi,j5⟩:=hi;have hil:(i:Int)<(r.funcs.length:Int):=zo
  have dil:decide ((i:Int)<(r.funcs.length:Int))=true:=zE hil;have dm:decide (0<=m)=true:=zE j5;obtain⟨f,hf⟩:∃f,r.funcs[i]?=some f:=⟨r.funcs[i],List.getElem?_eq_getElem hi⟩
  have hmem:=List.mem_of_getElem? hf;have RC:r.funcs[i]=f:=(List.getElem?_eq_some_iff.1 hf).2;have X5:=dA.o.up (B0.o _ G1.o);obtain⟨b,o,pa,pc,da,dc,G3,hfc⟩:=X5.get hf;have bA:=HZ.o.np f hmem;have Q4:=hq.o;rw[List.drop_eq_getElem_cons hi,RC,QcF,if_neg zo]at Q4;have hle:=(Yu f.body 60 (m-f.params.length))
  have Q8:Hi (((i+1:Nat):Int)+Qbk 60 (m-f.params.length) f.body<=300/\-1<=Qbk 60 (m-f.params.length) f.body):=by
   have:=hm.o;refine⟨?_,hle.1⟩
   by_cases h0:0<=m-f.params.length
   ·have:=hle.2 h0;omega
   ·have h5:Qbk 60 (m-f.params.length) f.body = -1:=by
     generalize f.body=e at*;obtain⟨k,n,s,l⟩:=e;rw[Qbk,VQ 60 zo]
    omega
  have wk:IntKind.i64.wrap ((i:Int)+1)=(i:Int)+1:=IntWalk.i64_in _ (zt hm.o);have wm:IntKind.i64.wrap (m-(f.params.length:Int))=m-(f.params.length:Int):=IntWalk.i64_in _ (zt hm.o);have cl:=λW (hW:Below wl.heap.size wl W)=>Jal 60 zd f.body _ (m-f.params.length) W (hfc.body.up hW) zo (zt hm.o)
  generalize Qbk 60 (m-f.params.length) f.body=m2 at*;have D5:=Zh Q4;have S4:=Zh G1.o;have HG:=Zh hg;have B3:=Zh hi
  have F3:Hi (∀W,Below wl.heap.size wl W->W.cell? ⟨eb,0,none⟩=some (.slice (some ⟨b,o,none⟩) r.funcs.length fc)/\W.cell? ⟨b,o+i*7+1,none⟩=some (.slice pa f.params.length pc)/\W.cell? ⟨b,o+i*7+3,none⟩=some (Iv f.body.kind)/\W.cell? ⟨b,o+i*7+4,none⟩=some (Iv f.body.num)/\W.cell? ⟨b,o+i*7+5,none⟩=some (.string (bs f.body.name))/\W.cell? ⟨b,o+i*7+6,none⟩=some (.slice da f.body.kids.length dc)):=by
   intro W hW;obtain⟨q0,q1,q2,q3⟩:=FF.o _ (Je G1.o hW);have hk:∀j u,wl.cell? ⟨b,o+i*7+j,none⟩=some u->W.cell? ⟨b,o+i*7+j,none⟩=some u:=λj u hu=>(hW.cell (p:=⟨b,o+i*7+j,none⟩) hfc.blt).trans hu
   rw[G3]at q0;exact⟨q0,hk 1 _ hfc.c1,hk 3 _ hfc.c3,hk 4 _ hfc.c4,hk 5 _ hfc.c5,hk 6 _ hfc.c6⟩
  obtain⟨b0,_,_,_⟩:=FF.o _ G1.o;have aA:=Zh cl;rw[show ((60:Nat):Int)=60 from rfl]at aA;subst G3;go_upto_region 5 with fail;refine wp_region_held_drew (S:=(λW=>Below wl.heap.size wl W/\W.cell? ⟨eb,0,none⟩=some (.slice (some ⟨b,o,none⟩) r.funcs.length fc)/\W.cell? ⟨b,o+i*7+1,none⟩=some (.slice pa f.params.length pc)/\W.cell? ⟨b,o+i*7+3,none⟩=some (Iv f.body.kind)/\W.cell? ⟨b,o+i*7+4,none⟩=some (Iv f.body.num)/\W.cell? ⟨b,o+i*7+5,none⟩=some (.string (bs f.body.name))/\W.cell? ⟨b,o+i*7+6,none⟩=some (.slice da f.body.kids.length dc))) zk (⟨(Below.refl wl.heap.size wl).drew,F3.o _ (Below.refl wl.heap.size wl).drew⟩) λhH=>?_;refine ZT (i:=0) (v:=?vQ0) rfl (Or.inl ⟨by rfl,?yQ0⟩) ?_
  case yQ0=>exact ZyQ
  refine ZT (i:=1) (v:=?vQ1) rfl (Or.inl ⟨by rfl,?yQ1⟩) ?_
  case yQ1=>exact ZyQ
  refine ZT (i:=2) (v:=?vQ2) rfl (Or.inl ⟨by rfl,?yQ2⟩) ?_
  case yQ2=>exact ZyQ
  refine ZT (i:=3) (v:=?vQ3) rfl (Or.inl ⟨by rfl,?yQ3⟩) ?_
  case yQ3=>exact ZyQ
  refine ZT (i:=4) (v:=?vQ4) rfl (Or.inl ⟨by rfl,?yQ4⟩) ?_
  case yQ4=>exact ZyQ
  refine ZT (i:=5) (v:=?vQ5) rfl (Or.inl ⟨by rfl,?yQ5⟩) ?_
  case yQ5=>exact ZyQ
  refine ZT (i:=6) (v:=?vQ6) rfl (Or.inl ⟨by rfl,?yQ6⟩) ?_
  case yQ6=>exact ZyQ
  refine ZT (i:=7) (v:=?vQ7) rfl (Or.inl ⟨by rfl,?yQ7⟩) ?_
  case yQ7=>exact ZyQ
  refine ZT (i:=8) (v:=?vQ8) rfl (Or.inl ⟨by rfl,?yQ8⟩) ?_
  case yQ8=>exact ZyQ
  refine ZT (i:=9) (v:=?vQ9) rfl (Or.inl ⟨by rfl,?yQ9⟩) ?_
  case yQ9=>exact ZyQ
  refine ZT (i:=10) (v:=?vQ10) rfl (Or.inl ⟨by rfl,?yQ10⟩) ?_
  case yQ10=>exact ZyQ
  refine ZT (i:=11) (v:=?vQ11) rfl (Or.inl ⟨by rfl,?yQ11⟩) ?_
  case yQ11=>exact ZyQ
  refine ZT (i:=12) (v:=?vQ12) rfl (Or.inl ⟨by rfl,?yQ12⟩) ?_
  case yQ12=>exact ZyQ
  refine ZT (i:=13) (v:=?vQ13) rfl (Or.inl ⟨by rfl,?yQ13⟩) ?_
  case yQ13=>exact ZyQ
  refine ZT (i:=14) (v:=?vQ14) rfl (Or.inl ⟨by rfl,?yQ14⟩) ?_
  case yQ14=>exact ZyQ
  refine ZS 15 rfl λK hK=>?_
  (go_simp;go_at_call 39;refine(aA.o _ ((Below.refl wl.heap.size wl).drew)).mono ?_;rintro e gA ⟨rfl,xA⟩)
  refine zU hK (⟨((Below.refl wl.heap.size wl).drew).trans (xA.mono ((Below.refl wl.heap.size wl).drew).size),F3.o _ (((Below.refl wl.heap.size wl).drew).trans (xA.mono ((Below.refl wl.heap.size wl).drew).size))⟩) λhH=>?_
  refine ZT (i:=16) (v:=?vQ16) rfl (Or.inl ⟨by rfl,?yQ16⟩) ?_
  case yQ16=>exact ZyQ
  refine wpAnyH_done zk ?_ _;have I3:=Zh (Je S4.o hH.1);go_wp2;go_roundg (r.funcs.length-(i+1))
  case measure=>have:=HG.o;have:=B3.o;omega
  case rel=>exact⟨i+1,m2,by have:=B3.o;omega,rfl,by go_num,I3,Q8,D5⟩
 have zA:Qch m r.clauses=L:=by
  by_cases h0:m<0
  ·have:=hq.o;rw[Jem h0]at this;exact this
  ·have UB:r.funcs.length<=i:=zo
   have:=hq.o;rw[List.drop_of_length_le UB]at this;exact this
 obtain⟨b0,b1,b2,b3⟩:=FF.o _ G1.o;have S4:=Zh G1.o;have H2:Hi ((0:Int)+m<=300/\-1<=m):=by have:=hm.o;unfold Hi;omega
 have nD:Hi (Qch m (r.clauses.drop 0)=L):=zA
 have hcond:((i:Int)<(r.funcs.length:Int)/\decide (0<=m)=false)\/¬(i:Int)<(r.funcs.length:Int):=by
  by_cases h0:i<r.funcs.length
  ·exact .inl ⟨by omega,zF zo⟩
  ·exact .inr zo
 rcases hcond with⟨d1,d2⟩|d1
 ·go_wp2_with fail;exact wx7
 ·go_wp2_with fail;exact wx7
open Go.ChangeShapes Go.WideShapes Go.RowKit Go.Deep
open Go.Joins
def QhN(w:World)(b:Nat)(r:Qah):Prop:=∃fa fc ca cc,∀W,Bel w W->(W.cell? ⟨b,0,none⟩=some (.slice fa r.funcs.length fc)/\W.cell? ⟨b,1,none⟩=some (.slice ca r.clauses.length cc)/\W.cell? ⟨b,2,none⟩=some (Iv r.action))/\
 QaV W (λq=>q<w.heap.size) r #[.slice fa r.funcs.length fc,.slice ca r.clauses.length cc,Iv r.action]
def Jcv{W:World}{b t:Nat}{a0 a1 a2:Value}{fr:Nat×Nat}(h:W.heap[b]?=some (.cells #[a0,a1,a2] t fr)):
  W.cell? ⟨b,0,none⟩=some a0/\W.cell? ⟨b,1,none⟩=some a1/\W.cell? ⟨b,2,none⟩=some a2:=by
 refine⟨?_,?_,?_⟩<;>(rw[Ja h];rfl)
def QaV.form{W:World}{P:Nat->Prop}{r:Qah}{c:Array Value}(h:QaV W P r c):∃fa fc ca cc,c=#[.slice fa r.funcs.length fc,.slice ca r.clauses.length cc,Iv r.action]:=by
 obtain⟨fv,cv,rfl,⟨fa,fc,_,rfl,_⟩,⟨ca,cc,_,rfl,_⟩⟩:=h;exact⟨_,_,_,_,rfl⟩
def QhN.of{w:World}{b t:Nat}{r:Qah}{c:Array Value}(hz:w.heap[b]?=some (.cells c t (0,0)))(hx:QaV w (In w) r c):QhN w b r:=by
 obtain⟨fa,fc,ca,cc,rfl⟩:=hx.form;exact⟨fa,fc,ca,cc,λW hW=>⟨Jcv ((hW.block _ (Jb hz)).trans hz),QaV.keep (λq hq=>hW.block q hq) (λ_ h=>h) hx⟩⟩
def Jdn(e:Exp):1<=siz (utN e):=by cases e;unfold utN;rw[JA];omega
def QeX(w:World)(b:Nat)(F:Qav)(la wa:Option Addr)(lc wc:Nat):Prop:=∀W,Bel w W->(W.cell? ⟨b,0,none⟩=some (.slice la F.labels.length lc)/\W.cell? ⟨b,1,none⟩=some (Iv F.likes)/\W.cell? ⟨b,2,none⟩=some (Iv F.boosts)/\W.cell? ⟨b,3,none⟩=some (Iv F.replies)/\W.cell? ⟨b,4,none⟩=some (Iv F.reports)/\W.cell? ⟨b,5,none⟩=some (Iv F.age)/\W.cell? ⟨b,6,none⟩=some (Iv F.home)/\W.cell? ⟨b,7,none⟩=some (Iv F.scope)/\W.cell? ⟨b,8,none⟩=some (Iv F.length)/\W.cell? ⟨b,9,none⟩=some (.bool F.follows)/\W.cell? ⟨b,10,none⟩=some (.bool F.reply)/\W.cell? ⟨b,11,none⟩=some (.slice wa F.words.length wc))/\
 Qbm W (.slice la F.labels.length lc) F.labels/\QaF W (.slice wa F.words.length wc) F.words
def QeX.up{w w1:World}{b:Nat}{F:Qav}{la wa:Option Addr}{lc wc:Nat}(h:QeX w b F la wa lc wc)(hb:Bel w w1):QeX w1 b F la wa lc wc:=λW hW=>h W (Je hb hW)
def QeX.of{w:World}{b t:Nat}{F:Qav}{la wa:Option Addr}{lc wc:Nat}(hz:w.heap[b]?=some (.cells (QaI F (.slice la F.labels.length lc) (.slice wa F.words.length wc)) t (0,0)))(hl:Qbm w (.slice la F.labels.length lc) F.labels)(hw:QaF w (.slice wa F.words.length wc) F.words):QeX w b F la wa lc wc:=by
 intro W hW;have hf:=(hW.block _ (Jb hz)).trans hz;unfold QaI at hf;refine⟨⟨?_,?_,?_,?_,?_,?_,?_,?_,?_,?_,?_,?_⟩,hl.up hW,hw.up hW⟩<;>(rw[Ja hf];rfl)
def Jbz{a:Exp}:∀{l:List Exp},a∈l->siz (utN a)<=Qaz (utL l)
 |b::l,h=>by
  rw[utL,Ju]
  rcases List.mem_cons.1 h with e|h
  ·rw[e];omega
  ·have:=Jbz h;omega
def JjH{l:List Exp}:∀{n:Nat},Qaz (utL l)<=n->l.length<=n:=by
 induction l with
 |nil=>intro n h;simp
 |cons a l ih=>
  intro n h;rw[utL,Ju]at h;have:=Jdn a;have:=ih (n:=n-siz (utN a)) zo;simp;omega
def JB{w:World}{base e size n:Nat}{v:Value}{xs:List Value}(h:w.ownsRow base e size v n xs):∃a c,v=.slice a n c:=by
 rcases h.2 with⟨rfl,rfl⟩|⟨g,cap,cur,rfl,_⟩
 ·exact⟨none,0,rfl⟩
 ·exact⟨_,_,rfl⟩
def JZ{w w':World}{base e size n:Nat}{v:Value}{xs:List Value}(h:w.ownsRow base e size v n xs)(hb:Below w.heap.size w w'):w'.ownsRow base e size v n xs:=by
 refine⟨h.1,?_⟩
 rcases h.2 with h2|⟨g,cap,cur,hv,hbg,hg,h3⟩
 ·exact .inl h2
 ·exact .inr ⟨g,cap,cur,hv,hbg,(hb.block g (Array.getElem?_eq_some_iff.1 hg).1).trans hg,h3⟩
def Za{w:World}{base e size n:Nat}{v:Value}{xs:List Value}(h:w.ownsRow base e size v n xs){g:Nat}(hg:v.ownBlock=some g):g<w.heap.size/\base<=g:=by
 rcases h.2 with⟨rfl,_⟩|⟨g',cap,cur,rfl,hb,hg',_⟩
 ·cases hg
 ·simp only[Value.ownBlock,Option.some.injEq]at hg;subst hg;exact⟨(Array.getElem?_eq_some_iff.1 hg').1,hb⟩
def Kw{w:World}{base b' e size n:Nat}{v:Value}{xs:List Value}(h:w.ownsRow base e size v n xs)(hb:b'<=base):w.ownsRow b' e size v n xs:=by
 refine⟨h.1,?_⟩
 rcases h.2 with h2|⟨g,cap,cur,hv,hbg,h3⟩
 ·exact .inl h2
 ·exact .inr ⟨g,cap,cur,hv,Nat.le_trans hb hbg,h3⟩
def Vj(w:World)(e size:Nat):(w.alloc (.cells #[] e)).ownsRow w.heap.size e size (.slice (some ⟨w.heap.size,0,none⟩) 0 0) 0 []:=
 ⟨by simp,.inr ⟨w.heap.size,0,#[],rfl,Nat.le_refl _,zzw w _,by simp,by unfold maxLen;omega,by simp,by simp⟩⟩
def Qoc(g j:Nat):(⟨g,0,none⟩:Addr).add j=⟨g,j,none⟩:=by unfold Addr.add;split<;>simp_all
def QlV(g o j:Nat):(⟨g,o,none⟩:Addr).add j=⟨g,o+j,none⟩:=by unfold Addr.add;split<;>simp_all
structure ElT(t e:TypeId)(sz by':Nat):Prop where
 un:prog.underlying t=some (.slice e)
 el:prog.underlying t=some (.slice (prog.elem t))
 ee:prog.elem t=e
 info:∃z,(prog.info? e).map (λi=>(i.zero,i.size,i.bytes))=some (some z,sz,by')/\z.cells.size=sz
 pos:0<sz
 small:by'<=1000
section
variable {α:Type}(g:α->List Value)
def QlY(w:World)(A:Option Addr)(l:List α):Prop:=(A=none/\l=[])\/∃ad,A=some ad/\∀j u,(l.flatMap g)[j]?=some u->w.cell? (ad.add j)=some u
variable {g}
def Vk{w:World}{b t:Nat}{x:α}{fr:Nat×Nat}(h:w.heap[b]?=some (.cells (g x).toArray t fr)):QlY g w (some ⟨b,0,none⟩) [x]:=
 .inr ⟨_,rfl,λj u hu=>by
  have xA:(g x)[j]?=some u:=by simpa using hu
  rw[Qoc];unfold World.cell?;simp only[h]
  simpa using xA⟩
def Vs{sz:Nat}(hg:∀a,(g a).length=sz):∀l:List α,(l.flatMap g).length=l.length*sz
 |[]=>by simp
 |a::l=>by
  rw[List.flatMap_cons,List.length_append,Vs hg l,hg,List.length_cons,Nat.add_mul,Nat.one_mul,Nat.add_comm]
def Jcz{w:World}{t e sz by':Nat}(E:ElT t e sz by')(hg:∀a,(g a).length=sz)(h1:∀a,∀u∈g a,u.oneCell'=true)(base:Nat)(ty:TypeId)(v:Value)(n:Nat)(xs:List Value)(hown:w.ownsRow base e sz v n xs)
  (A:Option Addr) (C m:Nat) (l:List α) (hm:l.length=m) (hA:l=[]\/QlY g w A l) (h63:n+m<=1000000000) (hbase:base<=w.heap.size):
  ∃v' w',(Builtin.append_ #[t,t] ty #[v,.slice A m C]).run prog w=.ok v' w'/\w'.ownsRow base e sz v' (n+m) (xs++l.flatMap g)/\Below base w w'/\w.grownBy w' v.ownBlock:=by
 obtain⟨z,hz,uA⟩:=E.info;obtain⟨i0,xA,zA,vA,yA⟩:=info_parts hz;subst hm
 have N6:(n+l.length)*by'<=140737488355328:=by
  have:=Nat.mul_le_mul h63 E.small;omega
 by_cases D7:A=none
 ·subst D7
  have hl:l=[]:=by
   rcases hA with h|h|⟨ad,h,_⟩
   ·exact h
   ·exact h.2
   ·cases h
  subst hl
  have hrun:(Builtin.append_ #[t,t] ty #[v,.slice none 0 C]).run prog w=.ok v w:=by
   rcases hown.2 with⟨rfl,rfl⟩|⟨g,cap,cur,rfl,_,_,hnc,_⟩
   ·simp[Builtin.append_,run_underlying E.un,sizeOf,typeInfo,xA,Builtin.lenOf,Builtin.firstCells]
   ·simp[Builtin.append_,run_underlying E.un,sizeOf,typeInfo,xA,Builtin.lenOf,Builtin.firstCells,hnc,storeCells]
  exact⟨v,w,hrun,by simpa using hown,zzb,⟨rfl,rfl,rfl,Nat.le_refl _,λ_ _ _=>rfl⟩⟩
 ·obtain⟨ad,rfl⟩:∃ad,A=some ad:=by cases A with|none=>exact absurd rfl D7|some a=>exact⟨a,rfl⟩
  have hc:∀j u,(l.flatMap g)[j]?=some u->w.cell? (ad.add j)=some u:=by
   rcases hA with rfl|⟨h,_⟩|⟨ad',h,hc⟩
   ·intro j u hu;simp at hu
   ·cases h
   ·obtain rfl:=Option.some.inj h;exact hc
  obtain⟨v',w',hr,h2,h3,h4⟩:=run_append_own (P:=prog) w base t ty e i0 z sz by' E.un xA zA vA yA uA E.pos v n xs hown ad l.length C (l.flatMap g) (Vs hg l) hc (λu hu=>by
   obtain⟨a,_,ha⟩:=List.mem_flatMap.1 hu
   exact h1 a u ha) (by unfold maxLen;omega) N6 hbase
  exact⟨v',w',hr,h2,(Below.refl base w).grown h3 hbase λk hk=>(Za hown hk).2,h3⟩
def Jr{t e sz by':Nat}(E:ElT t e sz by')(hg:∀a,(g a).length=sz)(h1:∀a,∀u∈g a,u.oneCell'=true){w:World}{o:Oper}{a:Act}{K:Act->World->Prop}{Q:Exit->Act->World->Prop}(s x:Operand)
  (ho:o.op=.call {callee:=.builtin .append,args:=#[s,x],argTypes:=#[t,t]})
  (base:Nat) (v:Value) (n:Nat) (xs:List Value) (hs:a.eval s=v) (hown:w.ownsRow base e sz v n xs)
  (A:Option Addr) (C m:Nat) (l:List α) (hm:l.length=m) (hA:l=[]\/QlY g w A l) (hx:a.eval x=.slice A m C) (h63:n+m<=1000000000) (hbase:base<=w.heap.size)
  (h:∀v' w',w'.ownsRow base e sz v' (n+m) (xs++l.flatMap g)->Below base w w'->w.grownBy w' v.ownBlock->K (a.put o.dst v') w'):o.wp prog a w K Q:=by
 obtain⟨v',w',hr,h2,h3,h4⟩:=Jcz E hg h1 base o.type v n xs hown A C m l hm hA h63 hbase;unfold Oper.wp execOp;simp only[ho,resolve,invoke,builtin,Sem.run_bind,Sem.run_pure,Result.andThen_ok,List.map_toArray,List.map_cons,List.map_nil,hs,hx,hr];exact h v' w' h2 h3 h4
def VR{w:World}{base e sz n c:Nat}{A:Option Addr}{xs:List Value}(h:w.ownsRow base e sz (.slice A n c) n xs):
  (A=none/\c=0/\n=0)\/∃b,A=some ⟨b,0,none⟩/\n<=c/\base<=b/\∀j u,xs[j]?=some u->w.cell? ⟨b,j,none⟩=some u:=by
 rcases h.2 with⟨h1,h0⟩|⟨b,cap,cur,hv,hb,hg,hc,hm,hs,ht⟩
 ·simp only[Value.slice.injEq]at h1;exact .inl ⟨h1.1,h1.2.2,h0⟩
 ·simp only[Value.slice.injEq]at hv;obtain⟨rfl,_,rfl⟩:=hv;refine .inr ⟨b,rfl,hc,hb,λj u hu=>?_⟩;have:=h.cells (g:=b) rfl j u hu;rw[Qoc]at this;exact this
end
open Go Go.Lib
theorem zAw{P:Prop}(h:P:=by
  go_enter func139,ntmps139;go_wp2;go_ret;exact⟨by rw[hN.o];rfl,rfl⟩):P:=h
def Qhp(n l h:Int)(w:World):Calls prog 139 #[Iv n,Iv l,Iv h] w (Qbj (Iv (QaM n l h)) w):=by
 by_cases h1:n<l
 ·have hN:Hi (QaM n l h=l):=by unfold Hi QaM;rw[if_pos h1]
  exact zAw
 ·have hd:decide (n<l)=false:=by simpa using h1
  by_cases h2:h<n
  ·have hN:Hi (QaM n l h=h):=by unfold Hi QaM;rw[if_neg h1,if_pos h2]
   exact zAw
  ·have xA:decide (h<n)=false:=by simpa using h2
   have hN:Hi (QaM n l h=n):=by unfold Hi QaM;rw[if_neg h1,if_neg h2]
   exact zAw
theorem zAk{P:Prop}(h:P:=by
  rintro e w' ⟨rfl,rfl⟩;go_wp2_with fail;go_ret;exact⟨rfl,rfl⟩):P:=h
def Qdd(n:Int)(w:World):Calls prog 117 #[Iv n] w (Qbj (Iv (Qbw n)) w):=by
 go_enter func117,ntmps117;go_wp2_with fail;refine(Qhp _ _ _ w).mono ?_;exact zAk
def QcB(n:Int)(w:World)(h:Qat n):Calls prog 140 #[Iv n] w (Qbj (.int .u64 (n.natAbs:Int)) w):=by
 unfold Qat at h
 by_cases h0:n<0
 ·obtain⟨m,rfl⟩:∃m:Nat,n = -(m:Int)-1:=⟨(-n-1).toNat,by omega⟩
  have hm:(m:Int)<=9223372036854775807:=zo
  have d0:decide (-(m:Int)-1<0)=true:=zE zo;have e:Hi ((((-(m:Int)-1).natAbs:Nat):Int)=(m:Int)+1):=by unfold Hi;omega
  go_enter func140,ntmps140;go_wp2;go_ret;refine⟨?_,rfl⟩;rw[e.o];rfl
 ·obtain⟨m,rfl⟩:∃m:Nat,n=(m:Int):=⟨n.toNat,by omega⟩
  go_enter func140,ntmps140;go_wp2;go_ret;refine⟨?_,rfl⟩;rfl
def Qgi(u:Nat):Qbw (u:Int)=min (u:Int) 1125899906842624:=by
 unfold Qbw QaM;rw[if_neg zo];split<;>omega
def Qds(u:Nat):Qbw (-(u:Int)) = -min (u:Int) 1125899906842624:=by
 unfold Qbw QaM;split
 ·omega
 ·rw[if_neg zo];omega
def sgn(neg:Bool)(u:Nat):Int:=bif neg then -(u:Int) else u
def QcJ(u:Nat)(neg:Bool)(w:World)(h:(u:Int)<=18446744073709551615):Calls prog 141 #[.int .u64 u,.bool neg] w (Qbj (Iv (Qbw (sgn neg u))) w):=by
 cases neg
 ·have HN:=Zh (show Qbw (sgn false u)=_ from Qgi u);go_enter func141,ntmps141;go_wp2;go_ret;exact⟨by rw[HN.o];rfl,rfl⟩
 ·have HN:=Zh (show Qbw (sgn true u)=_ from Qds u);go_enter func141,ntmps141;go_wp2;go_ret;exact⟨by rw[HN.o];rfl,rfl⟩
def QjS(a b:Int):sgn (decide (a<0) !=decide (b<0)) (a.natAbs*b.natAbs)=a*b:=by
 have h:=JhB (a:=a) (b:=b)
 cases hs:(decide (a<0) !=decide (b<0))<;>rw[hs]at h<;>simp[sgn]at h |-<;>omega
def QjU(a b:Int):sgn (decide (a<0) !=decide (b<0)) (a.natAbs / b.natAbs)=a.tdiv b:=by
 have h1:(a.tdiv b).natAbs=a.natAbs / b.natAbs:=Int.natAbs_tdiv a b;rw[<-h1]
 by_cases ha:a<0<;>by_cases hb:b<0
 ·have h:=Int.tdiv_nonneg (a:=-a) (b:=-b) zo zo;rw[Int.tdiv_neg,Int.neg_tdiv,Int.neg_neg]at h;rw[zE ha,zE hb];simp only[sgn,bne_self_eq_false,cond_false];omega
 ·have h:=Int.tdiv_nonneg (a:=-a) (b:=b) zo zo;rw[Int.neg_tdiv]at h;rw[zE ha,zF hb]
  show -((a.tdiv b).natAbs:Int)=_
  omega
 ·have h:=Int.tdiv_nonneg (a:=a) (b:=-b) zo zo;rw[Int.tdiv_neg]at h;rw[zF ha,zE hb]
  show -((a.tdiv b).natAbs:Int)=_
  omega
 ·have h:=Int.tdiv_nonneg (a:=a) (b:=b) zo zo;rw[zF ha,zF hb]
  show ((a.tdiv b).natAbs:Int)=_
  omega
def QjT(a b:Int):sgn (decide (a<0)) (a.natAbs % b.natAbs)=a.tmod b:=by
 have h1:(a.tmod b).natAbs=a.natAbs % b.natAbs:=Int.natAbs_tmod a b;rw[<-h1]
 by_cases ha:a<0
 ·have h:0<=(-a).tmod b:=Int.tmod_nonneg b zo;rw[Int.neg_tmod]at h;rw[zE ha]
  show -((a.tmod b).natAbs:Int)=_
  omega
 ·have h:0<=a.tmod b:=Int.tmod_nonneg b zo;rw[zF ha]
  show ((a.tmod b).natAbs:Int)=_
  omega
def Qik(a:Int)(w:World):Calls prog 120 #[Iv a,Iv 0] w (Qbj (.tuple #[Iv 0,.bool false]) w):=by
 go_enter func120,ntmps120;go_wp2;go_ret2;exact⟨rfl,rfl⟩
def Qii(a:Int)(w:World):Calls prog 121 #[Iv a,Iv 0] w (Qbj (.tuple #[Iv 0,.bool false]) w):=by
 go_enter func121,ntmps121;go_wp2;go_ret2;exact⟨rfl,rfl⟩
theorem zAo{P:Prop}(h:P:=by
  go_wp2_with fail;refine(c1 _).mono ?_;rintro e w' ⟨rfl,rfl⟩;go_wp2_with fail;refine(c2 _).mono ?_;rintro e w' ⟨rfl,rfl⟩;go_wp2_with fail;refine(c3 _).mono ?_;rintro e w' ⟨rfl,rfl⟩;go_wp2_with fail;go_ret2;exact⟨rfl,rfl⟩):P:=h
def QjX(a b q:Int)(x y:Nat)(w:World)(h0:(b==(0:Int))=false)(h1:1<=y)(h2:(x:Int)<=18446744073709551615)
  (c1:∀W,Calls prog 140 #[Iv a] W (Qbj (.int .u64 x) W)) (c2:∀W,Calls prog 140 #[Iv b] W (Qbj (.int .u64 y) W))
  (u1:0<=(x:Int) / (y:Int)) (u2:(x:Int) / (y:Int)<=18446744073709551615)
  (c3:∀W,Calls prog 141 #[.int .u64 ((x:Int) / (y:Int)),.bool (decide (a<0) !=decide (b<0))] W (Qbj (Iv q) W)):
  Calls prog 120 #[Iv a,Iv b] w (Qbj (.tuple #[Iv q,.bool true]) w):=by
 go_enter func120,ntmps120;exact zAo
def QjW(a b q:Int)(x y:Nat)(w:World)(h0:(b==(0:Int))=false)(h1:1<=y)(h2:(x:Int)<=18446744073709551615)
  (c1:∀W,Calls prog 140 #[Iv a] W (Qbj (.int .u64 x) W)) (c2:∀W,Calls prog 140 #[Iv b] W (Qbj (.int .u64 y) W))
  (u1:0<=(x:Int) % (y:Int)) (u2:(x:Int) % (y:Int)<=18446744073709551615)
  (c3:∀W,Calls prog 141 #[.int .u64 ((x:Int) % (y:Int)),.bool (decide (a<0))] W (Qbj (Iv q) W)):
  Calls prog 121 #[Iv a,Iv b] w (Qbj (.tuple #[Iv q,.bool true]) w):=by
 go_enter func121,ntmps121;exact zAo
def QgI(a b:Int)(w:World)(ha:Qat a)(hb:Qat b):Calls prog 120 #[Iv a,Iv b] w (Qbj (.tuple #[Iv (if b=0 then 0 else Qbw (a.tdiv b)),.bool (decide (b≠0))]) w):=by
 by_cases h0:b=0
 ·subst h0;rw[if_pos rfl];exact Qik a w
 ·rw[if_neg h0,zE h0];have q1:(a.natAbs:Int)<=18446744073709551615:=by unfold Qat at ha;omega
  have q2:a.natAbs / b.natAbs<=a.natAbs:=Nat.div_le_self _ _;refine QjX a b _ a.natAbs b.natAbs w (zzq h0) zo q1 (λW=>QcB a W ha) (λW=>QcB b W hb) (by rw[<-Int.natCast_ediv];exact Int.natCast_nonneg _) (by rw[<-Int.natCast_ediv];omega) λW=>?_
  have c:=QcJ (a.natAbs / b.natAbs) (decide (a<0) !=decide (b<0)) W zo;rw[QjU,Int.natCast_ediv]at c;exact c
def QgH(a b:Int)(w:World)(ha:Qat a)(hb:Qat b):Calls prog 121 #[Iv a,Iv b] w (Qbj (.tuple #[Iv (if b=0 then 0 else Qbw (a.tmod b)),.bool (decide (b≠0))]) w):=by
 by_cases h0:b=0
 ·subst h0;rw[if_pos rfl];exact Qii a w
 ·rw[if_neg h0,zE h0];have q1:(a.natAbs:Int)<=18446744073709551615:=by unfold Qat at ha;omega
  have q2:a.natAbs % b.natAbs<=a.natAbs:=Nat.mod_le _ _;refine QjW a b _ a.natAbs b.natAbs w (zzq h0) zo q1 (λW=>QcB a W ha) (λW=>QcB b W hb) (by rw[<-Int.natCast_emod];omega) (by rw[<-Int.natCast_emod];omega) λW=>?_
  have c:=QcJ (a.natAbs % b.natAbs) (decide (a<0)) W zo;rw[QjT,Int.natCast_emod]at c;exact c
theorem zAs{P:Prop}(h:P:=by
  have s1:a+b<=9223372036854775807:=zo
  have s2:-9223372036854775808<=a+b:=zo
  go_enter func118,ntmps118;go_wp2_with fail;refine(Qdd _ _).mono ?_;exact zAk):P:=h
def Qje(a b:Int)(w:World)(ha:Qat a)(hb:Qat b):Calls prog 118 #[Iv a,Iv b] w (Qbj (Iv (Qbw (a+b))) w):=by
 unfold Qat at ha hb
 by_cases h0:0<=b
 ·have d0:decide (0<=b)=true:=zE h0
  by_cases h1:1125899906842624-b<a
  ·have d1:decide (1125899906842624-b<a)=true:=zE h1;have z:Hi (Qbw (a+b)=1125899906842624):=by unfold Hi Qbw QaM;rw[if_neg zo,if_pos zo]
   go_enter func118,ntmps118;go_wp2;go_ret;exact⟨by rw[z.o];rfl,rfl⟩
  ·have d1:decide (1125899906842624-b<a)=false:=zF h1;have d2:decide (b<0)=false:=zF zo;exact zAs
 ·have d0:decide (0<=b)=false:=zF h0;have d2:decide (b<0)=true:=zE zo
  by_cases h1:a < -1125899906842624-b
  ·have d1:decide (a < -1125899906842624-b)=true:=zE h1;have z:Hi (Qbw (a+b) = -1125899906842624):=by unfold Hi Qbw QaM;rw[if_pos zo]
   go_enter func118,ntmps118;go_wp2;go_ret;exact⟨by rw[z.o];rfl,rfl⟩
  ·have d1:decide (a < -1125899906842624-b)=false:=zF h1;exact zAs
theorem zAt{P:Prop}(h:P:=by
  have s1:a-b<=9223372036854775807:=zo
  have s2:-9223372036854775808<=a-b:=zo
  go_enter func91,ntmps91;go_wp2_with fail;refine(Qdd _ _).mono ?_;exact zAk):P:=h
def QgG(a b:Int)(w:World)(ha:Qat a)(hb:Qat b):Calls prog 91 #[Iv a,Iv b] w (Qbj (Iv (Qbw (a-b))) w):=by
 unfold Qat at ha hb
 by_cases h0:b<0
 ·have d0:decide (b<0)=true:=zE h0
  by_cases h1:1125899906842624+b<a
  ·have d1:decide (1125899906842624+b<a)=true:=zE h1;have z:Hi (Qbw (a-b)=1125899906842624):=by unfold Hi Qbw QaM;rw[if_neg zo,if_pos zo]
   go_enter func91,ntmps91;go_wp2;go_ret;exact⟨by rw[z.o];rfl,rfl⟩
  ·have d1:decide (1125899906842624+b<a)=false:=zF h1;have d2:decide (0<=b)=false:=zF zo;exact zAt
 ·have d0:decide (b<0)=false:=zF h0;have d2:decide (0<=b)=true:=zE zo
  by_cases h1:a < -1125899906842624+b
  ·have d1:decide (a < -1125899906842624+b)=true:=zE h1;have z:Hi (Qbw (a-b) = -1125899906842624):=by unfold Hi Qbw QaM;rw[if_pos zo]
   go_enter func91,ntmps91;go_wp2;go_ret;exact⟨by rw[z.o];rfl,rfl⟩
  ·have d1:decide (a < -1125899906842624+b)=false:=zF h1;exact zAt
theorem zAn{P:Prop}(h:P:=by
  have z:Hi (Qbw (a*b)=0):=by unfold Hi;rw[<-hs];simp[sgn];rfl
  go_enter func119,ntmps119;go_wp2_with fail;refine(c1 _).mono ?_;rintro e w' ⟨rfl,rfl⟩;go_wp2_with fail;refine(c2 _).mono ?_;rintro e w' ⟨rfl,rfl⟩;go_wp2_with fail;go_ret;exact⟨by rw[z.o];rfl,rfl⟩):P:=h
theorem zAp{P:Prop}(h:P:=by
  go_enter func119,ntmps119;go_wp2_with fail;refine(c1 _).mono ?_;rintro e w' ⟨rfl,rfl⟩;go_wp2_with fail;refine(c2 _).mono ?_;rintro e w' ⟨rfl,rfl⟩;go_wp2_with fail;refine(c3 _).mono ?_;exact zAk):P:=h
def Qjb(a b:Int)(w:World)(ha:Qat a)(hb:Qat b):Calls prog 119 #[Iv a,Iv b] w (Qbj (Iv (Qbw (a*b))) w):=by
 have c1:=λW=>QcB a W ha
 have c2:=λW=>QcB b W hb
 have hs:=QjS a b;unfold Qat at ha hb
 generalize a.natAbs=x at*;generalize b.natAbs=y at*
 by_cases hx:x=0
 ·subst hx;exact zAn
 by_cases hy:y=0
 ·subst hy;exact zAn
 have dy:((y:Int)==0)=false:=by simpa using hy
 have yp:1<=y:=zo
 have xA:0<y:=zo
 by_cases hq:1125899906842624 / y<x
 ·have dq:decide ((1125899906842624:Int) / (y:Int)<(x:Int))=true:=zE (by have h:=Int.natCast_ediv 1125899906842624 y;rw[show ((1125899906842624:Nat):Int)=1125899906842624 from rfl]at h;omega);have hb:1125899906842624<x*y:=(Nat.div_lt_iff_lt_mul xA).1 hq
  have z:Hi (Qbw (a*b)=Qbw (sgn (decide (a<0) !=decide (b<0)) 1125899906842624)):=by
   unfold Hi;rw[<-hs];generalize x*y=u at*
   cases (decide (a<0) !=decide (b<0))<;>simp only[sgn,cond_true,cond_false]
   ·rw[Qgi,Qgi];omega
   ·rw[Qds,Qds];omega
  have c3:=λW=>QcJ 1125899906842624 (decide (a<0) !=decide (b<0)) W zd
  rw[<-z.o]at c3;exact zAp
 ·have dq:decide ((1125899906842624:Int) / (y:Int)<(x:Int))=false:=zF (by have h:=Int.natCast_ediv 1125899906842624 y;rw[show ((1125899906842624:Nat):Int)=1125899906842624 from rfl]at h;omega)
  have hb:x*y<=1125899906842624:=by
   rcases Nat.lt_or_ge 1125899906842624 (x*y) with h|h
   ·exact absurd ((Nat.div_lt_iff_lt_mul xA).2 h) hq
   ·exact h
  have zA:(x:Int)*(y:Int)<=1125899906842624:=by rw[<-Int.natCast_mul];omega
  have yA:0<=(x:Int)*(y:Int):=by rw[<-Int.natCast_mul];omega
  have c3:=λW=>QcJ (x*y) (decide (a<0) !=decide (b<0)) W zo
  rw[hs,Int.natCast_mul]at c3;exact zAp
def Qar.cellsG(K:Qar)(u c:Nat)(f:Int):Array Value:=#[.slice K.fa K.r.funcs.length K.fc,.slice K.ca K.r.clauses.length K.cc,Iv K.r.action,
 .slice K.la K.F.labels.length K.lc,Iv K.F.likes,Iv K.F.boosts,Iv K.F.replies,Iv K.F.reports,Iv K.F.age,Iv K.F.home,Iv K.F.scope,Iv K.F.length,.bool K.F.follows,.bool K.F.reply,.slice K.wa K.F.words.length K.wc,
 Iv u,Iv c,Iv f]
structure QbG(K:Qar)(W:World)(u c:Nat)(f:Int):Prop where
 self:W.heap[K.p]?=some (.cells (K.cellsG u c f) 88 (0,0))
 bel:Bel K.w0 W
def gI(n:Int):List Value:=[Iv n]
structure LpG(K:Qar)(c d:Nat)(vars types:List Int)(u:Nat)(l:List Exp)(w1:World)(i:Nat)(vs:List Int)(ui:Nat)(ov:Value)(W:World):Prop where
 mr:QbG K W ui c 0
 chg:Chg [K.p] w1 W
 row:W.ownsRow w1.heap.size 3 1 ov i (vs.flatMap gI)
 ev:QdZ K d vars u l=(QdZ K d vars ui (l.drop i)).bind λws u''=>.val (vs++ws) u''
 len:vs.length=i
 ok:∀(j:Nat)(v:Int)(y:Exp),vs[j]?=some v->l[j]?=some y->VOk (ofN K.r.sigs types (utN y)).1 v
 us:ui<=10000
def LpG.fault{K:Qar}{c d:Nat}{M0 N0:List Int}{u:Nat}{l:List Exp}{w1:World}{i:Nat}{vs:List Int}{ui:Nat}{ov:Value}{W:World}(h:LpG K c d M0 N0 u l w1 i vs ui ov W){y:Exp}(hy:l[i]?=some y){er:Int}{u6:Nat}(he:evK K d M0 ui y=.fault er u6):QdZ K d M0 u l=.fault er u6:=by
 have hi:i<l.length:=(List.getElem?_eq_some_iff.1 hy).1;have xA:l[i]=y:=(List.getElem?_eq_some_iff.1 hy).2;rw[h.ev,List.drop_eq_getElem_cons hi,xA,Jbp,he];rfl
def QgZ{s:By}{t:Int}(hf:QaA s=some t):t=0\/t=1:=by
 unfold QaA at hf;split at hf
 ·injection hf with hf;exact .inl hf.symm
 ·split at hf
  ·injection hf with hf;exact .inr hf.symm
  ·cases hf
def QlK(fs:List Qau)(M0:List Int)(k nn:Int)(s:By)(l:List Exp)(h:k=1\/k=5\/k=7\/k=13\/k=14\/k=15\/k=16\/k=17):(ofN fs M0 (utN (.mk k nn s l))).1=1:=by
 rw[utN,YX]
 rcases h with rfl|rfl|rfl|rfl|rfl|rfl|rfl|rfl
 case inr.inr.inr.inr.inr.inl=>
  simp only[show ¬((15:Int)=1\/(15:Int)=5) by decide,show ¬(15:Int)=2 by decide,show ¬(15:Int)=3 by decide,show ¬((15:Int)=6\/(8<=(15:Int)/\(15:Int)<=12)) by decide,show ¬((15:Int)=13\/(15:Int)=14) by decide,if_false,if_true];split<;>rfl
 all_goals simp
def QlL(fs:List Qau)(M0:List Int)(k nn:Int)(s:By)(l:List Exp)(h:k=0\/k=4\/k=6\/(8<=k/\k<=12)):(ofN fs M0 (utN (.mk k nn s l))).1=0:=by
 rw[utN,YX,if_neg zo,if_neg zo,if_neg zo]
 by_cases h6:k=6\/(8<=k/\k<=12)
 ·rw[if_pos h6]
 ·rw[if_neg h6,if_neg zo,if_neg zo,if_neg zo,if_neg zo,if_neg zo,if_neg zo]
def QlI(fs:List Qau)(M0:List Int)(nn:Int)(s:By)(l:List Exp):(ofN fs M0 (utN (.mk 2 nn s l))).1=M0.getD nn.toNat 0:=by rw[utN,YX];simp
def QlH(fs:List Qau)(M0:List Int)(nn:Int)(s:By)(l:List Exp):(ofN fs M0 (utN (.mk 3 nn s l))).1=(QaA s).getD 0:=by rw[utN,YX];simp
def QjE(fs:List Qau)(M0:List Int)(nn:Int)(s:By)(l:List Exp):(ofN fs M0 (utN (.mk 20 nn s l))).1=(fs.getD nn.toNat ⟨[],0⟩).result:=by rw[utN,YX];simp
def QeA{l:List Int}(h:∀v∈l,0<=v)(i:Nat):0<=l.getD i 0:=by
 rw[List.getD_eq_getElem?_getD]
 cases hi:l[i]? with
 |none=>exact Int.le_refl 0
 |some v=>exact h v (List.mem_of_getElem? hi)
mutual
def QdP{fs:List Qau}(hs:∀f∈fs,0<=f.result):∀(e:Exp)(M0:List Int),(∀v∈M0,0<=v)->0<=(ofN fs M0 (utN e)).1
 |.mk k n s l,M0,hv=>by
  have hl:=Qeq hs l
  by_cases h1:k=1\/k=5\/k=7\/k=13\/k=14\/k=15\/k=16\/k=17
  ·rw[QlK _ _ _ _ _ _ h1];decide
  by_cases h0:k=0\/k=4\/k=6\/(8<=k/\k<=12)
  ·rw[QlL _ _ _ _ _ _ h0];decide
  by_cases h2:k=2
  ·subst h2;rw[QlI];exact QeA hv _
  by_cases h3:k=3
  ·subst h3;rw[QlH]
   cases hf:QaA s with
   |none=>decide
   |some t=>rcases QgZ hf with rfl|rfl<;>decide
  by_cases F5:k=18
  ·subst F5;rw[utN,YX];simp only[show ¬((18:Int)=1\/(18:Int)=5) by decide,show ¬(18:Int)=2 by decide,show ¬(18:Int)=3 by decide,show ¬((18:Int)=6\/(8<=(18:Int)/\(18:Int)<=12)) by decide,show ¬((18:Int)=13\/(18:Int)=14) by decide,show ¬(18:Int)=15 by decide,show ¬((18:Int)=7\/(18:Int)=16\/(18:Int)=17) by decide,if_false,if_true]
   match l,hl with
   |[],_=>rw[utL];exact Int.le_refl 0
   |[z],_=>rw[utL,utL];exact Int.le_refl 0
   |[z,a],_=>rw[utL,utL,utL];exact Int.le_refl 0
   |[z,a,b],hl=>rw[utL,utL,utL,utL];exact hl a (by simp) M0 hv
   |z::a::b::c::r,_=>rw[utL,utL,utL,utL];exact Int.le_refl 0
  by_cases N2:k=19
  ·subst N2;rw[utN,YX];simp only[show ¬((19:Int)=1\/(19:Int)=5) by decide,show ¬(19:Int)=2 by decide,show ¬(19:Int)=3 by decide,show ¬((19:Int)=6\/(8<=(19:Int)/\(19:Int)<=12)) by decide,show ¬((19:Int)=13\/(19:Int)=14) by decide,show ¬(19:Int)=15 by decide,show ¬((19:Int)=7\/(19:Int)=16\/(19:Int)=17) by decide,show ¬(19:Int)=18 by decide,if_false,if_true]
   match l,hl with
   |[],_=>rw[utL];exact Int.le_refl 0
   |[z],_=>rw[utL,utL];exact Int.le_refl 0
   |[a,b],hl=>
    rw[utL,utL,utL];refine hl b (by simp) _ λv h=>?_
    rcases List.mem_append.1 h with h|h
    ·exact hv v h
    ·rw[List.mem_singleton.1 h];exact hl a (by simp) M0 hv
   |z::a::b::r,_=>rw[utL,utL,utL];exact Int.le_refl 0
  by_cases O2:k=20
  ·subst O2;rw[QjE,List.getD_eq_getElem?_getD]
   cases hi:fs[n.toNat]? with
   |none=>exact Int.le_refl 0
   |some f=>exact hs f (List.mem_of_getElem? hi)
  rw[utN,YX,if_neg (by omega),if_neg h2,if_neg h3,if_neg (by omega),if_neg (by omega),if_neg (by omega),if_neg (by omega),if_neg F5,if_neg N2,if_neg O2];exact Int.le_refl 0
def Qeq{fs:List Qau}(hs:∀f∈fs,0<=f.result):∀(l:List Exp),∀a∈l,∀(M0:List Int),(∀v∈M0,0<=v)->0<=(ofN fs M0 (utN a)).1
 |[],a,ha=>by cases ha
 |b::l,a,ha=>by
  rcases List.mem_cons.1 ha with h|h
  ·rw[h];exact QdP hs b
  ·exact Qeq hs l a h
end
def Qcn(fs:List Qau)(M0:List Int)(k:Int)(l:List Exp)(i:Nat):List Int:=if k=19/\i=1 then M0++[(ofN fs M0 (utN (l.getD 0 Qgg))).1] else M0
structure NnT(fs:List FnM)(vars:List Int):Prop where
 fns:∀f∈fs.map Qas,0<=f.result/\∀p∈f.params,0<=p
 vars:∀v∈vars,0<=v
def NnT.scope{fs:List FnM}{M0:List Int}(h:NnT fs M0)(k:Int)(l:List Exp)(i:Nat):NnT fs (Qcn (fs.map Qas) M0 k l i):=by
 refine⟨h.fns,λv hv=>?_⟩;unfold Qcn at hv;split at hv
 ·rcases List.mem_append.1 hv with hv|hv
  ·exact h.vars v hv
  ·rw[List.mem_singleton.1 hv];exact QdP (λf hf=>(h.fns f hf).1) _ _ h.vars
 ·exact h.vars v hv
structure GrI(K:Qar)(ob:Nat)(W:World)(u:Nat)(f:Int):Prop where
 mr:QbG K W u 0 f
 res:W.heap[ob]?=some (.cells #[Iv 0,Em,Iv 0,Iv 0] 36 (0,0))
 low:K.w0.heap.size<=ob/\ob≠K.p
def GrI.o{K:Qar}{ob:Nat}{W:World}{u:Nat}{f:Int}(h:GrI K ob W u f)(X:QjK):(∀j,W.frozen? ⟨ob,j,none⟩=false)/\ob<W.heap.size/\
  (((((W.setCell ⟨ob,0,none⟩ (Iv X.action)).setCell ⟨ob,1,none⟩ (.string (bs X.reason))).setCell ⟨ob,2,none⟩ (Iv X.used)).setCell ⟨ob,3,none⟩ (Iv X.fault)).heap[ob]?=some (.cells (QfU X) 36 (0,0)))/\
  Bel K.w0 ((((W.setCell ⟨ob,0,none⟩ (Iv X.action)).setCell ⟨ob,1,none⟩ (.string (bs X.reason))).setCell ⟨ob,2,none⟩ (Iv X.used)).setCell ⟨ob,3,none⟩ (Iv X.fault)):=
 ⟨λj=>Jc h.res j,Jb h.res,Qgt _ _ _ _ h.res,Below.setCell (Below.setCell (Below.setCell (Below.setCell h.mr.bel h.low.1 _) h.low.1 _) h.low.1 _) h.low.1 _⟩
def Qex(c:UInt8):Prop:=48<=c.toNat/\c.toNat<=57
def QeU{d:Nat}(h:d<10):(UInt8.ofNat (48+d)).toNat=48+d:=by
 rw[UInt8.toNat_ofNat'];omega
def Qee(l:By)(c:UInt8):∀acc a,parseUint10 acc l=.ok a->Qex c->a*10+(c.toNat-48)<18446744073709551616->parseUint10 acc (l++[c])=.ok (a*10+(c.toNat-48)):=by
 induction l with
 |nil=>
  intro acc a h hc hb;simp only[parseUint10]at h;injection h with h;subst h;unfold Qex at hc;simp only[List.nil_append,parseUint10];rw[if_pos hc,if_neg zo,if_neg zo]
 |cons x l ih=>
  intro acc a h hc hb;simp only[List.cons_append,parseUint10]at h |-;split at h
  ·rename_i hx;rw[if_pos hx];split at h
   ·cases h
   ·rename_i h1;rw[if_neg h1];split at h
    ·cases h
    ·rename_i h2;rw[if_neg h2];exact ih _ _ h hc hb
  ·cases h
def Qil(u:Nat):u<18446744073709551616->parseUint10 0 (decDigits u)=.ok u:=by
 induction u using Nat.strongRecOn with
 |ind u ih=>
  intro hu;rw[decDigits]
  by_cases h:u<10
  ·rw[dif_pos h];simp only[parseUint10];rw[QeU h,if_pos zo,if_neg zo,if_neg zo]
   congr 1
   omega
  ·rw[dif_neg h];have h1:=ih (u / 10) zo zo;have hd:=QeU (d:=u % 10) zo;rw[Qee _ _ _ _ h1 (by unfold Qex;omega) zo,hd]
   congr 1
   omega
def Qdi(u:Nat):decDigits u≠[]:=by
 rw[decDigits];split<;>simp
def QiN(u:Nat):∀c∈decDigits u,Qex c:=by
 induction u using Nat.strongRecOn with
 |ind u ih=>
  intro c hc;rw[decDigits]at hc;split at hc
  ·rename_i h;rw[List.mem_singleton]at hc;subst hc;have:=QeU h;unfold Qex;omega
  ·rename_i h;rw[List.mem_append]at hc
   rcases hc with hc|hc
   ·exact ih _ zo c hc
   ·rw[List.mem_singleton]at hc;subst hc;have:=QeU (d:=u % 10) zo;unfold Qex;omega
def Qfy(u:Nat)(hu:u<18446744073709551616):parseMag (decDigits u)=.ok u:=by
 unfold parseMag;rw[if_neg (Qdi u),Qil u hu]
def QiP{n:Int}(h1:-9223372036854775808<=n)(h2:n<=9223372036854775807):atoiAll (itoa n)=.ok n:=by
 unfold itoa
 by_cases h:n<0
 ·rw[if_pos h,atoiAll_minus,Qfy _ zo];simp only[signed];rw[if_neg zo]
  congr 1
  omega
 ·rw[if_neg h];have hm:=Qfy n.toNat zo;have xA:=QiN n.toNat
  cases hd:decDigits n.toNat with
  |nil=>exact absurd hd (Qdi _)
  |cons c r=>
   rw[hd]at hm xA;have hc:=xA c zp;unfold Qex at hc;rw[atoiAll_plain c r zo zo,hm];simp only[signless];rw[if_neg zo]
   congr 1
   omega
def Qhs(n:Int):(0<=n/\itoa n=decDigits n.toNat)\/(n<0/\itoa n=45::decDigits n.natAbs):=by
 unfold itoa
 by_cases h:n<0
 ·right;exact⟨h,by rw[if_pos h]⟩
 ·left;exact⟨by omega,by rw[if_neg h]⟩
def Qdj(u:Nat):∀k,u<10 ^ k->1<=k->(decDigits u).length<=k:=by
 induction u using Nat.strongRecOn with
 |ind u ih=>
  intro k hk h1;rw[decDigits];split
  ·simpa using h1
  ·rename_i h;obtain⟨j,rfl⟩:∃j,k=j+1:=⟨k-1,by omega⟩
   rw[Nat.pow_succ]at hk
   have hj:1<=j:=by
    rcases Nat.eq_zero_or_pos j with h0|h0
    ·subst h0;simp at hk;omega
    ·exact h0
   have:=ih (u / 10) zo j zo hj;simp;omega
def Qjf{l:By}{lo hi m:Int}(h1:itoa m=l)(h2:Qat m)(h3:lo<=m)(h4:m<=hi):QaL l lo hi=some m:=by
 unfold QaL;rw[<-h1,QiP h2.1 h2.2];simp only;rw[if_pos ⟨trivial,h3,h4⟩]
def QeG(a b:By):bs a++bs b=bs (a++b):=by
 apply ByteArray.ext;simp[bs]
structure Qdp(K:Qar)(c:Nat)(e:Exp)(cs:Array Value)(vars types:List Int)(vv:Value)(Qad:Nat)(t:Int)(W:World)(u:Nat):Prop where
 nm:NmN e
 sz:vars.length+siz (utN e)<=900000000
 x:XAt K.w0 (In K.w0) e cs
 fit:QaC (QbH K.r.sigs) types.length Qad e=true
 ty:ofN K.r.sigs types (utN e)=(t,[])
 vs:Qel types vars
 us:u<=10000
 at':QbG K W u c 0
 ints:QaP W K.p vv vars
def Qdp.ok{K:Qar}(hk:K.Ok){c:Nat}{e:Exp}{cs:Array Value}{M0 N0:List Int}{vv:Value}{Qad:Nat}{t:Int}{W:World}{u:Nat}(h:Qdp K c e cs M0 N0 vv Qad t W u)(d:Nat):QfV (VOk t) u (evK K d M0 u e):=
 KW hk.facts (Jdd hk.tr hk.ty hk.facts d) e N0 M0 Qad u t h.fit h.ty h.vs h.us
def QhP(k:Nat):By:=[UInt8.ofNat (48+k)]
def QhW(k:Nat)(hk:k<10):∀w:World,(Instr.slice 9 (.string {data:=#[48,49,50,51,52,53,54,55,56,57]}) (some (Iv (k:Int))) (some (Iv ((k:Int)+1))) none).run prog w=.ok (Sv (QhP k)) w:=by
 intro w
 rcases (by omega:k=0\/k=1\/k=2\/k=3\/k=4\/k=5\/k=6\/k=7\/k=8\/k=9) with rfl|rfl|rfl|rfl|rfl|rfl|rfl|rfl|rfl|rfl
 all_goals kernel_rfl
def QfP(n:Int)(k:Nat)(w:World)(hk:k<10)(d0:decide (n<=-10)=false)(t:n.tmod 10 = -(k:Int)):Calls prog 177 #[Iv n] w (Qbj (Sv (QhP k)) w):=by
 have hx:=QhW k hk;have ha:=QeG [] (QhP k);have he:bs []=(⟨#[]⟩:ByteArray):=rfl;rw[he,List.nil_append]at ha;have hs:=JP (QhP k);have hl:(QhP k).length<=1:=Nat.le_refl _;go_enter func177,ntmps177;go_wp2_with fail;go_ret;exact⟨rfl,rfl⟩
def QhK(n m:Int)(k:Nat)(l:By)(w:World)(hk:k<10)(d0:decide (n<=-10)=true)(t:n.tmod 10 = -(k:Int))(q:n.tdiv 10=m)(m0:-9223372036854775808<=m)(m1:m<=0)
  (hl:l.length<=100) (c:∀W,Calls prog 177 #[Iv m] W (Qbj (Sv l) W)):Calls prog 177 #[Iv n] w (Qbj (Sv (l++QhP k)) w):=by
 have hx:=QhW k hk;have ha:=QeG l (QhP k);have hs:=JP l;have xA:=JP (QhP k);have E7:(QhP k).length<=1:=Nat.le_refl _;go_enter func177,ntmps177;go_wp2_with fail;refine(c _).mono ?_;exact zAk
def Qhb{u:Nat}(h:¬u<10):decDigits u=decDigits (u / 10)++QhP (u % 10):=by
 rw[decDigits,dif_neg h];rfl
def QeT(u:Nat):∀(w:World),u<=9223372036854775808->Calls prog 177 #[Iv (-(u:Int))] w (Qbj (Sv (decDigits u)) w):=by
 induction u using Nat.strongRecOn with
 |ind u ih=>
  intro w hu
  have t:(-(u:Int)).tmod 10 = -((u % 10:Nat):Int):=by
   rw[Int.neg_tmod,Int.tmod_eq_emod_of_nonneg zo];omega
  have q:(-(u:Int)).tdiv 10 = -((u / 10:Nat):Int):=by
   rw[Int.neg_tdiv,Int.tdiv_eq_ediv_of_nonneg zo];omega
  by_cases h:u<10
  ·have hd:decDigits u=QhP (u % 10):=by rw[decDigits,dif_pos h,Nat.mod_eq_of_lt h];rfl
   rw[hd];exact QfP _ _ w (Nat.mod_lt _ zd) (zF zo) t
  ·rw[Qhb h];have xA:=Qdj (u / 10) 20 (by have:(10:Nat) ^ 20=100000000000000000000:=zd;omega) zo;exact QhK _ _ _ _ w (Nat.mod_lt _ zd) (zE zo) t q zo zo zo λW=>ih _ zo W zo
theorem zAv{P:Prop}(h:P:=by
  go_enter func170,ntmps170;go_wp2_with fail;refine(c _).mono ?_;rintro e w' ⟨rfl,rfl⟩;go_wp2_with fail;go_ret;exact⟨by rw[z.o];rfl,rfl⟩):P:=h
def QaX(n:Int)(w:World)(h:Qat n):Calls prog 170 #[Iv n] w (Qbj (Sv (itoa n)) w):=by
 unfold Qat at h
 by_cases h0:n<0
 ·have d0:decide (n<0)=true:=zE h0;have z:Hi (itoa n=[45]++decDigits n.natAbs):=by unfold Hi itoa;rw[if_pos h0];rfl
  have c:=λW=>QeT n.natAbs W zo
  have e:-(n.natAbs:Int)=n:=zo
  rw[e]at c;have yA:=Qdj n.natAbs 20 (by have:(10:Nat) ^ 20=100000000000000000000:=zd;omega) zo;clear e;generalize decDigits n.natAbs=l at*;have ha:=QeG [45] l;have xA:bs [45]=(⟨#[45]⟩:ByteArray):=rfl;rw[xA]at ha;have hs:=JP l;exact zAv
 ·obtain⟨u,rfl⟩:∃u:Nat,n=(u:Int):=⟨n.toNat,by omega⟩
  have d0:decide ((u:Int)<0)=false:=zF h0;have z:Hi (itoa (u:Int)=decDigits u):=by unfold Hi;exact itoa_nonneg u
  have c:=λW=>QeT u W zo
  have u1:(u:Int)<=9223372036854775807:=h.2;clear h0;exact zAv
def QeK(a:Int)(c:Nat):Int:=wrap64 (wrap64 (10*a)-((c:Int)-48))
def Qco:Int->By->Option Int
 |a,[]=>some a
 |a,c::r=>if 48<=c.toNat/\c.toNat<=57 then Qco (QeK a c.toNat) r else none
def Qde(l:By)(lo hi n:Int):Option Int:=if itoa n=l/\lo<=n/\n<=hi then some n else none
def Qjc(l:By)(lo hi:Int):Option Int:=
 match l with
 |[]=>none
 |c::r=>
  if c.toNat=45 then
   if r.length=0\/19<r.length then none else (Qco 0 r).bind λn=>Qde l lo hi n
  else
   if 19<r.length+1 then none else (Qco 0 l).bind λn=>Qde l lo hi (wrap64 (-n))
def Qdy:Option Int->Value
 |some n=>.tuple #[Iv n,.bool true]
 |none=>.tuple #[Iv 0,.bool false]
def Qem(a:Int):Qat (wrap64 a):=by unfold Qat wrap64;omega
theorem zAj{P:Prop}(h:P:=by
  rintro e w' ⟨rfl,rfl⟩;go_wp2_with fail;go_ret2;exact⟨by rw[HR.o];rfl,rfl⟩):P:=h
theorem zAr{P:Prop}(h:P:=by
  have HN:Hi (Qdy ((Qco 0 l).bind λn=>Qde l lo hi (wrap64 (-n)))=Qdy none):=by unfold Hi;rw[HD.o,if_neg zo];rfl
  go_wp2;go_ret2;exact⟨by rw[HN.o];rfl,rfl⟩):P:=h
theorem zAx{P:Prop}(h:P:=by
  unfold Hi;rw[HI.o,List.drop_eq_getElem_cons hlt];rw[getElem?_eq_getElem hlt]at hd;simp only[Option.some.injEq]at hd;rw[hd];rfl):P:=h
def Qfu(c:UInt8)(r:By)(lo hi:Int)(w:World)(U8:(c.toNat==45)=false)(hl:r.length<=18):
  Calls prog 163 #[Sv (c::r),Iv lo,Iv hi] w (Qbj (Qdy ((Qco 0 (c::r)).bind λn=>Qde (c::r) lo hi (wrap64 (-n)))) w):=by
 have vA:∀h,((bs (c::r))[0]'h).toNat=c.toNat:=λh=>rfl
 have zA:((c.toNat:Int)==45)=false:=zzq (zt (beq_eq_false_iff_ne.1 U8));obtain⟨l,hL⟩:∃l,l=c::r:=⟨_,rfl⟩
 have xA:l.length=r.length+1:=by rw[hL];rfl
 rw[<-hL]at vA |-;have hs:=JP l;have E7:1<=l.length:=zo
 have bA:l.length<=19:=zo
 have aA:((l.length:Int)==0)=false:=by simp;intro e;rw[e]at E7;simp at E7
 clear hL xA hl;generalize c.toNat=c0 at*;go_enter func163,ntmps163;go_wp2;go_loop [9,10] (λv0 v1=>∃(a:Int) (k:Nat),v0=Iv a/\v1=Iv k/\k<=l.length/\Qat a/\Hi (Qco 0 l=Qco a (l.drop k))) λ_ v1=>l.length-(intOf v1).toNat
 case atStart=>exact⟨0,0,rfl,rfl,by omega,by unfold Qat;decide,rfl⟩
 case round=>
  obtain⟨a,k,rfl,rfl,hk,wa,HI⟩:=hrel;unfold Qat at wa
  by_cases hlt:k<l.length
  ·obtain⟨d,hd⟩:∃d,l[k]?=some d:=⟨_,getElem?_eq_getElem hlt⟩
   have hg:∀h,((bs l)[k]'h).toNat=d.toNat:=by
    intro h;simp only[bs];rw[getElem?_eq_getElem hlt]at hd;simp at hd;rw[<-hd];rfl
   have HD:Hi (Qco 0 l=if 48<=d.toNat/\d.toNat<=57 then Qco (QeK a d.toNat) (l.drop (k+1)) else none):=by
    exact zAx
   generalize d.toNat=x at*
   by_cases h1:x<48
   ·exact zAr
   ·by_cases h2:57<x
    ·exact zAr
    ·have HN:Hi (Qco 0 l=Qco (QeK a x) (l.drop (k+1))):=by unfold Hi;rw[HD.o,if_pos zo]
     go_wp2;refine⟨⟨QeK a x,k+1,rfl,by simp,by omega,Qem _,HN⟩,by simp[intOf];omega⟩
  ·have yA:k=l.length:=zo
   have HN:Hi (Qco 0 l=some a):=by unfold Hi;rw[HI.o,yA,List.drop_length];rfl
   obtain⟨F,hF⟩:∃F,wrap64 (-a)=F:=⟨_,rfl⟩
   have wF:Qat F:=by rw[<-hF];exact Qem _
   have HF:Hi (Qdy ((Qco 0 l).bind λn=>Qde l lo hi (wrap64 (-n)))=Qdy (Qde l lo hi F)):=by unfold Hi;rw[HN.o,<-hF];rfl
   have tl:=Jk l;have tF:=Jk (itoa F)
   by_cases e1:itoa F=l
   ·have b1:(itoa F==l)=true:=beq_iff_eq.2 e1
    by_cases e2:lo<=F
    ·by_cases e3:F<=hi
     ·have HR:Hi (Qdy ((Qco 0 l).bind λn=>Qde l lo hi (wrap64 (-n)))=.tuple #[Iv F,.bool true]):=by unfold Hi;rw[HF.o,Qde,if_pos ⟨e1,e2,e3⟩];rfl
      have d2:decide (F<lo)=false:=zF zo;have d3:decide (hi<F)=false:=zF zo;go_wp2_with fail;refine(QaX F _ wF).mono ?_;exact zAj
     ·have HR:Hi (Qdy ((Qco 0 l).bind λn=>Qde l lo hi (wrap64 (-n)))=.tuple #[Iv 0,.bool false]):=by unfold Hi;rw[HF.o,Qde,if_neg λh=>e3 h.2.2];rfl
      have d2:decide (F<lo)=false:=zF zo;go_wp2_with fail;refine(QaX F _ wF).mono ?_;exact zAj
    ·have HR:Hi (Qdy ((Qco 0 l).bind λn=>Qde l lo hi (wrap64 (-n)))=.tuple #[Iv 0,.bool false]):=by unfold Hi;rw[HF.o,Qde,if_neg λh=>e2 h.2.1];rfl
     go_wp2_with fail;refine(QaX F _ wF).mono ?_;exact zAj
   ·have b1:(itoa F==l)=false:=zzq e1;have HR:Hi (Qdy ((Qco 0 l).bind λn=>Qde l lo hi (wrap64 (-n)))=.tuple #[Iv 0,.bool false]):=by unfold Hi;rw[HF.o,Qde,if_neg λh=>e1 h.1];rfl
    go_wp2_with fail;refine(QaX F _ wF).mono ?_;exact zAj
theorem zAu{P:Prop}(h:P:=by
  have HN:Hi (Qdy ((Qco 0 r).bind λn=>Qde l lo hi n)=Qdy none):=by unfold Hi;rw[HD.o,if_neg zo];rfl
  go_wp2;go_ret2;exact⟨by rw[HN.o];rfl,rfl⟩):P:=h
def Qfv(r:By)(lo hi:Int)(w:World)(hl0:1<=r.length)(hl:r.length<=19):
  Calls prog 163 #[Sv (45::r),Iv lo,Iv hi] w (Qbj (Qdy ((Qco 0 r).bind λn=>Qde (45::r) lo hi n)) w):=by
 have aA:∀h,((bs (45::r))[0]'h).toNat=45:=λh=>rfl
 obtain⟨l,hL⟩:∃l,l=45::r:=⟨_,rfl⟩
 have xA:l.length=r.length+1:=by rw[hL];rfl
 rw[<-hL]at aA |-;have hs:=JP l;have yA:l.drop 1=r:=by rw[hL];rfl
 have E7:2<=l.length:=zo
 have cA:l.length<=20:=zo
 have bA:((l.length:Int)==1)=false:=zzq zo;have vA:0<l.length:=zo
 have zA:=Zh yA;clear hL xA hl hl0 yA;go_enter func163,ntmps163;go_wp2;go_loop [9,10] (λv0 v1=>∃(a:Int) (k:Nat),v0=Iv a/\v1=Iv k/\1<=k/\k<=l.length/\Qat a/\Hi (Qco 0 r=Qco a (l.drop k))) λ_ v1=>l.length-(intOf v1).toNat
 case atStart=>exact⟨0,1,rfl,rfl,by omega,by omega,by unfold Qat;decide,by unfold Hi;rw[zA.o]⟩
 case round=>
  obtain⟨a,k,rfl,rfl,hk1,hk,wa,HI⟩:=hrel;unfold Qat at wa
  by_cases hlt:k<l.length
  ·obtain⟨d,hd⟩:∃d,l[k]?=some d:=⟨_,getElem?_eq_getElem hlt⟩
   have hg:∀h,((bs l)[k]'h).toNat=d.toNat:=by
    intro h;simp only[bs];rw[getElem?_eq_getElem hlt]at hd;simp at hd;rw[<-hd];rfl
   have dA:d.toNat<256:=d.toNat_lt
   have HD:Hi (Qco 0 r=if 48<=d.toNat/\d.toNat<=57 then Qco (QeK a d.toNat) (l.drop (k+1)) else none):=by
    exact zAx
   clear hd;generalize d.toNat=x at*
   by_cases h1:x<48
   ·exact zAu
   ·by_cases h2:57<x
    ·exact zAu
    ·have HN:Hi (Qco 0 r=Qco (QeK a x) (l.drop (k+1))):=by unfold Hi;rw[HD.o,if_pos zo]
     go_wp2;refine⟨⟨QeK a x,k+1,rfl,by simp,by omega,by omega,Qem _,HN⟩,by simp[intOf];omega⟩
  ·have uA:k=l.length:=zo
   have HN:Hi (Qco 0 r=some a):=by unfold Hi;rw[HI.o,uA,List.drop_length];rfl
   clear HI;have wF:Qat a:=wa;have HF:Hi (Qdy ((Qco 0 r).bind λn=>Qde l lo hi n)=Qdy (Qde l lo hi a)):=by unfold Hi;rw[HN.o];rfl
   have tl:=Jk l;have tF:=Jk (itoa a)
   by_cases e1:itoa a=l
   ·have b1:(itoa a==l)=true:=beq_iff_eq.2 e1
    by_cases e2:lo<=a
    ·by_cases e3:a<=hi
     ·have HR:Hi (Qdy ((Qco 0 r).bind λn=>Qde l lo hi n)=.tuple #[Iv a,.bool true]):=by unfold Hi;rw[HF.o,Qde,if_pos ⟨e1,e2,e3⟩];rfl
      have d2:decide (a<lo)=false:=zF zo;have d3:decide (hi<a)=false:=zF zo;go_wp2_with fail;refine(QaX a _ wF).mono ?_;exact zAj
     ·have HR:Hi (Qdy ((Qco 0 r).bind λn=>Qde l lo hi n)=.tuple #[Iv 0,.bool false]):=by unfold Hi;rw[HF.o,Qde,if_neg λh=>e3 h.2.2];rfl
      have d2:decide (a<lo)=false:=zF zo;have d3:decide (hi<a)=true:=zE zo;go_wp2_with fail;refine(QaX a _ wF).mono ?_;exact zAj
    ·have HR:Hi (Qdy ((Qco 0 r).bind λn=>Qde l lo hi n)=.tuple #[Iv 0,.bool false]):=by unfold Hi;rw[HF.o,Qde,if_neg λh=>e2 h.2.1];rfl
     have d2:decide (a<lo)=true:=zE zo;go_wp2_with fail;refine(QaX a _ wF).mono ?_;exact zAj
   ·have b1:(itoa a==l)=false:=zzq e1;have HR:Hi (Qdy ((Qco 0 r).bind λn=>Qde l lo hi n)=.tuple #[Iv 0,.bool false]):=by unfold Hi;rw[HF.o,Qde,if_neg λh=>e1 h.1];rfl
    go_wp2_with fail;refine(QaX a _ wF).mono ?_;exact zAj
theorem zAq{P:Prop}(h:P:=by
  go_enter func163,ntmps163;go_wp2;go_ret2;exact⟨by rw[z.o];rfl,rfl⟩):P:=h
def Qhm(lo hi:Int)(w:World):Calls prog 163 #[.string (bs []),Iv lo,Iv hi] w (Qbj (Qdy none) w):=by
 have hs:=JP [];have z:Hi (Qdy none=.tuple #[Iv 0,.bool false]):=rfl;exact zAq
def Qhl(lo hi:Int)(w:World):Calls prog 163 #[.string (bs [45]),Iv lo,Iv hi] w (Qbj (Qdy none) w):=by
  have z:Hi (Qdy none=.tuple #[Iv 0,.bool false]):=rfl;exact zAq
def Qeo(c:UInt8)(r:By)(lo hi:Int)(w:World)(hl:(if c.toNat=45 then 20 else 19)<=r.length)(hm:r.length<=281474976710656):Calls prog 163 #[Sv (c::r),Iv lo,Iv hi] w (Qbj (Qdy none) w):=by
 have uA:∀h,((bs (c::r))[0]'h).toNat=c.toNat:=λh=>rfl
 have aA:c.toNat<256:=c.toNat_lt;obtain⟨l,hL⟩:∃l,l=c::r:=⟨_,rfl⟩
 have xA:l.length=r.length+1:=by rw[hL];rfl
 rw[<-hL]at uA |-;have hs:=JP l;have vA:l.length<=281474976710657:=zo
 have zA:0<l.length:=zo
 have z:Hi (Qdy none=.tuple #[Iv 0,.bool false]):=rfl;generalize c.toNat=c0 at*
 by_cases U8:c0=45
 ·subst U8;rw[if_pos rfl]at hl;have O2:21<=l.length:=zo
  have d:((l.length:Int)==1)=false:=zzq zo;have d2:decide ((19:Int)<(l.length:Int)-1)=true:=zE zo;clear hL xA hl hm;exact zAq
 ·rw[if_neg U8]at hl;have O2:20<=l.length:=zo
  have yA:((c0:Int)==45)=false:=zzq zo;have d:((l.length:Int)==0)=false:=zzq zo;have d2:decide ((19:Int)<(l.length:Int))=true:=zE zo;clear hL xA hl hm U8;exact zAq
def Qhn(l:By)(lo hi:Int)(w:World)(hm:l.length<=281474976710656):Calls prog 163 #[Sv l,Iv lo,Iv hi] w (Qbj (Qdy (Qjc l lo hi)) w):=by
 cases l with
 |nil=>exact Qhm lo hi w
 |cons c r=>
  unfold Qjc;simp only[List.length_cons]at hm
  by_cases U8:c.toNat=45
  ·simp only[if_pos U8];obtain rfl:c=45:=UInt8.toNat_inj.1 U8
   by_cases h1:r.length=0
   ·rw[if_pos (.inl h1)];obtain rfl:r=[]:=List.eq_nil_of_length_eq_zero h1;exact Qhl lo hi w
   ·by_cases h2:19<r.length
    ·rw[if_pos (.inr h2)];exact Qeo _ _ _ _ _ (by rw[if_pos U8];omega) zo
    ·rw[if_neg zo];exact Qfv r lo hi w zo zo
  ·simp only[if_neg U8]
   by_cases h2:19<r.length+1
   ·rw[if_pos h2];exact Qeo _ _ _ _ _ (by rw[if_neg U8];omega) zo
   ·rw[if_neg h2];exact Qfu c r lo hi w (zzq U8) zo
def Qid(l:By)(c:UInt8)(h:Qex c):∀a,Qco a (l++[c])=(Qco a l).map λb=>QeK b c.toNat:=by
 unfold Qex at h
 induction l with
 |nil=>intro a;simp only[List.nil_append,Qco];rw[if_pos h];rfl
 |cons x l ih=>
  intro a;simp only[List.cons_append,Qco];split
  ·exact ih _
  ·rfl
def QgE(u:Nat):u<=9223372036854775808->Qco 0 (decDigits u)=some (-(u:Int)):=by
 induction u using Nat.strongRecOn with
 |ind u ih=>
  intro hu
  by_cases h:u<10
  ·rw[decDigits,dif_pos h];have hd:=QeU h;simp only[Qco];rw[hd,if_pos zo]
   congr 1
   simp only[QeK,wrap64];omega
  ·rw[Qhb h];have hd:=QeU (d:=u % 10) zo;unfold QhP;rw[Qid _ _ (by unfold Qex;omega),ih _ zo zo,hd];simp only[Option.map_some,QeK,wrap64]
   congr 1
   omega
def QjR{a:Int}(h:Qat a):wrap64 a=a:=by unfold Qat at h;unfold wrap64;omega
def QlD{lo hi m:Int}(h2:Qat m)(h3:lo<=m)(h4:m<=hi):Qjc (itoa m) lo hi=some m:=by
 have hw:=h2;unfold Qat at hw;have hf:Qde (itoa m) lo hi m=some m:=by unfold Qde;rw[if_pos ⟨rfl,h3,h4⟩]
 rcases Qhs m with⟨h0,h⟩|⟨h0,h⟩
 ·have hr:=QgE m.toNat zo;have hl:=Qdj m.toNat 19 zo zo;have ha:=QiN m.toNat;rw[h]at hf |-
  cases hd:decDigits m.toNat with
  |nil=>exact absurd hd (Qdi _)
  |cons c r=>
   rw[hd]at hr hl ha hf;have hc:=ha c zp;unfold Qex at hc;simp only[List.length_cons]at hl;unfold Qjc;simp only;rw[if_neg zo,if_neg zo,hr]
   show Qde _ _ _ (wrap64 (- -(m.toNat:Int)))=_
   rw[show (- -(m.toNat:Int))=m by omega,QjR h2,hf]
 ·have hr:=QgE m.natAbs zo;have hl:=Qdj m.natAbs 19 zo zo;have hn:=Qdi m.natAbs;have i6:(decDigits m.natAbs).length≠0:=λe=>hn (List.eq_nil_of_length_eq_zero e)
  rw[h]at hf |-;unfold Qjc;simp only;rw[if_pos zr,if_neg zo,hr]
  show Qde _ _ _ (-(m.natAbs:Int))=_
  rw[show (-(m.natAbs:Int))=m by omega,hf]
def QgY{l:By}{lo hi n m:Int}(h:Qde l lo hi n=some m):n=m/\itoa m=l/\lo<=m/\m<=hi:=by
 unfold Qde at h;split at h
 ·injection h with h;subst h;rename_i hc;exact⟨rfl,hc⟩
 ·cases h
def QjV(l:By):∀a n,Qat a->Qco a l=some n->Qat n:=by
 induction l with
 |nil=>intro a n ha h;simp only[Qco]at h;injection h with h;subst h;exact ha
 |cons c r ih=>
  intro a n ha h;simp only[Qco]at h;split at h
  ·exact ih _ _ (Qem _) h
  ·cases h
def QlG{l:By}{lo hi m:Int}(h:Qjc l lo hi=some m):itoa m=l/\Qat m/\lo<=m/\m<=hi:=by
 unfold Qjc at h;split at h
 ·cases h
 ·split at h
  ·split at h
   ·cases h
   ·rename_i c r _ _
    cases hv:Qco 0 r with
    |none=>rw[hv]at h;cases h
    |some n=>
     rw[hv]at h;obtain⟨rfl,h1,h2⟩:=QgY h;exact⟨h1,QjV _ _ _ (by unfold Qat;decide) hv,h2⟩
  ·split at h
   ·cases h
   ·rename_i c r _ _
    cases hv:Qco 0 (c::r) with
    |none=>rw[hv]at h;cases h
    |some n=>
     rw[hv]at h;obtain⟨rfl,h1,h2⟩:=QgY h;exact⟨h1,Qem _,h2⟩
def QlE(l:By)(lo hi:Int):Qjc l lo hi=QaL l lo hi:=by
 cases h:QaL l lo hi with
 |some m=>
  obtain⟨rfl,h2,h3,h4⟩:=JcA h;exact QlD h2 h3 h4
 |none=>
  cases hr:Qjc l lo hi with
  |none=>rfl
  |some m=>
   obtain⟨h1,h2,h3,h4⟩:=QlG hr;rw[Qjf h1 h2 h3 h4]at h
   cases h
section
variable {K:Qar}{W W':World}{u c:Nat}{f:Int}
def QbG.lt(h:QbG K W u c f):K.p<W.heap.size:=Jb h.self
def QbG.up(h:QbG K W u c f)(hb:Below W.heap.size W W'):QbG K W' u c f:=⟨(hb.block _ h.lt).trans h.self,Je h.bel hb⟩
def QbG.drew(h:QbG K W u c f):QbG K W.drew u c f:=⟨h.self,h.bel.drew⟩
def QbG.setU(hk:K.Ok)(h:QbG K W u c f)(u':Nat):QbG K (W.setCell ⟨K.p,15,none⟩ (Iv u')) u' c f:=by
 refine⟨?_,Below.setCell h.bel hk.num _⟩;rw[JC h.self];rfl
def QbG.setC(hk:K.Ok)(h:QbG K W u c f)(c':Nat):QbG K (W.setCell ⟨K.p,16,none⟩ (Iv c')) u c' f:=by
 refine⟨?_,Below.setCell h.bel hk.num _⟩;rw[JC h.self];rfl
def QbG.setF(hk:K.Ok)(h:QbG K W u c f)(f':Int):QbG K (W.setCell ⟨K.p,17,none⟩ (Iv f')) u c f':=by
 refine⟨?_,Below.setCell h.bel hk.num _⟩;rw[JC h.self];rfl
end
def EvG(K:Qar)(W:World)(c:Nat):RN Int->Ending->World->Prop
 |.val v u,e,w'=>e=.returned (Iv v)/\QbG K w' u c 0/\Chg [K.p] W w'
 |.fault er u,e,w'=>er≠0/\(∃v,e=.returned (Iv v))/\QbG K w' u c er/\Chg [K.p] W w'
def Qcc(b:Bool)(w:World):Calls prog 88 #[.bool b] w (Qbj (Iv (Qea b)) w):=by
 cases b with
 |false=>
  go_enter func88,ntmps88;go_wp2;go_ret;exact⟨rfl,rfl⟩
 |true=>
  go_enter func88,ntmps88;go_wp2;go_ret;exact⟨rfl,rfl⟩
def QiQ(K:Qar)(W:World)(u c:Nat)(e:Ending)(w':World):Prop:=
 e=.returned (.tuple #[])/\(if u=10000 then QbG K w' u c 14 else QbG K w' (u+1) c 0)/\Chg [K.p] W w'
def QfD(K:Qar)(hk:K.Ok)(W:World)(u c:Nat)(h:QbG K W u c 0)(hu:u<=10000):Calls prog 44 #[Pt K.p] W (QiQ K W u c):=by
 have xA:=Ja h.self 15;have vA:=Jc h.self 15;have yA:=Ja h.self 17;have uA:=Jc h.self 17;have hlt:=h.lt;have HS:=Zh (h.setU hk (u+1));have HF:=Zh (h.setF hk 14);have HC:Hi (Chg [K.p] W (W.setCell ⟨K.p,15,none⟩ (Iv ((u+1:Nat):Int)))):=(Chg.refl _ _).setCell (.inl zp) _;have L6:Hi (Chg [K.p] W (W.setCell ⟨K.p,17,none⟩ (Iv 14))):=(Chg.refl _ _).setCell (.inl zp) _;rw[show (K.cellsG u c 0)[15]?=some (Iv u) from rfl]at xA;rw[show (K.cellsG u c 0)[17]?=some (Iv 0) from rfl]at yA;rw[Int.natCast_add,Int.natCast_one]at HS HC
 by_cases h:u=10000
 ·have hq:QiQ K W u c=λe w'=>e=.returned (.tuple #[])/\QbG K w' u c 14/\Chg [K.p] W w':=by
   funext e w'
   unfold QiQ;rw[if_pos h]
  rw[hq];subst h;rw[show ((10000:Nat):Int)=10000 from rfl]at xA;go_enter func44,ntmps44;go_wp2;refine bodyPost_ret (results_none rfl _ _ _) rfl ?_;exact⟨rfl,HF.o,L6.o⟩
 ·have hq:QiQ K W u c=λe w'=>e=.returned (.tuple #[])/\QbG K w' (u+1) c 0/\Chg [K.p] W w':=by
   funext e w'
   unfold QiQ;rw[if_neg h]
  rw[hq];have e0:((u:Int)==10000)=false:=zzq zo;have zA:(u==10000)=false:=zzq h;have wu:=zI u;go_enter func44,ntmps44;go_wp2;go_end0;exact⟨rfl,HS.o,HC.o⟩
def QiF(K:Qar)(hk:K.Ok)(W:World)(u c:Nat)(h:QbG K W u c 0)(s:By):Calls prog 86 #[Pt K.p,Sv s] W (Qbj (Iv (QdT K.F s)) W):=by
 have u1:=Jk s;rw[Jji];have hrow:=λj=>Ja h.self j
 have b4:W.cell? ⟨K.p,4,none⟩=some (Iv K.F.likes):=hrow 4;have b5:W.cell? ⟨K.p,5,none⟩=some (Iv K.F.boosts):=hrow 5;have b6:W.cell? ⟨K.p,6,none⟩=some (Iv K.F.replies):=hrow 6;have b7:W.cell? ⟨K.p,7,none⟩=some (Iv K.F.reports):=hrow 7;have b8:W.cell? ⟨K.p,8,none⟩=some (Iv K.F.age):=hrow 8;have b9:W.cell? ⟨K.p,9,none⟩=some (Iv K.F.home):=hrow 9;have b10:W.cell? ⟨K.p,10,none⟩=some (Iv K.F.scope):=hrow 10;have b11:W.cell? ⟨K.p,11,none⟩=some (Iv K.F.length):=hrow 11;have uA:W.cell? ⟨K.p,12,none⟩=some (.bool K.F.follows):=hrow 12;have zA:W.cell? ⟨K.p,13,none⟩=some (.bool K.F.reply):=hrow 13;have yA:=λW=>Qcc K.F.follows W
 have xA:=λW=>Qcc K.F.reply W
 generalize Qea K.F.follows=xf at*;generalize Qea K.F.reply=xr at*;generalize K.F.likes=xLikes at*;generalize K.F.boosts=xBoosts at*;generalize K.F.replies=xReplies at*;generalize K.F.reports=xReports at*;generalize K.F.age=xAge at*;generalize K.F.home=xHome at*;generalize K.F.scope=xScope at*;generalize K.F.length=xLength at*;generalize K.F.follows=xFollows at*;generalize K.F.reply=xReply at*;clear hrow h
 by_cases h0:s=Qcq
 ·have e0:(s==[108,105,107,101,115])=true:=beq_iff_eq.2 h0;rw[if_pos h0];clear h0;go_enter func86,ntmps86;go_wp2;go_ret;exact⟨rfl,rfl⟩
 have e0:(s==[108,105,107,101,115])=false:=zzq h0;rw[if_neg h0]
 by_cases h1:s=Qcx
 ·have e1:(s==[98,111,111,115,116,115])=true:=beq_iff_eq.2 h1;rw[if_pos h1];clear h0 h1;go_enter func86,ntmps86;go_wp2;go_ret;exact⟨rfl,rfl⟩
 have e1:(s==[98,111,111,115,116,115])=false:=zzq h1;rw[if_neg h1]
 by_cases h2:s=QbP
 ·have e2:(s==[114,101,112,108,105,101,115])=true:=beq_iff_eq.2 h2;rw[if_pos h2];clear h0 h1 h2;go_enter func86,ntmps86;go_wp2;go_ret;exact⟨rfl,rfl⟩
 have e2:(s==[114,101,112,108,105,101,115])=false:=zzq h2;rw[if_neg h2]
 by_cases h3:s=QbO
 ·have e3:(s==[114,101,112,111,114,116,115])=true:=beq_iff_eq.2 h3;rw[if_pos h3];clear h0 h1 h2 h3;go_enter func86,ntmps86;go_wp2;go_ret;exact⟨rfl,rfl⟩
 have e3:(s==[114,101,112,111,114,116,115])=false:=zzq h3;rw[if_neg h3]
 by_cases h4:s=QiV
 ·have e4:(s==[97,103,101])=true:=beq_iff_eq.2 h4;rw[if_pos h4];clear h0 h1 h2 h3 h4;go_enter func86,ntmps86;go_wp2;go_ret;exact⟨rfl,rfl⟩
 have e4:(s==[97,103,101])=false:=zzq h4;rw[if_neg h4]
 by_cases h5:s=QeM
 ·have e5:(s==[104,111,109,101])=true:=beq_iff_eq.2 h5;rw[if_pos h5];clear h0 h1 h2 h3 h4 h5;go_enter func86,ntmps86;go_wp2;go_ret;exact⟨rfl,rfl⟩
 have e5:(s==[104,111,109,101])=false:=zzq h5;rw[if_neg h5]
 by_cases h6:s=Qdo
 ·have e6:(s==[115,99,111,112,101])=true:=beq_iff_eq.2 h6;rw[if_pos h6];clear h0 h1 h2 h3 h4 h5 h6;go_enter func86,ntmps86;go_wp2;go_ret;exact⟨rfl,rfl⟩
 have e6:(s==[115,99,111,112,101])=false:=zzq h6;rw[if_neg h6]
 by_cases h7:s=Qcw
 ·have e7:(s==[108,101,110,103,116,104])=true:=beq_iff_eq.2 h7;rw[if_pos h7];clear h0 h1 h2 h3 h4 h5 h6 h7;go_enter func86,ntmps86;go_wp2;go_ret;exact⟨rfl,rfl⟩
 have e7:(s==[108,101,110,103,116,104])=false:=zzq h7;rw[if_neg h7]
 by_cases h8:s=QbQ
 ·have e8:(s==[102,111,108,108,111,119,115])=true:=beq_iff_eq.2 h8;rw[if_pos h8];clear h0 h1 h2 h3 h4 h5 h6 h7 h8;go_enter func86,ntmps86;go_wp2_with fail;refine(yA _).mono ?_;rintro e w2 ⟨rfl,rfl⟩;go_wp2;go_ret;exact⟨rfl,rfl⟩
 have e8:(s==[102,111,108,108,111,119,115])=false:=zzq h8;rw[if_neg h8];clear h0 h1 h2 h3 h4 h5 h6 h7 h8;go_enter func86,ntmps86;go_wp2_with fail;refine(xA _).mono ?_;rintro e w2 ⟨rfl,rfl⟩;go_wp2;go_ret;exact⟨rfl,rfl⟩
theorem zAy{P:Prop}(h:P:=by
  subst vA;go_wp2;go_round
  case rel=>exact⟨k+1,by go_num,hi,HZ⟩
  case measure=>simp[intOf];omega):P:=h
def QhH(K:Qar)(hk:K.Ok)(W:World)(u c:Nat)(h:QbG K W u c 0)(s:By):Calls prog 87 #[Pt K.p,Sv s] W (Qbj (Iv (QcK K.F.labels s)) W):=by
 have u1:=Jk s;obtain⟨q,hq⟩:∃q,QcK K.F.labels s=q:=⟨_,rfl⟩
 rw[hq];have HQ:Hi (QcK (K.F.labels.drop 0) s=q):=hq;have hw:=hk.labs.up h.bel;have hn:=hk.fsz.nl;have b3:W.cell? ⟨K.p,3,none⟩=some (.slice K.la K.F.labels.length K.lc):=Ja h.self 3;obtain⟨n,zA⟩:∃n,K.F.labels.length=n:=⟨_,rfl⟩
 rw[zA]at hw hn b3;have HW:=Zh hw;have HL:=Zh zA;have HN:=Zh hn;generalize K.la=la at*;generalize K.lc=lc at*;go_enter func87,ntmps87;go_wp2_with fail;go_loop [5] (λv5=>∃k:Nat,v5=Iv k/\k<=n/\Hi (QcK (K.F.labels.drop k) s=q)) λv=>n-(intOf v).toNat
 case atStart=>exact⟨0,rfl,Nat.zero_le _,HQ⟩
 case round=>
 obtain⟨k,rfl,hkn,hz⟩:=hrel;have wk:IntKind.i64.wrap ((k:Int)+1)=(k:Int)+1:=IntWalk.i64_in _ (zt HN.o)
 by_cases hi:k<n
 ·have hil:(k:Int)<(n:Int):=zo
  have dil:decide ((k:Int)<(n:Int))=true:=zE hil;have yA:decide (k<n)=true:=zE hi;have hlt:k<K.F.labels.length:=by rw[HL.o];exact hi
  obtain⟨a,ha⟩:∃a,K.F.labels[k]?=some a:=⟨K.F.labels[k]'hlt,getElem?_eq_getElem _⟩
  obtain⟨b,o,vA,hb,hc,E1⟩:=HW.o.get ha;have xA:=hz.o;rw[List.drop_eq_getElem_cons hlt]at xA;have uA:K.F.labels[k]=a:=by rw[getElem?_eq_getElem hlt]at ha;exact Option.some.inj ha
  rw[uA]at xA;obtain⟨nm,ct⟩:=a;dsimp only at hc E1;rw[QcK]at xA;dsimp only at xA;have u2:=Jk nm
  by_cases e:nm=s
  ·have ee:(nm==s)=true:=beq_iff_eq.2 e;rw[if_pos e]at xA;subst xA;subst vA;go_wp2;go_ret;exact⟨rfl,rfl⟩
  ·have ee:(nm==s)=false:=zzq e;rw[if_neg e]at xA;have HZ:=Zh xA;have B3:=Zh hi;exact zAy
 ·have hil:¬(k:Int)<(n:Int):=zo
  have dil:decide ((k:Int)<(n:Int))=false:=zF hil;have yA:decide (k<n)=false:=zF hi;have xA:=hz.o;rw[List.drop_of_length_le (by rw[HL.o];omega)]at xA;have aA:q=0:=by rw[<-xA];rfl
  subst aA;go_wp2;go_ret;exact⟨rfl,rfl⟩
def QiA(K:Qar)(hk:K.Ok)(W:World)(u c:Nat)(h:QbG K W u c 0)(s:By):Calls prog 89 #[Pt K.p,Sv s] W (Qbj (.bool (decide (s∈K.F.words))) W):=by
 have u1:=Jk s;obtain⟨q,hq⟩:∃q,decide (s∈K.F.words)=q:=⟨_,rfl⟩
 rw[hq];have HQ:Hi (decide (s∈K.F.words.drop 0)=q):=hq;have hw:=hk.words.up h.bel;have hn:=hk.fsz.nw;have aA:W.cell? ⟨K.p,14,none⟩=some (.slice K.wa K.F.words.length K.wc):=Ja h.self 14;obtain⟨n,zA⟩:∃n,K.F.words.length=n:=⟨_,rfl⟩
 rw[zA]at hw hn aA;have HW:=Zh hw;have HL:=Zh zA;have HN:=Zh hn;generalize K.wa=la at*;generalize K.wc=lc at*;go_enter func89,ntmps89;go_wp2_with fail;go_loop [5] (λv5=>∃k:Nat,v5=Iv k/\k<=n/\Hi (decide (s∈K.F.words.drop k)=q)) λv=>n-(intOf v).toNat
 case atStart=>exact⟨0,rfl,Nat.zero_le _,HQ⟩
 case round=>
 obtain⟨k,rfl,hkn,hz⟩:=hrel;have wk:IntKind.i64.wrap ((k:Int)+1)=(k:Int)+1:=IntWalk.i64_in _ (zt HN.o)
 by_cases hi:k<n
 ·have hil:(k:Int)<(n:Int):=zo
  have dil:decide ((k:Int)<(n:Int))=true:=zE hil;have yA:decide (k<n)=true:=zE hi;have hlt:k<K.F.words.length:=by rw[HL.o];exact hi
  obtain⟨nm,ha⟩:∃a,K.F.words[k]?=some a:=⟨K.F.words[k]'hlt,getElem?_eq_getElem _⟩
  obtain⟨b,o,vA,hb,hc⟩:=HW.o.get ha;have xA:=hz.o;rw[List.drop_eq_getElem_cons hlt]at xA;have uA:K.F.words[k]=nm:=by rw[getElem?_eq_getElem hlt]at ha;exact Option.some.inj ha
  rw[uA]at xA;have u2:=Jk nm
  by_cases e:nm=s
  ·have ee:(nm==s)=true:=beq_iff_eq.2 e;have T8:q=true:=by rw[<-xA];simp[e]
   subst T8;subst vA;go_wp2;go_ret;exact⟨rfl,rfl⟩
  ·have ee:(nm==s)=false:=zzq e
   have HZ:Hi (decide (s∈K.F.words.drop (k+1))=q):=by
    rw[Hi,<-xA];refine decide_eq_decide.2 ?_;rw[List.mem_cons];exact⟨.inr,λh=>h.resolve_left λh=>e h.symm⟩
   exact zAy
 ·have hil:¬(k:Int)<(n:Int):=zo
  have dil:decide ((k:Int)<(n:Int))=false:=zF hil;have yA:decide (k<n)=false:=zF hi;have xA:=hz.o;rw[List.drop_of_length_le (by rw[HL.o];omega)]at xA;have bA:q=false:=by rw[<-xA];simp
  subst bA;go_wp2;go_ret;exact⟨rfl,rfl⟩
theorem zAm{P:Prop}(h:P:=by
  have HM:=Zh h;clear hq ha hb h;go_enter func92,ntmps92;go_wp2_with fail;refine cn.mono ?_;rintro e w3 ⟨rfl,rfl⟩;clear cn;go_wp2;go_ret;exact⟨rfl,HM.o,Chg.refl _ _⟩):P:=h
def QlP(K:Qar)(hk:K.Ok)(W:World)(u c:Nat)(h:QbG K W u c 0)(a b:Int)(ha:Qat a)(hb:Qat b):Calls prog 92 #[Pt K.p,Iv 8,Iv a,Iv b] W (EvG K W c (Qap 8 a b u)):=by
 have hq:EvG K W c (Qap 8 a b u)=λe w'=>e=.returned (Iv (Qbw (a+b)))/\QbG K w' u c 0/\Chg [K.p] W w':=rfl
 rw[hq];have cn:=Qje a b W ha hb;exact zAm
def QlO(K:Qar)(hk:K.Ok)(W:World)(u c:Nat)(h:QbG K W u c 0)(a b:Int)(ha:Qat a)(hb:Qat b):Calls prog 92 #[Pt K.p,Iv 9,Iv a,Iv b] W (EvG K W c (Qap 9 a b u)):=by
 have hq:EvG K W c (Qap 9 a b u)=λe w'=>e=.returned (Iv (Qbw (a-b)))/\QbG K w' u c 0/\Chg [K.p] W w':=rfl
 rw[hq];have cn:=QgG a b W ha hb;exact zAm
def Qks(K:Qar)(hk:K.Ok)(W:World)(u c:Nat)(h:QbG K W u c 0)(a b:Int)(ha:Qat a)(hb:Qat b):Calls prog 92 #[Pt K.p,Iv 10,Iv a,Iv b] W (EvG K W c (Qap 10 a b u)):=by
 have hq:EvG K W c (Qap 10 a b u)=λe w'=>e=.returned (Iv (Qbw (a*b)))/\QbG K w' u c 0/\Chg [K.p] W w':=rfl
 rw[hq];have cn:=Qjb a b W ha hb;exact zAm
theorem zAl{P:Prop}(h:P:=by
  have cb:=λW=>Qcc x W
  have HM:=Zh h;clear hq ha hb h;go_enter func92,ntmps92;go_wp2_with fail;refine(cb _).mono ?_;rintro e w3 ⟨rfl,rfl⟩;clear cb;go_wp2;go_ret;exact⟨rfl,HM.o,Chg.refl _ _⟩):P:=h
def Qkp(K:Qar)(hk:K.Ok)(W:World)(u c:Nat)(h:QbG K W u c 0)(a b:Int)(ha:Qat a)(hb:Qat b):Calls prog 92 #[Pt K.p,Iv 13,Iv a,Iv b] W (EvG K W c (Qap 13 a b u)):=by
 obtain⟨x,hx⟩:∃x,decide (a<b)=x:=⟨_,rfl⟩
 have hq:EvG K W c (Qap 13 a b u)=λe w'=>e=.returned (Iv (Qea x))/\QbG K w' u c 0/\Chg [K.p] W w':=by rw[<-hx];rfl
 rw[hq];exact zAl
def Qko(K:Qar)(hk:K.Ok)(W:World)(u c:Nat)(h:QbG K W u c 0)(a b:Int)(ha:Qat a)(hb:Qat b):Calls prog 92 #[Pt K.p,Iv 14,Iv a,Iv b] W (EvG K W c (Qap 14 a b u)):=by
 obtain⟨x,hx⟩:∃x,decide (a<=b)=x:=⟨_,rfl⟩
 have hq:EvG K W c (Qap 14 a b u)=λe w'=>e=.returned (Iv (Qea x))/\QbG K w' u c 0/\Chg [K.p] W w':=by rw[<-hx];rfl
 rw[hq];exact zAl
def Qkn(K:Qar)(hk:K.Ok)(W:World)(u c:Nat)(h:QbG K W u c 0)(a b:Int)(ha:Qat a)(hb:Qat b):Calls prog 92 #[Pt K.p,Iv 15,Iv a,Iv b] W (EvG K W c (Qap 15 a b u)):=by
 obtain⟨x,hx⟩:∃x,decide (a=b)=x:=⟨_,rfl⟩
 have hq:EvG K W c (Qap 15 a b u)=λe w'=>e=.returned (Iv (Qea x))/\QbG K w' u c 0/\Chg [K.p] W w':=by rw[<-hx];rfl
 rw[hq];have xA:(a==b)=x:=by rw[<-hx];rfl
 exact zAl
def Qkr(K:Qar)(hk:K.Ok)(W:World)(u c:Nat)(h:QbG K W u c 0)(a b:Int)(ha:Qat a)(hb:Qat b):Calls prog 92 #[Pt K.p,Iv 11,Iv a,Iv b] W (EvG K W c (Qap 11 a b u)):=by
 have cd:=QgI a b W ha hb;have cm:=QgH a b W ha hb;have yA:=Jc h.self 17;have xA:=Ja h.self 17;rw[show (K.cellsG u c 0)[17]?=some (Iv 0) from rfl]at xA;have hlt:=h.lt;have HM:=Zh h;have HF:=Zh (h.setF hk 1);have L6:Hi (Chg [K.p] W (W.setCell ⟨K.p,17,none⟩ (Iv 1))):=(Chg.refl _ _).setCell (.inl zp) _;clear ha hb h
 by_cases hz:b=0
 ·have hq:Qap 11 a b u=.fault 1 u:=by rw[hz];rfl
  rw[hq];rw[if_pos hz,zF λh=>h hz]at cd cm;have HZ:=Zh hz;clear hz hq;go_enter func92,ntmps92;go_wp2_with fail;refine cd.mono ?_;rintro e w3 ⟨rfl,rfl⟩;clear cd;go_wp2;go_ret;exact⟨by decide,⟨_,rfl⟩,HF.o,L6.o⟩
 ·have hq:Qap 11 a b u=.val (Qbw (a.tdiv b)) u:=by
   have:Qap 11 a b u=if b=0 then .fault 1 u else .val (clI (a.tdiv b)) u:=rfl;rw[this,if_neg hz];rfl
  rw[hq];rw[if_neg hz,zE hz]at cd cm;have HZ:=Zh hz;clear hz hq HF L6;go_enter func92,ntmps92;go_wp2_with fail;refine cd.mono ?_;rintro e w3 ⟨rfl,rfl⟩;clear cd;go_wp2;go_ret;exact⟨rfl,HM.o,Chg.refl _ _⟩
def Qkq(K:Qar)(hk:K.Ok)(W:World)(u c:Nat)(h:QbG K W u c 0)(a b:Int)(ha:Qat a)(hb:Qat b):Calls prog 92 #[Pt K.p,Iv 12,Iv a,Iv b] W (EvG K W c (Qap 12 a b u)):=by
 have cd:=QgI a b W ha hb;have cm:=QgH a b W ha hb;have yA:=Jc h.self 17;have xA:=Ja h.self 17;rw[show (K.cellsG u c 0)[17]?=some (Iv 0) from rfl]at xA;have hlt:=h.lt;have HM:=Zh h;have HF:=Zh (h.setF hk 1);have L6:Hi (Chg [K.p] W (W.setCell ⟨K.p,17,none⟩ (Iv 1))):=(Chg.refl _ _).setCell (.inl zp) _;clear ha hb h
 by_cases hz:b=0
 ·have hq:Qap 12 a b u=.fault 1 u:=by rw[hz];rfl
  rw[hq];rw[if_pos hz,zF λh=>h hz]at cd cm;have HZ:=Zh hz;clear hz hq;go_enter func92,ntmps92;go_wp2_with fail;refine cd.mono ?_;rintro e w3 ⟨rfl,rfl⟩;clear cd;go_wp2_with fail;refine cm.mono ?_;rintro e w3 ⟨rfl,rfl⟩;clear cm;go_wp2;go_ret;exact⟨by decide,⟨_,rfl⟩,HF.o,L6.o⟩
 ·have hq:Qap 12 a b u=.val (Qbw (a.tmod b)) u:=by
   have:Qap 12 a b u=if b=0 then .fault 1 u else .val (clI (a.tmod b)) u:=rfl;rw[this,if_neg hz];rfl
  rw[hq];rw[if_neg hz,zE hz]at cd cm;have HZ:=Zh hz;clear hz hq HF L6;go_enter func92,ntmps92;go_wp2_with fail;refine cd.mono ?_;rintro e w3 ⟨rfl,rfl⟩;clear cd;go_wp2_with fail;refine cm.mono ?_;rintro e w3 ⟨rfl,rfl⟩;clear cm;go_wp2;go_ret;exact⟨rfl,HM.o,Chg.refl _ _⟩
def Qjp(K:Qar)(hk:K.Ok)(W:World)(u c:Nat)(h:QbG K W u c 0)(k a b:Int)(s9:8<=k/\k<=15)(ha:Qat a)(hb:Qat b):Calls prog 92 #[Pt K.p,Iv k,Iv a,Iv b] W (EvG K W c (Qap k a b u)):=by
 have:k=8\/k=9\/k=10\/k=11\/k=12\/k=13\/k=14\/k=15:=zo
 rcases this with rfl|rfl|rfl|rfl|rfl|rfl|rfl|rfl
 ·exact QlP K hk W u c h a b ha hb
 ·exact QlO K hk W u c h a b ha hb
 ·exact Qks K hk W u c h a b ha hb
 ·exact Qkr K hk W u c h a b ha hb
 ·exact Qkq K hk W u c h a b ha hb
 ·exact Qkp K hk W u c h a b ha hb
 ·exact Qko K hk W u c h a b ha hb
 ·exact Qkn K hk W u c h a b ha hb
inductive RK where
 |const (v:Value)
 |tree (x:Exp)
 |row (l:List Exp)
 |fresh (cs:Array Value) (t:TypeId)
 |rule (r:Qah)
def RK.rel:RK->Value->(Nat->Prop)->World->Prop
 |.const c,v,_,_=>v=c
 |.tree x,v,P,w=>∃c,v=.agg c/\XAt w P x c
 |.row l,v,P,w=>∃b cs,v=.slice (some ⟨b,0,none⟩) l.length l.length/\P b/\w.heap[b]?=some (.cells cs 50 (0,0))/\Qdc w P l cs.toList
 |.fresh cs t,v,_,w=>∃b,v=Pt b/\w.heap[b]?=some (.cells cs t (0,0))
 |.rule r,v,P,w=>∃c,v=.agg c/\QaV w P r c
def RK.keep(k:RK)(v:Value)(P P':Nat->Prop)(w w':World)(hP:∀q,P q->q<w.heap.size)(h:k.rel v P w)(hb:Below w.heap.size w w')(hq:∀q,P q->P' q):k.rel v P' w':=by
 have hk:∀b,P b->w'.heap[b]?=w.heap[b]?:=λb h=>hb.block b (hP b h)
 cases k with
 |const c=>exact h
 |tree x=>obtain⟨c,h1,h2⟩:=h;exact⟨c,h1,XAt.keep hk hq _ _ h2⟩
 |row l=>obtain⟨b,cs,h1,h2,h3,h4⟩:=h;exact⟨b,cs,h1,hq b h2,(hk b h2).trans h3,Qdc.keep hk hq _ _ h4⟩
 |fresh cs t=>obtain⟨b,h1,h2⟩:=h;exact⟨b,h1,(hb.block b (Jb h2)).trans h2⟩
 |rule r=>obtain⟨c,h1,h2⟩:=h;exact⟨c,h1,QaV.keep hk hq h2⟩
def QhN.up{w w1:World}{b:Nat}{r:Qah}(h:QhN w b r)(hb:Bel w w1):QhN w1 b r:=by
 obtain⟨fa,fc,ca,cc,h⟩:=h;refine⟨fa,fc,ca,cc,λW hW=>?_⟩;obtain⟨h1,h2⟩:=h W (Je hb hW);exact⟨h1,QaV.keep (λ_ _=>rfl) (λq hq=>Nat.lt_of_lt_of_le hq hb.size) h2⟩
def LpG.fin{K:Qar}{c d:Nat}{M0 N0:List Int}{u:Nat}{l:List Exp}{w1:World}{vs:List Int}{ui:Nat}{ov:Value}{W:World}(h:LpG K c d M0 N0 u l w1 l.length vs ui ov W):QdZ K d M0 u l=.val vs ui:=by
 rw[h.ev,List.drop_length,JhL,RN.bind_val,List.append_nil]
mutual
def shN(nf:Nat):Nat->Exp->Bool
 |many,.mk k n s l=>Qab nf many k n s&&(k==20||l.length==ar0 k)&&shL nf many k 0 l
def shL(nf:Nat):Nat->Int->Nat->List Exp->Bool
 |_,_,_,[]=>true
 |many,k,i,a::l=>shN nf (if k=19/\i=1 then many+1 else many) a&&shL nf many k (i+1) l
end
structure RfI(fs:List FnM)(fa:Option Addr)(fc:Nat)(vars:List Int)(vv:Value)(e:Exp)(c:Array Value)(W:World):Prop where
 fns:QbU W (.slice fa fs.length fc) fs
 nums:Qbc W (In W) vars vv
 x:XAt W (In W) e c
 sh:shN fs.length vars.length e=true
 sz:vars.length+siz (utN e)<=2000000
 nm:NmN e
def RfI.up{fs:List FnM}{fa:Option Addr}{fc:Nat}{M0:List Int}{vv:Value}{e:Exp}{c:Array Value}{W W':World}(h:RfI fs fa fc M0 vv e c W)(hb:Bel W W'):RfI fs fa fc M0 vv e c W':=
 ⟨QbU.up h.fns hb,h.nums.up hb,XAt.keep (λb hP=>hb.block b hP) (λb hP=>In.up hb hP) _ _ h.x,h.sh,h.sz,h.nm⟩
structure QiW where
 action:Int
 reason:By
 used:Int
 fault:Int
deriving DecidableEq
def QkK(w:World)(b:Nat)(X:QiW):Prop:=∀W,Bel w W->W.cell? ⟨b,0,none⟩=some (Iv X.action)/\W.cell? ⟨b,1,none⟩=some (.string (bs X.reason))/\W.cell? ⟨b,2,none⟩=some (Iv X.used)/\W.cell? ⟨b,3,none⟩=some (Iv X.fault)
def QkK.up{w w1:World}{b:Nat}{X:QiW}(h:QkK w b X)(hb:Bel w w1):QkK w1 b X:=λW hW=>h W (Je hb hW)
end Go.Proofs.YtncanmdgdflnpaaGreatDoor


