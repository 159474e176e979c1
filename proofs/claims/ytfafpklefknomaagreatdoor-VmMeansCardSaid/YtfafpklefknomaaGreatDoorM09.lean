import Derived.Test.YtfafpklefknomaaGreatDoorM07
import Derived.Test.YtfafpklefknomaaGreatDoorM08
import Derived.Test.YtfafpklefknomaaGreatDoorM00
import Derived.Test.YtfafpklefknomaaGreatDoorM06
open List(length_append length_cons length_nil length_singleton)
open Nat(le_refl)
namespace Go.Proofs.YtfafpklefknomaaGreatDoor
open Go Go.ChangeShapes Go.WideShapes Go.ChangeAt Go.RowKit Go.Lib
open _root_.Go.Proofs.Tryz
set_option linter.all false
set_option maxRecDepth 100000
set_option maxHeartbeats 32000000
mutual
def LoN:Exp->Prop
 |.mk k n s l=>(k=19->0<=n/\n<=1000000000)/\l.length<=1000000000/\LoL l
def LoL:List Exp->Prop
 |[]=>True
 |a::l=>LoN a/\LoL l
end
def LoL.mem:∀{l:List Exp}{a:Exp},LoL l->a∈l->LoN a
 |x::l,a,h,hm=>by
  rw[LoL]at h
  rcases List.mem_cons.1 hm with rfl|hm
  ·exact h.1
  ·exact LoL.mem h.2 hm
mutual
def Jah:∀(x:Exp),LoN x->0<=QaD x/\QaD x<=1000000001
 |.mk k n s l,h=>by
  rw[LoN]at h;have:=JcN l h.2.2;rw[QaD]
  by_cases hk:k=19
  ·have:=h.1 hk;rw[if_pos hk];omega
  ·rw[if_neg hk];omega
def JcN:∀(l:List Exp),LoL l->0<=QbG l/\QbG l<=1000000001
 |[],_=>by rw[QbG];omega
 |a::l,h=>by
  rw[LoL]at h;have h1:=Jah a h.1;have h2:=JcN l h.2;rw[QbG];omega
end
def Qkm{P:Prop}(h:P:=by
  clear M5 x0 x1 x2 x3 HT;obtain⟨wl,rfl⟩:=zJ wr;obtain⟨i,N,hg,rfl,rfl,A2⟩:=hrel;have M5:Hi (Bel w1 wl):=A2.o.1;have HT:=Zh A2.o.2.1;have HN:=Zh A2.o.2.2;clear A2
  by_cases hi:i<m
  ·have dil:decide ((i:Int)<(m:Int))=true:=zG (by omega);have diN:decide (i<m)=true:=zG hi;obtain⟨x,hx⟩:∃x,l[i]?=some x:=⟨_,List.getElem?_eq_getElem (by rw[HM.o];exact hi)⟩
   obtain⟨b1,o1,E7,hk1⟩:=O5.o (List.ne_nil_of_mem (List.mem_of_getElem? hx));subst E7;obtain⟨d1,T5,hc1⟩:=hk1 i x hx;have D5:=T5;obtain⟨xa,xc,rfl⟩:=T5.form;have O4:=Zh (Jd U2.o M5.o);obtain⟨z,hz⟩:=yt (QaD x)
   have hlx:=LoL.mem D6.o (List.mem_of_getElem? hx);have FA:=Jah x hlx;rw[hz]at FA;have cc:=λW (hW:Bel w1 W)=>U6.o x (List.mem_of_getElem? hx) _ W hlx D5 (Jd U2.o hW)
   rw[hz]at cc
   have XE:max (max N z) (QbG (l.drop (i+1)))=T:=by
    have h:=HT.o;rw[Jee hx,QbG,hz]at h;omega
   have EA:=Zh XE;have p0:wl.cell? ⟨b1,o1+i*4,none⟩=some (Iv x.kind):=hc1 wl O4.o 0 _ rfl;have p1:wl.cell? ⟨b1,o1+i*4+1,none⟩=some (Iv x.num):=hc1 wl O4.o 1 _ rfl;have p2:wl.cell? ⟨b1,o1+i*4+2,none⟩=some (Sv x.name):=hc1 wl O4.o 2 _ rfl;have p3:wl.cell? ⟨b1,o1+i*4+3,none⟩=some (.slice xa x.kids.length xc):=hc1 wl O4.o 3 _ rfl;have k0:0<=(i:Int):=by omega
   have k1:(i:Int)<(m:Int):=by omega
   have qG:=pG.o;have wk:IntKind.i64.wrap ((i:Int)+1)=((i+1:Nat):Int):=by rw[IntWalk.i64_in _ (by omega)];omega
   have AH:Hi (0<=max N z/\max N z<=1000000001):=by have:=HN.o;exact⟨by omega,by omega⟩
   have HG:Hi (gk+i=m/\i<m):=⟨hg,hi⟩
   have CC:=Zh cc;clear hx hk1 T5 D5 hz FA XE hg hi HT HN hc1 hlx cc qG;go_upto_region 7 with fail;have BH:Hi (Bel wl (wl.alloc (.cells (zg x.kind x.num x.name xa x.kids.length xc) 37))):=zO.alloc (Nat.le_refl _) _;have HY:=Zh (BxB.of (zQ wl (.cells (zg x.kind x.num x.name xa x.kids.length xc) 37)));clear p0 p1 p2 p3;generalize World.alloc wl _=w5 at*;generalize wl.heap.size=yb at*;obtain⟨p0,p1,p2,p3⟩:=Qao (HY.o _ zO);go_wp2_with fail;refine(CC.o w5 (Jd M5.o BH.o)).mono ?_;rintro e w8 ⟨rfl,H7⟩;have IA:Hi (Bel w1 w8):=Jd M5.o (Jd BH.o H7);clear CC p0 p1 p2 p3 H7;go_wp2;go_roundg (m-(i+1))
   case measure=>have:=HG.o;omega
   case rel=>exact⟨i+1,max N z,by have:=HG.o;omega,rfl,rfl,IA.o,EA.o,AH.o⟩
  ·have dil:decide ((i:Int)<(m:Int))=false:=zH (by omega);have diN:decide (i<m)=false:=zH hi
   have FB:T=N:=by
    have h:=HT.o;have hn:=HN.o;rw[List.drop_eq_nil_of_le (by rw[HM.o];omega),QbG]at h;omega
   subst FB;clear hi hg HT HN;go_wp2;go_ret
   exact⟨rfl,Jd H5.o M5.o⟩):P:=h
def JbL{w0:World}:∀(x:Exp)(d:List Value)(W:World),LoN x->QcC w0 x d->Bel w0 W->Calls prog 23 #[.agg d.toArray] W (Qbj W (Iv (QaD x)))
 |.mk kd nm s l,d,W,hlo,h1,hb=>by
  obtain⟨a1,c1,e1,g1⟩:=Qdy.kids h1;rw[e1]
  have hel:∀x∈l,∀d W,LoN x->QcC w0 x d->Bel w0 W->Calls prog 23 #[.agg d.toArray] W (Qbj W (Iv (QaD x))):=
   λx hx d W h0 h1 hb=>JbL x d W h0 h1 hb
  obtain⟨T,hT⟩:=yt (QaD (.mk kd nm s l))
  rw[hT];rw[QaD]at hT;rw[LoN]at hlo;obtain⟨m,hm⟩:=yt l.length
  have HM:=Zh hm;have pG:Hi (m<=1000000000):=hm ▸ hlo.2.1;have U6:=Zh hel;have O5:=Zh g1;have D6:=Zh hlo.2.2;have HK:=Zh hlo.1;rw[hm];clear e1 h1 hel g1 hm hlo;have HX:=Zh (BxB.of (zQ W (.cells (zg kd nm s a1 m c1) 37)));have H5:Hi (Bel W (W.alloc (.cells (zg kd nm s a1 m c1) 37))):=zO.alloc (Nat.le_refl _) _;have U2:=Zh (Jd hb H5.o);clear hb;go_enter func23,ntmps23;go_upto_region 1 with fail;generalize World.alloc W _=w1 at*;generalize W.heap.size=xb at*;have M5:Hi (Bel w1 w1):=zO;obtain⟨x0,x1,x2,x3⟩:=Qao (HX.o _ M5.o)
  by_cases e3:kd=19
  ·have q3:(kd==19)=true:=by simp[e3]
   obtain⟨N0,xA⟩:=yt (nm+1)
   have hk:=HK.o e3;have wn:IntKind.i64.wrap (nm+1)=N0:=by rw[IntWalk.i64_in _ zo];exact xA
   have HT:Hi (max N0 (QbG (l.drop 0))=T/\0<=N0/\N0<=1000000001):=by
    rw[if_pos e3,xA]at hT;exact⟨hT,by omega,by omega⟩
   clear hT e3 hk xA HK;go_wp2_with fail;go_loopg [3,15] m λg v3 v15 wr=>∃(i:Nat) (N:Int),g+i=m/\v3=Iv N/\v15=Iv (i:Int)/\Hi (Bel w1 wr/\max N (QbG (l.drop i))=T/\0<=N/\N<=1000000001)
   case atStart=>exact⟨0,N0,rfl,rfl,rfl,M5.o,HT.o.1,HT.o.2⟩
   case round=>
    exact Qkm
  ·have q3:(kd==19)=false:=zM e3;obtain⟨N0,xA⟩:=yt (0:Int)
   have HT:Hi (max N0 (QbG (l.drop 0))=T/\0<=N0/\N0<=1000000001):=by
    rw[if_neg e3,xA]at hT;exact⟨hT,by omega,by omega⟩
   subst xA;clear hT e3 HK;go_wp2_with fail;go_loopg [3,15] m λg v3 v15 wr=>∃(i:Nat) (N:Int),g+i=m/\v3=Iv N/\v15=Iv (i:Int)/\Hi (Bel w1 wr/\max N (QbG (l.drop i))=T/\0<=N/\N<=1000000001)
   case atStart=>exact⟨0,0,rfl,rfl,rfl,M5.o,HT.o.1,HT.o.2⟩
   case round=>
    exact Qkm
termination_by x=>SizeOf.sizeOf x
decreasing_by
 have:=List.sizeOf_lt_of_mem hx;simp only[Exp.mk.sizeOf_spec];omega
def QfC{P:Prop}(h:P:=by
  go_enter func53,ntmps53;go_wp2;go_ret
  exact⟨rfl,rfl⟩):P:=h
def Jks(k:Int)(w:World):Calls prog 53 #[Iv k] w (λe w'=>e=.returned (Iv (QbT k))/\w'=w):=by
 by_cases h6:k=6
 ·have e:QbT k=6:=by subst h6;rfl
  rw[e];have q6:(k==6)=true:=by simp[h6]
  clear h6 e;exact QfC
 by_cases h7:k=7
 ·have e:QbT k=7:=by subst h7;rfl
  rw[e];have q6:(k==6)=false:=zM h6;have q7:(k==7)=true:=by simp[h7]
  clear h6 h7 e;exact QfC
 by_cases h8:k=8
 ·have e:QbT k=8:=by subst h8;rfl
  rw[e];have q6:(k==6)=false:=zM h6;have q7:(k==7)=false:=zM h7;have q8:(k==8)=true:=by simp[h8]
  clear h6 h7 h8 e;exact QfC
 by_cases h9:k=9
 ·have e:QbT k=9:=by subst h9;rfl
  rw[e];have q6:(k==6)=false:=zM h6;have q7:(k==7)=false:=zM h7;have q8:(k==8)=false:=zM h8;have q9:(k==9)=true:=by simp[h9]
  clear h6 h7 h8 h9 e;exact QfC
 by_cases C2:k=10
 ·have e:QbT k=10:=by subst C2;rfl
  rw[e];have q6:(k==6)=false:=zM h6;have q7:(k==7)=false:=zM h7;have q8:(k==8)=false:=zM h8;have q9:(k==9)=false:=zM h9;have xA:(k==10)=true:=by simp[C2]
  clear h6 h7 h8 h9 C2 e;exact QfC
 by_cases h11:k=11
 ·have e:QbT k=11:=by subst h11;rfl
  rw[e];have q6:(k==6)=false:=zM h6;have q7:(k==7)=false:=zM h7;have q8:(k==8)=false:=zM h8;have q9:(k==9)=false:=zM h9;have xA:(k==10)=false:=zM C2;have yA:(k==11)=true:=by simp[h11]
  clear h6 h7 h8 h9 C2 h11 e;exact QfC
 by_cases h12:k=12
 ·have e:QbT k=12:=by subst h12;rfl
  rw[e];have q6:(k==6)=false:=zM h6;have q7:(k==7)=false:=zM h7;have q8:(k==8)=false:=zM h8;have q9:(k==9)=false:=zM h9;have xA:(k==10)=false:=zM C2;have yA:(k==11)=false:=zM h11;have zA:(k==12)=true:=by simp[h12]
  clear h6 h7 h8 h9 C2 h11 h12 e;exact QfC
 by_cases m6:k=13
 ·have e:QbT k=13:=by subst m6;rfl
  rw[e];have q6:(k==6)=false:=zM h6;have q7:(k==7)=false:=zM h7;have q8:(k==8)=false:=zM h8;have q9:(k==9)=false:=zM h9;have xA:(k==10)=false:=zM C2;have yA:(k==11)=false:=zM h11;have zA:(k==12)=false:=zM h12;have uA:(k==13)=true:=by simp[m6]
  clear h6 h7 h8 h9 C2 h11 h12 m6 e;exact QfC
 by_cases L8:k=14
 ·have e:QbT k=14:=by subst L8;rfl
  rw[e];have q6:(k==6)=false:=zM h6;have q7:(k==7)=false:=zM h7;have q8:(k==8)=false:=zM h8;have q9:(k==9)=false:=zM h9;have xA:(k==10)=false:=zM C2;have yA:(k==11)=false:=zM h11;have zA:(k==12)=false:=zM h12;have uA:(k==13)=false:=zM m6;have vA:(k==14)=true:=by simp[L8]
  clear h6 h7 h8 h9 C2 h11 h12 m6 L8 e;exact QfC
 have e:QbT k=15:=by unfold QbT;rw[if_neg zo]
 rw[e];have q6:(k==6)=false:=zM h6;have q7:(k==7)=false:=zM h7;have q8:(k==8)=false:=zM h8;have q9:(k==9)=false:=zM h9;have xA:(k==10)=false:=zM C2;have yA:(k==11)=false:=zM h11;have zA:(k==12)=false:=zM h12;have uA:(k==13)=false:=zM m6;have vA:(k==14)=false:=zM L8;clear h6 h7 h8 h9 C2 h11 h12 m6 L8 e;exact QfC
def QfM{P:Prop}(h:P:=by
  clear hat O0 HS N6 O5 U6;go_wp2;go_end0;rw[HR.o]
  exact⟨rfl,C0.o⟩):P:=h
def QjT{P:Prop}(h:P:=by
  clear hE hl hk;clear hR hx hb ha e1 g1 hel hp;go_enter func21,ntmps21;go_upto_region 1 with fail;generalize World.alloc W _=w1 at*;generalize W.heap.size=eb at*;obtain⟨x0,x1,x2,x3⟩:=Qao HS.o.box;go_wp2_with fail;refine(JU w1 p l 0 n [] HS.o.at' (by have:=HL.o;simp only[List.length_singleton]at this;omega)).mono ?_;rintro e w2 ⟨rfl,hat,O0⟩;have C0:=Zh (show BAt w2 p (l++[⟨0,n,[]⟩])/\BFr p W w2 from⟨hat,HS.o.fr.trans O0⟩)
  exact QfM):P:=h
section
variable {w0:World}{p:Nat}(k n:Int)(s:By)(es:List Exp)(hp:w0.heap.size<=p)(hel:∀a∈es,ExB w0 p a)
include w0 p k n s es hp hel
def zA4{P:Prop}(h:P:=by
  unfold Hi QcC at*;rw[e1]at hx;exact hx):P:=h
theorem Jmr(hk:k=0):ExB w0 p (.mk k n s es):=by
 intro d l W hx hb ha hl;obtain⟨R,hR⟩:=yt (Qbe W p (l++cE l.length (.mk k n s es)))
 rw[hR];have HR:Hi (R=Qbe W p (l++cE l.length (.mk k n s es))):=hR.symm;obtain⟨a1,c1,e1,g1⟩:=Qdy.kids hx;rw[e1]
 have N6:Hi (QcC w0 (.mk k n s es) [Iv k,Iv n,Sv s,.slice a1 es.length c1]):=by
  exact zA4
 have HS:=Zh (BSt.first (cs:=(zg k n s a1 es.length c1)) ha hp hb);have O5:=Zh g1;have U6:=Zh hel;have HP:=Zh hp;have hE:cE l.length (.mk k n s es)=[⟨0,n,[]⟩]:=by rw[Qcr];simp[hk]
 rw[hE]at HR hl;have HL:=Zh hl;have q0:(k==0)=true:=by simp[hk]
 exact QjT
theorem Jms(hk:k=1):ExB w0 p (.mk k n s es):=by
 intro d l W hx hb ha hl;obtain⟨R,hR⟩:=yt (Qbe W p (l++cE l.length (.mk k n s es)))
 rw[hR];have HR:Hi (R=Qbe W p (l++cE l.length (.mk k n s es))):=hR.symm;obtain⟨a1,c1,e1,g1⟩:=Qdy.kids hx;rw[e1]
 have N6:Hi (QcC w0 (.mk k n s es) [Iv k,Iv n,Sv s,.slice a1 es.length c1]):=by
  exact zA4
 have HS:=Zh (BSt.first (cs:=(zg k n s a1 es.length c1)) ha hp hb);have O5:=Zh g1;have U6:=Zh hel;have HP:=Zh hp;have hE:cE l.length (.mk k n s es)=[⟨0,n,[]⟩]:=by rw[Qcr];simp[hk]
 rw[hE]at HR hl;have HL:=Zh hl;have q0:(k==0)=false:=zM zo;have q1:(k==1)=true:=by simp[hk]
 exact QjT
theorem Jmt(hk:k=2):ExB w0 p (.mk k n s es):=by
 intro d l W hx hb ha hl;obtain⟨R,hR⟩:=yt (Qbe W p (l++cE l.length (.mk k n s es)))
 rw[hR];have HR:Hi (R=Qbe W p (l++cE l.length (.mk k n s es))):=hR.symm;obtain⟨a1,c1,e1,g1⟩:=Qdy.kids hx;rw[e1]
 have N6:Hi (QcC w0 (.mk k n s es) [Iv k,Iv n,Sv s,.slice a1 es.length c1]):=by
  exact zA4
 have HS:=Zh (BSt.first (cs:=(zg k n s a1 es.length c1)) ha hp hb);have O5:=Zh g1;have U6:=Zh hel;have HP:=Zh hp;have hE:cE l.length (.mk k n s es)=[⟨1,n,[]⟩]:=by rw[Qcr];simp[hk]
 rw[hE]at HR hl;have HL:=Zh hl;have q0:(k==0)=false:=zM zo;have q1:(k==1)=false:=zM zo;have q2:(k==2)=true:=by simp[hk]
 clear hE hl hk;clear hR hx hb ha e1 g1 hel hp;go_enter func21,ntmps21;go_upto_region 1 with fail;generalize World.alloc W _=w1 at*;generalize W.heap.size=eb at*;obtain⟨x0,x1,x2,x3⟩:=Qao HS.o.box;go_wp2_with fail;refine(JU w1 p l 1 n [] HS.o.at' (by have:=HL.o;simp only[length_singleton]at this;omega)).mono ?_;rintro e w2 ⟨rfl,hat,O0⟩;have C0:=Zh (show BAt w2 p (l++[⟨1,n,[]⟩])/\BFr p W w2 from⟨hat,HS.o.fr.trans O0⟩);exact QfM
theorem Jmu(hk:k=3):ExB w0 p (.mk k n s es):=by
 intro d l W hx hb ha hl;obtain⟨R,hR⟩:=yt (Qbe W p (l++cE l.length (.mk k n s es)))
 rw[hR];have HR:Hi (R=Qbe W p (l++cE l.length (.mk k n s es))):=hR.symm;obtain⟨a1,c1,e1,g1⟩:=Qdy.kids hx;rw[e1]
 have N6:Hi (QcC w0 (.mk k n s es) [Iv k,Iv n,Sv s,.slice a1 es.length c1]):=by
  exact zA4
 have HS:=Zh (BSt.first (cs:=(zg k n s a1 es.length c1)) ha hp hb);have O5:=Zh g1;have U6:=Zh hel;have HP:=Zh hp;have hE:cE l.length (.mk k n s es)=[⟨3,0,s⟩]:=by rw[Qcr];simp[hk]
 rw[hE]at HR hl;have HL:=Zh hl;have q0:(k==0)=false:=zM zo;have q1:(k==1)=false:=zM zo;have q2:(k==2)=false:=zM zo;have q3:(k==3)=true:=by simp[hk]
 clear hE hl hk;clear hR hx hb ha e1 g1 hel hp;go_enter func21,ntmps21;go_upto_region 1 with fail;generalize World.alloc W _=w1 at*;generalize W.heap.size=eb at*;obtain⟨x0,x1,x2,x3⟩:=Qao HS.o.box;go_wp2_with fail;refine(JU w1 p l 3 0 s HS.o.at' (by have:=HL.o;simp only[length_singleton]at this;omega)).mono ?_;rintro e w2 ⟨rfl,hat,O0⟩;have C0:=Zh (show BAt w2 p (l++[⟨3,0,s⟩])/\BFr p W w2 from⟨hat,HS.o.fr.trans O0⟩);exact QfM
theorem Jmv(hk:k=4):ExB w0 p (.mk k n s es):=by
 intro d l W hx hb ha hl;obtain⟨R,hR⟩:=yt (Qbe W p (l++cE l.length (.mk k n s es)))
 rw[hR];have HR:Hi (R=Qbe W p (l++cE l.length (.mk k n s es))):=hR.symm;obtain⟨a1,c1,e1,g1⟩:=Qdy.kids hx;rw[e1]
 have N6:Hi (QcC w0 (.mk k n s es) [Iv k,Iv n,Sv s,.slice a1 es.length c1]):=by
  exact zA4
 have HS:=Zh (BSt.first (cs:=(zg k n s a1 es.length c1)) ha hp hb);have O5:=Zh g1;have U6:=Zh hel;have HP:=Zh hp;have hE:cE l.length (.mk k n s es)=[⟨4,0,s⟩]:=by rw[Qcr];simp[hk]
 rw[hE]at HR hl;have HL:=Zh hl;have q0:(k==0)=false:=zM zo;have q1:(k==1)=false:=zM zo;have q2:(k==2)=false:=zM zo;have q3:(k==3)=false:=zM zo;have q4:(k==4)=true:=by simp[hk]
 clear hE hl hk;clear hR hx hb ha e1 g1 hel hp;go_enter func21,ntmps21;go_upto_region 1 with fail;generalize World.alloc W _=w1 at*;generalize W.heap.size=eb at*;obtain⟨x0,x1,x2,x3⟩:=Qao HS.o.box;go_wp2_with fail;refine(JU w1 p l 4 0 s HS.o.at' (by have:=HL.o;simp only[length_singleton]at this;omega)).mono ?_;rintro e w2 ⟨rfl,hat,O0⟩;have C0:=Zh (show BAt w2 p (l++[⟨4,0,s⟩])/\BFr p W w2 from⟨hat,HS.o.fr.trans O0⟩);exact QfM
theorem Jmw(hk:k=5):ExB w0 p (.mk k n s es):=by
 intro d l W hx hb ha hl;obtain⟨R,hR⟩:=yt (Qbe W p (l++cE l.length (.mk k n s es)))
 rw[hR];have HR:Hi (R=Qbe W p (l++cE l.length (.mk k n s es))):=hR.symm;obtain⟨a1,c1,e1,g1⟩:=Qdy.kids hx;rw[e1]
 have N6:Hi (QcC w0 (.mk k n s es) [Iv k,Iv n,Sv s,.slice a1 es.length c1]):=by
  exact zA4
 have HS:=Zh (BSt.first (cs:=(zg k n s a1 es.length c1)) ha hp hb);have O5:=Zh g1;have U6:=Zh hel;have HP:=Zh hp;have hE:cE l.length (.mk k n s es)=[⟨5,0,s⟩]:=by rw[Qcr];simp[hk]
 rw[hE]at HR hl;have HL:=Zh hl;have q0:(k==0)=false:=zM zo;have q1:(k==1)=false:=zM zo;have q2:(k==2)=false:=zM zo;have q3:(k==3)=false:=zM zo;have q4:(k==4)=false:=zM zo;have q5:(k==5)=true:=by simp[hk]
 clear hE hl hk;clear hR hx hb ha e1 g1 hel hp;go_enter func21,ntmps21;go_upto_region 1 with fail;generalize World.alloc W _=w1 at*;generalize W.heap.size=eb at*;obtain⟨x0,x1,x2,x3⟩:=Qao HS.o.box;go_wp2_with fail;refine(JU w1 p l 5 0 s HS.o.at' (by have:=HL.o;simp only[length_singleton]at this;omega)).mono ?_;rintro e w2 ⟨rfl,hat,O0⟩;have C0:=Zh (show BAt w2 p (l++[⟨5,0,s⟩])/\BFr p W w2 from⟨hat,HS.o.fr.trans O0⟩);exact QfM
theorem Jkt(hk:k=16)(h2:es.length=2):ExB w0 p (.mk k n s es):=by
 intro d l W hx hb ha hl;obtain⟨R,hR⟩:=yt (Qbe W p (l++cE l.length (.mk k n s es)))
 rw[hR];have HR:Hi (R=Qbe W p (l++cE l.length (.mk k n s es))):=hR.symm;obtain⟨a1,c1,e1,g1⟩:=Qdy.kids hx;rw[e1]
 have N6:Hi (QcC w0 (.mk k n s es) [Iv k,Iv n,Sv s,.slice a1 es.length c1]):=by
  exact zA4
 have HS:=Zh (BSt.first (cs:=(zg k n s a1 es.length c1)) ha hp hb);have O5:=Zh g1;have U6:=Zh hel;have HP:=Zh hp;obtain⟨a,b,rfl⟩:=JT h2;have hE:cE l.length (.mk k n s [a,b])=QcW l.length 17 0 a b:=by rw[Qcr];simp[hk,QcW]
 rw[hE]at HR hl;have HL:=Zh hl;have q0:(k==0)=false:=zM zo;have q1:(k==1)=false:=zM zo;have q2:(k==2)=false:=zM zo;have q3:(k==3)=false:=zM zo;have q4:(k==4)=false:=zM zo;have q5:(k==5)=false:=zM zo;have xA:(k==16)=true:=by simp[hk]
 clear hE hl hk h2;clear hR hx hb ha e1 g1 hel hp;go_enter func21,ntmps21;go_upto_region 1 with fail;generalize World.alloc W _=w1 at*;generalize W.heap.size=eb at*;obtain⟨x0,x1,x2,x3⟩:=Qao HS.o.box;go_wp2_with fail;refine(Jfp k n s a b 17 0 HP.o (U6.o a zq) (U6.o b zq) _ l w1 N6.o HS.o.bel HS.o.at' HL.o).mono ?_;rintro e w2 ⟨rfl,hat,O0⟩;have C0:=Zh (show BAt w2 p (l++QcW l.length 17 0 a b)/\BFr p W w2 from⟨hat,HS.o.fr.trans O0⟩);exact QfM
theorem Jku(hk:k=17)(h2:es.length=2):ExB w0 p (.mk k n s es):=by
 intro d l W hx hb ha hl;obtain⟨R,hR⟩:=yt (Qbe W p (l++cE l.length (.mk k n s es)))
 rw[hR];have HR:Hi (R=Qbe W p (l++cE l.length (.mk k n s es))):=hR.symm;obtain⟨a1,c1,e1,g1⟩:=Qdy.kids hx;rw[e1]
 have N6:Hi (QcC w0 (.mk k n s es) [Iv k,Iv n,Sv s,.slice a1 es.length c1]):=by
  exact zA4
 have HS:=Zh (BSt.first (cs:=(zg k n s a1 es.length c1)) ha hp hb);have O5:=Zh g1;have U6:=Zh hel;have HP:=Zh hp;obtain⟨a,b,rfl⟩:=JT h2;have hE:cE l.length (.mk k n s [a,b])=QcW l.length 18 1 a b:=by rw[Qcr];simp[hk,QcW]
 rw[hE]at HR hl;have HL:=Zh hl;have q0:(k==0)=false:=zM zo;have q1:(k==1)=false:=zM zo;have q2:(k==2)=false:=zM zo;have q3:(k==3)=false:=zM zo;have q4:(k==4)=false:=zM zo;have q5:(k==5)=false:=zM zo;have yA:(k==16)=false:=zM zo;have xA:(k==17)=true:=by simp[hk]
 clear hE hl hk h2;clear hR hx hb ha e1 g1 hel hp;go_enter func21,ntmps21;go_upto_region 1 with fail;generalize World.alloc W _=w1 at*;generalize W.heap.size=eb at*;obtain⟨x0,x1,x2,x3⟩:=Qao HS.o.box;go_wp2_with fail;refine(Jfp k n s a b 18 1 HP.o (U6.o a zq) (U6.o b zq) _ l w1 N6.o HS.o.bel HS.o.at' HL.o).mono ?_;rintro e w2 ⟨rfl,hat,O0⟩;have C0:=Zh (show BAt w2 p (l++QcW l.length 18 1 a b)/\BFr p W w2 from⟨hat,HS.o.fr.trans O0⟩);exact QfM
theorem Jkv(hk:k=20)(PC:es.length<=1000000000):ExB w0 p (.mk k n s es):=by
 intro d l W hx hb ha hl;obtain⟨R,hR⟩:=yt (Qbe W p (l++cE l.length (.mk k n s es)))
 rw[hR];have HR:Hi (R=Qbe W p (l++cE l.length (.mk k n s es))):=hR.symm;obtain⟨a1,c1,e1,g1⟩:=Qdy.kids hx;rw[e1]
 have N6:Hi (QcC w0 (.mk k n s es) [Iv k,Iv n,Sv s,.slice a1 es.length c1]):=by
  exact zA4
 have HS:=Zh (BSt.first (cs:=(zg k n s a1 es.length c1)) ha hp hb);have O5:=Zh g1;have U6:=Zh hel;have HP:=Zh hp;have hE:cE l.length (.mk k n s es)=cL l.length es++[⟨19,n,[]⟩]:=by rw[Qcr];simp[hk]
 rw[hE]at HR hl;have HL:=Zh hl;have N5:=Zh PC;have q0:(k==0)=false:=zM zo;have q1:(k==1)=false:=zM zo;have q2:(k==2)=false:=zM zo;have q3:(k==3)=false:=zM zo;have q4:(k==4)=false:=zM zo;have q5:(k==5)=false:=zM zo;have vA:(k==16)=false:=zM zo;have zA:(k==17)=false:=zM zo;have yA:(k==18)=false:=zM zo;have uA:(k==19)=false:=zM zo;have xA:(k==20)=true:=by simp[hk]
 clear hE hl hk PC;clear hR hx hb ha e1 g1 hel hp;go_enter func21,ntmps21;go_upto_region 1 with fail;generalize World.alloc W _=w1 at*;generalize W.heap.size=eb at*;obtain⟨x0,x1,x2,x3⟩:=Qao HS.o.box;go_wp2_with fail;refine(Jfq k n s es HP.o U6.o _ l w1 N6.o HS.o.bel HS.o.at' (by have:=HL.o;simp only[length_append,length_singleton]at this;omega) N5.o).mono ?_;rintro e w2 ⟨rfl,hat,O0⟩;replace HS:=Zh (HS.o.next HP.o hat O0);clear hat O0 x0 x1 x2 x3;obtain⟨x0,x1,x2,x3⟩:=Qao HS.o.box;go_wp2_with fail;refine(JU w2 p _ 19 n [] HS.o.at' (by have:=HL.o;simp only[length_append,length_singleton]at this |-;omega)).mono ?_;rintro e w3 ⟨rfl,hat,O0⟩;have C0:=Zh (show BAt w3 p (l++(cL l.length es++[⟨19,n,[]⟩]))/\BFr p W w3 from⟨by rw[<-List.append_assoc];exact hat,HS.o.fr.trans O0⟩);exact QfM
theorem Jmx(h0:¬k=0)(h1:¬k=1)(h2:¬k=2)(h3:¬k=3)(h4:¬k=4)(h5:¬k=5)(F7:¬k=16)(H6:¬k=17)(C6:¬k=18)(M3:¬k=19)(T3:¬k=20)(PC:es.length<=1000000000):ExB w0 p (.mk k n s es):=by
 intro d l W hx hb ha hl;obtain⟨R,hR⟩:=yt (Qbe W p (l++cE l.length (.mk k n s es)))
 rw[hR];have HR:Hi (R=Qbe W p (l++cE l.length (.mk k n s es))):=hR.symm;obtain⟨a1,c1,e1,g1⟩:=Qdy.kids hx;rw[e1]
 have N6:Hi (QcC w0 (.mk k n s es) [Iv k,Iv n,Sv s,.slice a1 es.length c1]):=by
  exact zA4
 have HS:=Zh (BSt.first (cs:=(zg k n s a1 es.length c1)) ha hp hb);have O5:=Zh g1;have U6:=Zh hel;have HP:=Zh hp
 have hE:cE l.length (.mk k n s es)=cL l.length es++[⟨QbT k,0,[]⟩]:=by
  rw[Qcr,if_neg zo,if_neg h2,if_neg h3,if_neg h4,if_neg h5,if_neg F7,if_neg H6,if_neg C6,if_neg M3,if_neg T3];rfl
 rw[hE]at HR hl;have HL:=Zh hl;have N5:=Zh PC;have q0:(k==0)=false:=zM h0;have q1:(k==1)=false:=zM h1;have q2:(k==2)=false:=zM h2;have q3:(k==3)=false:=zM h3;have q4:(k==4)=false:=zM h4;have q5:(k==5)=false:=zM h5;have vA:(k==16)=false:=zM F7;have zA:(k==17)=false:=zM H6;have yA:(k==18)=false:=zM C6;have uA:(k==19)=false:=zM M3;have xA:(k==20)=false:=zM T3;clear hE hl PC h0 h1 h2 h3 h4 h5 F7 H6 C6 M3 T3;clear hR hx hb ha e1 g1 hel hp;go_enter func21,ntmps21;go_upto_region 1 with fail;generalize World.alloc W _=w1 at*;generalize W.heap.size=eb at*;obtain⟨x0,x1,x2,x3⟩:=Qao HS.o.box;go_wp2_with fail;refine(Jfq k n s es HP.o U6.o _ l w1 N6.o HS.o.bel HS.o.at' (by have:=HL.o;simp only[length_append,length_singleton]at this;omega) N5.o).mono ?_;rintro e w2 ⟨rfl,hat,O0⟩;replace HS:=Zh (HS.o.next HP.o hat O0);clear hat O0 x0 x1 x2 x3;obtain⟨x0,x1,x2,x3⟩:=Qao HS.o.box;go_wp2_with fail;refine(Jks k w2).mono ?_;rintro e w4 ⟨rfl,rfl⟩;go_wp2_with fail;refine(JU w4 p _ (QbT k) 0 [] HS.o.at' (by have:=HL.o;simp only[length_append,length_singleton]at this |-;omega)).mono ?_;rintro e w3 ⟨rfl,hat,O0⟩;have C0:=Zh (show BAt w3 p (l++(cL l.length es++[⟨QbT k,0,[]⟩]))/\BFr p W w3 from⟨by rw[<-List.append_assoc];exact hat,HS.o.fr.trans O0⟩);exact QfM
end
def Jkw{w0:World}{p:Nat}(k n:Int)(s:By)(es:List Exp)(hp:w0.heap.size<=p)(hel:∀a∈es,ExB w0 p a)(hk:k=19)(h2:es.length=2):ExB w0 p (.mk k n s es):=by
 intro d l W hx hb ha hl;obtain⟨R,hR⟩:=yt (Qbe W p (l++cE l.length (.mk k n s es)))
 rw[hR];have HR:Hi (R=Qbe W p (l++cE l.length (.mk k n s es))):=hR.symm;obtain⟨a,b,rfl⟩:=JT h2;obtain⟨a1,c1,e1,g1⟩:=Qdy.kids hx;rw[e1]
 have N6:Hi (QcC w0 (.mk k n s [a,b]) [Iv k,Iv n,Sv s,.slice a1 [a,b].length c1]):=by
  exact zA4
 have HS:=Zh (BSt.first (cs:=(yp k n s (.slice a1 [a,b].length c1))) ha hp hb);have U6:=Zh hel;have HP:=Zh hp;obtain⟨b1,o1,E7,hk1⟩:=g1 zq;subst E7;obtain⟨d0,uA,vA⟩:=hk1 0 a rfl;have zA:=uA;obtain⟨dA,kA,rfl⟩:=uA.form;have H0:=Zh zA;have bA:=Zh vA;obtain⟨d1,T5,hc1⟩:=hk1 1 b rfl;have D5:=T5;obtain⟨iA,jA,rfl⟩:=T5.form;have H1:=Zh D5;have Q3:=Zh hc1;clear uA zA vA T5 D5 hc1 hk1;have hE:cE l.length (.mk k n s [a,b])=cE l.length a++⟨2,n,[]⟩::cE (l.length+(cE l.length a).length+1) b:=by rw[Qcr];simp[hk]
 rw[hE]at HR hl;generalize hA:cE l.length a=A at*;generalize hB:cE (l.length+A.length+1) b=B at*;have aA:l.length+A.length+1+B.length<=1000000000000:=by simp only[List.length_append,List.length_cons]at hl;omega
 have HL:=Zh aA;have HA:=Zh hA;have HB:=Zh hB;have yA:Hi ((l++A++[(⟨2,n,[]⟩:OpM)]).length=l.length+A.length+1):=by unfold Hi;simp;omega
 have q0:(k==0)=false:=zM zo;have q1:(k==1)=false:=zM zo;have q2:(k==2)=false:=zM zo;have q3:(k==3)=false:=zM zo;have q4:(k==4)=false:=zM zo;have q5:(k==5)=false:=zM zo;have mA:(k==16)=false:=zM zo;have eA:(k==17)=false:=zM zo;have cA:(k==18)=false:=zM zo;have gA:(k==19)=true:=by simp[hk]
 clear hE hl aA hk h2 hA hB;clear hR hx hb ha e1 g1 hel hp N6;go_enter func21,ntmps21;go_upto_region 1 with fail;generalize World.alloc W _=w1 at*;generalize W.heap.size=eb at*;obtain⟨x0,x1,x2,x3⟩:=Qao HS.o.box;have xA:=Zh HS.o.bel;obtain⟨k0,k1,k2,k3⟩:=KG bA.o xA.o;simp only[Nat.zero_mul,Nat.add_zero,Nat.one_mul,Nat.reduceMul]at k0 k1 k2 k3;go_wp2_with fail;refine(U6.o a zq _ l w1 H0.o xA.o HS.o.at' (by rw[HA.o];have:=HL.o;omega)).mono ?_;rintro e w2 ⟨rfl,hat,O0⟩;rw[HA.o]at hat;replace HS:=Zh (HS.o.next HP.o hat O0);clear hat O0 k0 k1 k2 k3 x0 x1 x2 x3 xA;obtain⟨x0,x1,x2,x3⟩:=Qao HS.o.box;go_wp2_with fail;refine(JU w2 p _ 2 n [] HS.o.at' (by have:=HL.o;simp only[List.length_append];omega)).mono ?_;rintro e w3 ⟨rfl,hat,O0⟩;replace HS:=Zh (HS.o.next HP.o hat O0);clear hat O0 x0 x1 x2 x3;obtain⟨x0,x1,x2,x3⟩:=Qao HS.o.box;have xA:=Zh HS.o.bel;obtain⟨k0,k1,k2,k3⟩:=KG Q3.o xA.o;simp only[Nat.zero_mul,Nat.add_zero,Nat.one_mul,Nat.reduceMul]at k0 k1 k2 k3;go_wp2_with fail;refine(U6.o b zq _ _ w3 H1.o xA.o HS.o.at' (by rw[yA.o,HB.o];have:=HL.o;omega)).mono ?_;rintro e w4 ⟨rfl,hat,O0⟩;rw[yA.o,HB.o]at hat;replace HS:=Zh (HS.o.next HP.o hat O0);clear hat O0 k0 k1 k2 k3 x0 x1 x2 x3 xA;obtain⟨x0,x1,x2,x3⟩:=Qao HS.o.box;have C0:Hi (BAt w4 p (l++(A++⟨2,n,[]⟩::B))/\BFr p W w4):=⟨by have:=HS.o.at';simpa using this,HS.o.fr⟩
 clear HS U6;go_wp2;go_end0;rw[HR.o];exact⟨rfl,C0.o⟩
def Jkx{w0:World}{p:Nat}(k n:Int)(s:By)(es:List Exp)(hp:w0.heap.size<=p)(hel:∀a∈es,ExB w0 p a)(hk:k=18)(h2:es.length=3):ExB w0 p (.mk k n s es):=by
 intro d l W hx hb ha hl;obtain⟨R,hR⟩:=yt (Qbe W p (l++cE l.length (.mk k n s es)))
 rw[hR];have HR:Hi (R=Qbe W p (l++cE l.length (.mk k n s es))):=hR.symm;obtain⟨c,a,b,rfl⟩:=Vb h2;obtain⟨a1,c1,e1,g1⟩:=Qdy.kids hx;rw[e1]
 have N6:Hi (QcC w0 (.mk k n s [c,a,b]) [Iv k,Iv n,Sv s,.slice a1 [c,a,b].length c1]):=by
  exact zA4
 have HS:=Zh (BSt.first (cs:=(yp k n s (.slice a1 [c,a,b].length c1))) ha hp hb);have U6:=Zh hel;have HP:=Zh hp;obtain⟨b1,o1,E7,hk1⟩:=g1 zq;subst E7;obtain⟨d0,dA,kA⟩:=hk1 0 c rfl;have aA:=dA;obtain⟨tA,vB,rfl⟩:=dA.form;have H0:=Zh aA;have pA:=Zh kA;obtain⟨d1,T5,hc1⟩:=hk1 1 a rfl;have D5:=T5;obtain⟨zB,uB,rfl⟩:=T5.form;have H1:=Zh D5;have Q3:=Zh hc1;obtain⟨d2,cA,S1⟩:=hk1 2 b rfl;have vA:=cA;obtain⟨xB,sA,rfl⟩:=cA.form;have H2:=Zh vA;have A7:=Zh S1;clear dA aA kA T5 D5 hc1 cA vA S1 hk1;generalize hC:cE l.length c=C at*;generalize hA:cE (l.length+C.length+1) a=A at*;generalize hB:cE (l.length+C.length+A.length+2) b=B at*
 have hE:cE l.length (.mk k n s [c,a,b])=C++⟨17,((l.length+C.length+A.length+2:Nat):Int),[]⟩::(A++⟨16,((l.length+C.length+A.length+2+B.length:Nat):Int),[]⟩::B):=by
  rw[Qcr];simp only[hk,show ¬((18:Int)=0\/(18:Int)=1) by decide,show ¬(18:Int)=2 by decide,show ¬(18:Int)=3 by decide,show ¬(18:Int)=4 by decide,show ¬(18:Int)=5 by decide,show ¬(18:Int)=16 by decide,show ¬(18:Int)=17 by decide,if_false,if_true,hC,hA,hB]
 rw[hE]at HR hl;have mA:l.length+C.length+A.length+2+B.length<=1000000000000:=by simp only[length_append,length_cons]at hl;omega
 have HL:=Zh mA;have HA:=Zh hA;have HB:=Zh hB;have Q1:=Zh hC;have uA:Hi ((l++C++[(⟨17,0,[]⟩:OpM)]).length=l.length+C.length+1):=by unfold Hi;simp;omega
 have q0:(k==0)=false:=zM zo;have q1:(k==1)=false:=zM zo;have q2:(k==2)=false:=zM zo;have q3:(k==3)=false:=zM zo;have q4:(k==4)=false:=zM zo;have q5:(k==5)=false:=zM zo;have qA:(k==16)=false:=zM zo;have yB:(k==17)=false:=zM zo;have rA:(k==18)=true:=by simp[hk]
 clear hE hl mA hk h2 hA hB hC;clear hR hx hb ha e1 g1 hel hp N6;go_enter func21,ntmps21;go_upto_region 1 with fail;generalize World.alloc W _=w1 at*;generalize W.heap.size=eb at*;obtain⟨x0,x1,x2,x3⟩:=Qao HS.o.box;have xA:=Zh HS.o.bel;obtain⟨k0,k1,k2,k3⟩:=KG pA.o xA.o;simp only[Nat.zero_mul,Nat.add_zero,Nat.one_mul,Nat.reduceMul]at k0 k1 k2 k3;go_wp2_with fail;refine(U6.o c zq _ l w1 H0.o xA.o HS.o.at' (by rw[Q1.o];have:=HL.o;omega)).mono ?_;rintro e w2 ⟨rfl,hat,O0⟩;rw[Q1.o]at hat;replace HS:=Zh (HS.o.next HP.o hat O0);clear hat O0 k0 k1 k2 k3 x0 x1 x2 x3 xA;obtain⟨x0,x1,x2,x3⟩:=Qao HS.o.box;go_wp2_with fail;refine(JU w2 p _ 17 0 [] HS.o.at' (by have:=HL.o;simp only[length_append];omega)).mono ?_;rintro e w3 ⟨rfl,hat,O0⟩;replace HS:=Zh (HS.o.next HP.o hat O0);clear hat O0 x0 x1 x2 x3;obtain⟨x0,x1,x2,x3⟩:=Qao HS.o.box;have xA:=Zh HS.o.bel;obtain⟨k0,k1,k2,k3⟩:=KG Q3.o xA.o;simp only[Nat.zero_mul,Nat.add_zero,Nat.one_mul,Nat.reduceMul]at k0 k1 k2 k3;go_wp2_with fail;refine(U6.o a zq _ _ w3 H1.o xA.o HS.o.at' (by rw[uA.o,HA.o];have:=HL.o;omega)).mono ?_;rintro e w4 ⟨rfl,hat,O0⟩;rw[uA.o,HA.o]at hat;replace HS:=Zh (HS.o.next HP.o hat O0);clear hat O0 k0 k1 k2 k3 x0 x1 x2 x3 xA;obtain⟨x0,x1,x2,x3⟩:=Qao HS.o.box;go_wp2_with fail;refine(JU w4 p _ 16 0 [] HS.o.at' (by have:=HL.o;simp only[length_append,List.length_singleton];omega)).mono ?_;rintro e w5 ⟨rfl,hat,O0⟩;replace HS:=Zh (HS.o.next HP.o hat O0);clear hat O0 x0 x1 x2 x3;obtain⟨x0,x1,x2,x3⟩:=Qao HS.o.box;obtain⟨l1,gA⟩:=yt (l++C)
 have zA:l1.length=l.length+C.length:=by rw[<-gA,length_append]
 have e1:l++C++[(⟨17,0,[]⟩:OpM)]++A++[⟨16,0,[]⟩]=l1++(⟨17,0,[]⟩:OpM)::(A++[⟨16,0,[]⟩]):=by rw[gA];simp
 rw[e1]at HS;have nA:((l.length:Int)+(C.length:Int))=((l1.length:Nat):Int):=by rw[zA];omega
 have bA:=Zh zA;have jA:=VD w5 p _ l1.length ⟨17,0,[]⟩ HS.o.at' (by simp only[length_append,length_cons,length_nil,bA.o];have:=HL.o;omega) (JcL _ _ _);rw[<-nA,JcM]at jA;clear zA e1 nA x0 x1 x2 x3;go_wp2_with fail;refine jA.mono ?_;rintro e w6 ⟨rfl,hat,O0⟩;obtain⟨Z,hZ⟩:=yt (((l1++(⟨17,0,[]⟩:OpM)::(A++[⟨16,0,[]⟩])).length:Nat))
 rw[hZ]at hat;replace HS:=Zh (HS.o.next HP.o hat O0);have HZ:=Zh hZ;clear hat O0 jA hZ;obtain⟨x0,x1,x2,x3⟩:=Qao HS.o.box;have yA:Hi ((l1++(⟨17,Z,[]⟩:OpM)::(A++[⟨16,0,[]⟩])).length=l.length+C.length+A.length+2):=by unfold Hi;simp only[length_append,length_cons,length_nil,bA.o];omega
 have xA:=Zh HS.o.bel;obtain⟨k0,k1,k2,k3⟩:=KG A7.o xA.o;simp only[Nat.zero_mul,Nat.add_zero,Nat.one_mul,Nat.reduceMul]at k0 k1 k2 k3;go_wp2_with fail;refine(U6.o b zq _ _ w6 H2.o xA.o HS.o.at' (by rw[yA.o,HB.o];have:=HL.o;omega)).mono ?_;rintro e w7 ⟨rfl,hat,O0⟩;rw[yA.o,HB.o]at hat;replace HS:=Zh (HS.o.next HP.o hat O0);clear hat O0 k0 k1 k2 k3 x0 x1 x2 x3 xA;obtain⟨x0,x1,x2,x3⟩:=Qao HS.o.box;have e2:l1++(⟨17,Z,[]⟩:OpM)::(A++[⟨16,0,[]⟩])++B=(l1++(⟨17,Z,[]⟩:OpM)::A)++(⟨16,0,[]⟩:OpM)::B:=zq;have eA:=Zh (e2 ▸ HS.o);have ej:((l1.length:Int)+((A.length:Int)+1))=(((l1++(⟨17,Z,[]⟩:OpM)::A).length:Nat):Int):=by simp only[length_append,length_cons];omega
 have iA:=VD w7 p _ (l1++(⟨17,Z,[]⟩:OpM)::A).length ⟨16,0,[]⟩ eA.o.at' (by simp only[length_append,length_cons,length_nil,bA.o];have:=HL.o;omega) (JcL _ _ _);rw[<-ej,JcM]at iA;clear e2 ej HS;go_wp2_with fail;refine iA.mono ?_;rintro e w8 ⟨rfl,hat,O0⟩;have HS:=Zh (eA.o.next HP.o hat O0);clear hat O0 iA eA
 have C0:Hi (BAt w8 p (l++(C++⟨17,((l.length+C.length+A.length+2:Nat):Int),[]⟩::(A++⟨16,((l.length+C.length+A.length+2+B.length:Nat):Int),[]⟩::B)))/\BFr p W w8):=by
  refine⟨?_,HS.o.fr⟩;have h:=HS.o.at';have hz:=HZ.o;rw[<-gA]at h;simp only[length_append,length_cons,length_nil,bA.o]at h hz;have z1:Z=((l.length+C.length+A.length+2:Nat):Int):=zo;have z2:l.length+C.length+(A.length+1)+(B.length+1)=l.length+C.length+A.length+2+B.length:=zo;rw[z1,z2]at h;simpa using h
 clear HS U6 HZ;go_wp2;go_end0;rw[HR.o];exact⟨rfl,C0.o⟩
def Jai{w0:World}{p:Nat}(hp:w0.heap.size<=p):∀(e:Exp),ArN e->ExB w0 p e
 |.mk k n s es,h=>by
  rw[ArN]at h;obtain⟨h2,h3,xA,hL⟩:=h;have hel:∀a∈es,ExB w0 p a:=λa ha=>Jai hp a (ArL.mem hL ha)
  by_cases c0:k=0
  ·exact Jmr k n s es hp hel c0
  by_cases c1:k=1
  ·exact Jms k n s es hp hel c1
  by_cases c2:k=2
  ·exact Jmt k n s es hp hel c2
  by_cases c3:k=3
  ·exact Jmu k n s es hp hel c3
  by_cases c4:k=4
  ·exact Jmv k n s es hp hel c4
  by_cases c5:k=5
  ·exact Jmw k n s es hp hel c5
  by_cases c16:k=16
  ·exact Jkt k n s es hp hel c16 (h2 (.inl c16))
  by_cases c17:k=17
  ·exact Jku k n s es hp hel c17 (h2 (.inr (.inl c17)))
  by_cases c18:k=18
  ·exact Jkx k n s es hp hel c18 (h3 c18)
  by_cases c19:k=19
  ·exact Jkw k n s es hp hel c19 (h2 (.inr (.inr c19)))
  by_cases c20:k=20
  ·exact Jkv k n s es hp hel c20 xA
  exact Jmx k n s es hp hel c0 c1 c2 c3 c4 c5 c16 c17 c18 c19 c20 xA
termination_by e=>SizeOf.sizeOf e
decreasing_by
 have:=List.sizeOf_lt_of_mem ha;simp only[Exp.mk.sizeOf_spec];omega
def QbO(n low FE:Int):Int:=if n<low then low else if FE<n then FE else n
def Qca(n:Int):Int:=QbO n (-1125899906842624) 1125899906842624
def Qgv{P:Prop}(h:P:=by
  go_enter func163,ntmps163;go_wp2;go_ret
  exact⟨by rw[hN.o];rfl,rfl⟩):P:=h
def VE(n l h:Int)(w:World):Calls prog 163 #[Iv n,Iv l,Iv h] w (λe w'=>e=.returned (Iv (QbO n l h))/\w=w'):=by
 by_cases h1:n<l
 ·have hN:Hi (QbO n l h=l):=by unfold Hi QbO;rw[if_pos h1]
  exact Qgv
 ·have hd:decide (n<l)=false:=by simpa using h1
  by_cases h2:h<n
  ·have hN:Hi (QbO n l h=h):=by unfold Hi QbO;rw[if_neg h1,if_pos h2]
   exact Qgv
  ·have xA:decide (h<n)=false:=by simpa using h2
   have hN:Hi (QbO n l h=n):=by unfold Hi QbO;rw[if_neg h1,if_neg h2]
   exact Qgv
def Qci(w:World)(n:Int)(ex neg:Bool)(e:Ending)(w':World):Prop:=e=.returned (.tuple #[Iv n,.bool ex,.bool neg])/\yr w w'
def Qdc(n:Int)(ex neg:Bool):Int:=if ex=true then Qca n else if neg=true then -1125899906842624 else 1125899906842624
def QhK{P:Prop}(h:P:=by
  go_enter func147,ntmps147;go_wp2_with (go_at_call 149;refine hc.mono ?_;rintro e w1 ⟨rfl,hb⟩);go_ret
  exact⟨by rw[hN.o];rfl,hb⟩):P:=h
def zA8{P:Prop}(h:P:=by
  go_ret;exact⟨by rw[hN.o,hL.o];rfl,hb⟩):P:=h
def Qjh(p q:Nat)(w:World)(n:Int)(ex neg:Bool)(hc:Calls prog 149 #[Pt p,Pt q] w (Qci w n ex neg)):
  Calls prog 147 #[.func (.func 149) #[] #[Pt p,Pt q]] w (Qcx w (Qdc n ex neg)):=by
 cases ex
 ·cases neg
  ·have hN:Hi (Qdc n false false=1125899906842624):=rfl;exact QhK
  ·have hN:Hi (Qdc n false true = -1125899906842624):=rfl;exact QhK
 ·have hN:Hi (Qdc n true neg=Qca n):=rfl;have hL:Hi (Qca n=QbO n (-1125899906842624) 1125899906842624):=rfl;go_enter func147,ntmps147;go_wp2_with (first|(go_at_call 149;refine hc.mono ?_;rintro e w1 ⟨rfl,hb⟩)|(go_at_call 163;refine(VE _ _ _ _).mono ?_;rintro e w2 ⟨rfl,rfl⟩));exact zA8
def QhL{P:Prop}(h:P:=by
  go_enter func147,ntmps147;go_wp2_with (go_at_call 148;refine hc.mono ?_;rintro e w1 ⟨rfl,hb⟩);go_ret
  exact⟨by rw[hN.o];rfl,hb⟩):P:=h
def Qjg(p q:Nat)(w:World)(n:Int)(ex neg:Bool)(hc:Calls prog 148 #[Pt p,Pt q] w (Qci w n ex neg)):
  Calls prog 147 #[.func (.func 148) #[] #[Pt p,Pt q]] w (Qcx w (Qdc n ex neg)):=by
 cases ex
 ·cases neg
  ·have hN:Hi (Qdc n false false=1125899906842624):=rfl;exact QhL
  ·have hN:Hi (Qdc n false true = -1125899906842624):=rfl;exact QhL
 ·have hN:Hi (Qdc n true neg=Qca n):=rfl;have hL:Hi (Qca n=QbO n (-1125899906842624) 1125899906842624):=rfl;go_enter func147,ntmps147;go_wp2_with (first|(go_at_call 148;refine hc.mono ?_;rintro e w1 ⟨rfl,hb⟩)|(go_at_call 163;refine(VE _ _ _ _).mono ?_;rintro e w2 ⟨rfl,rfl⟩));exact zA8
def QhJ{P:Prop}(h:P:=by
  go_enter func147,ntmps147;go_wp2_with (go_at_call 150;refine hc.mono ?_;rintro e w1 ⟨rfl,hb⟩);go_ret
  exact⟨by rw[hN.o];rfl,hb⟩):P:=h
def Qjf(p q:Nat)(w:World)(n:Int)(ex neg:Bool)(hc:Calls prog 150 #[Pt p,Pt q] w (Qci w n ex neg)):
  Calls prog 147 #[.func (.func 150) #[] #[Pt p,Pt q]] w (Qcx w (Qdc n ex neg)):=by
 cases ex
 ·cases neg
  ·have hN:Hi (Qdc n false false=1125899906842624):=rfl;exact QhJ
  ·have hN:Hi (Qdc n false true = -1125899906842624):=rfl;exact QhJ
 ·have hN:Hi (Qdc n true neg=Qca n):=rfl;have hL:Hi (Qca n=QbO n (-1125899906842624) 1125899906842624):=rfl;go_enter func147,ntmps147;go_wp2_with (first|(go_at_call 150;refine hc.mono ?_;rintro e w1 ⟨rfl,hb⟩)|(go_at_call 163;refine(VE _ _ _ _).mono ?_;rintro e w2 ⟨rfl,rfl⟩));exact zA8
def JcO(w:World)(v:Value)(t:Nat):(w.alloc (.cells #[v] t)).cell? ⟨w.heap.size,0,none⟩=some v:=by
 rw[cell_of_row _ _ _ _ _ (0,0) (zQ w _)];rfl
def YD(w:World)(v u:Value)(t t':Nat):((w.alloc (.cells #[v] t)).alloc (.cells #[u] t')).cell? ⟨w.heap.size,0,none⟩=some v:=by
 rw[World.cell?_of_block (w:=w.alloc (.cells #[v] t)) (Below.heap_alloc _ _ _ zq)];exact JcO w v t
def YE(w:World)(v u:Value)(t t':Nat):((w.alloc (.cells #[v] t)).alloc (.cells #[u] t')).cell? ⟨w.heap.size+1,0,none⟩=some u:=by
 have h:=JcO (w.alloc (.cells #[v] t)) u t'
 rwa [show (w.alloc (.cells #[v] t)).heap.size=w.heap.size+1 by simp]at h
def QeJ{P:Prop}(h:P:=by
  go_wp2;go_quiet (fail);go_wp2;go_ret3
  exact⟨rfl,Ke zO _⟩):P:=h
def zA7{P:Prop}(h:P:=by
  go_enter func149,ntmps149;exact QeJ):P:=h
def JnK(p q:Nat)(a b:Int)(w:World)(ha:Qbc a)(hb:Qbc b)(hp:w.cell? ⟨p,0,none⟩=some (Iv a))(hq:w.cell? ⟨q,0,none⟩=some (Iv b)):
  ∃n ex,(ex=true->n=a+b)/\(ex=false->(a<0->a+b < -9223372036854775808)/\(0<=a->9223372036854775807<a+b))/\Calls prog 149 #[Pt p,Pt q] w (Qci w n ex (decide (a<0))):=by
 unfold Qbc at ha hb
 by_cases hlo:a+b < -9223372036854775808
 ·have hw:wrap64 (a+b)=a+b+18446744073709551616:=by unfold wrap64;omega
  have d1:decide (a<0)=true:=zG zo;have d2:decide (b<0)=true:=zG zo;have d3:decide (a+b+18446744073709551616<0)=false:=zH zo;refine⟨wrap64 (a+b),false,by simp,λ_=>⟨λ_=>hlo,λh=>by omega⟩,?_⟩;rw[d1];have D6:=Zh hlo;clear hlo;exact zA7
 ·by_cases C9:9223372036854775807<a+b
  ·have hw:wrap64 (a+b)=a+b-18446744073709551616:=by unfold wrap64;omega
   have d1:decide (a<0)=false:=zH zo;have d2:decide (b<0)=false:=zH zo;have d3:decide (a+b-18446744073709551616<0)=true:=zG zo;refine⟨wrap64 (a+b),false,by simp,λ_=>⟨λh=>by omega,λ_=>C9⟩,?_⟩;rw[d1];have A5:=Zh C9;clear C9 hlo;exact zA7
  ·have h1:-9223372036854775808<=a+b:=zo;have h2:a+b<=9223372036854775807:=zo;refine⟨a+b,true,λ_=>rfl,by simp,?_⟩;clear hlo C9
   by_cases ca:a<0
   ·have d1:decide (a<0)=true:=zG ca;rw[d1]
    by_cases cb:b<0
    ·have d2:decide (b<0)=true:=zG cb;have d3:decide (a+b<0)=true:=zG zo;clear ca cb;exact zA7
    ·have d2:decide (b<0)=false:=zH cb
     skip
     clear ca cb;exact zA7
   ·have d1:decide (a<0)=false:=zH ca;rw[d1]
    by_cases cb:b<0
    ·have d2:decide (b<0)=true:=zG cb
     skip
     clear ca cb;exact zA7
    ·have d2:decide (b<0)=false:=zH cb;have d3:decide (a+b<0)=false:=zH zo;clear ca cb;exact zA7
def QiK{P:Prop}(h:P:=by
  go_wp2_with fail;rw[<-hW];clear hW;refine(Calls.mono c ?_);rintro e w1 ⟨rfl,L1⟩;go_wp2;go_ret
  exact⟨by rw[<-hR.o];rfl,lA.trans (L1.mono lA.size)⟩):P:=h
def QjF{P:Prop}(h:P:=by
  unfold Hi Qdc
  cases ex
  ·obtain⟨o1,o2⟩:=ho rfl;simp only[Bool.false_eq_true,if_false,decide_eq_true_eq];unfold Qca QbO
   by_cases h:a<0
   ·rw[if_pos h,if_pos (by have:=o1 h;omega)]
   ·rw[if_neg h,if_neg (by have:=o2 (by omega);omega),if_pos (by have:=o2 (by omega);omega)]
  ·rw[if_pos rfl,hn rfl]):P:=h
def Jfr(a b:Int)(w:World)(ha:Qbc a)(hb:Qbc b):Calls prog 121 (yq a b) w (Qcx w (Qca (a+b))):=by
 have xA:∀(fn:Fn)(first cap:Array Value)(w:World),(Instr.makeFunc fn first cap).run prog w=.ok (.func fn first cap) w:=λ_ _ _ _=>rfl
 obtain⟨W,hW⟩:∃W,W=(w.alloc (.cells #[Iv a] 3)).alloc (.cells #[Iv b] 3):=⟨_,rfl⟩
 have lA:yr w W:=by rw[hW];exact(zO.alloc (Nat.le_refl _) _).alloc zq _
 have hp:W.cell? ⟨w.heap.size,0,none⟩=some (Iv a):=by rw[hW];exact YD w _ _ 3 3
 have hq:W.cell? ⟨w.heap.size+1,0,none⟩=some (Iv b):=by rw[hW];exact YE w _ _ 3 3
 obtain⟨n,ex,hn,ho,hc⟩:=JnK w.heap.size (w.heap.size+1) a b W ha hb hp hq;have c:=Qjh _ _ _ _ _ _ hc
 have hR:Hi (Qdc n ex (decide (a<0))=Qca (a+b)):=by
  exact QjF
 clear hn ho hc hp hq;go_enter func121,ntmps121;exact QiK
def zA6{P:Prop}(h:P:=by
  go_enter func148,ntmps148;exact QeJ):P:=h
def JnL(p q:Nat)(a b:Int)(w:World)(ha:Qbc a)(hb:Qbc b)(hp:w.cell? ⟨p,0,none⟩=some (Iv a))(hq:w.cell? ⟨q,0,none⟩=some (Iv b)):
  ∃n ex,(ex=true->n=a-b)/\(ex=false->(a<0->a-b < -9223372036854775808)/\(0<=a->9223372036854775807<a-b))/\Calls prog 148 #[Pt p,Pt q] w (Qci w n ex (decide (a<0))):=by
 unfold Qbc at ha hb
 by_cases hlo:a-b < -9223372036854775808
 ·have hw:wrap64 (a-b)=a-b+18446744073709551616:=by unfold wrap64;omega
  have d1:decide (a<0)=true:=zG zo;have d2:decide (b<0)=false:=zH zo;have d3:decide (a-b+18446744073709551616<0)=false:=zH zo;refine⟨wrap64 (a-b),false,by simp,λ_=>⟨λ_=>hlo,λh=>by omega⟩,?_⟩;rw[d1];have D6:=Zh hlo;clear hlo;exact zA6
 ·by_cases C9:9223372036854775807<a-b
  ·have hw:wrap64 (a-b)=a-b-18446744073709551616:=by unfold wrap64;omega
   have d1:decide (a<0)=false:=zH zo;have d2:decide (b<0)=true:=zG zo;have d3:decide (a-b-18446744073709551616<0)=true:=zG zo;refine⟨wrap64 (a-b),false,by simp,λ_=>⟨λh=>by omega,λ_=>C9⟩,?_⟩;rw[d1];have A5:=Zh C9;clear C9 hlo;exact zA6
  ·have h1:-9223372036854775808<=a-b:=zo;have h2:a-b<=9223372036854775807:=zo;refine⟨a-b,true,λ_=>rfl,by simp,?_⟩;clear hlo C9
   by_cases ca:a<0
   ·have d1:decide (a<0)=true:=zG ca;rw[d1]
    by_cases cb:b<0
    ·have d2:decide (b<0)=true:=zG cb
     skip
     clear ca cb;exact zA6
    ·have d2:decide (b<0)=false:=zH cb;have d3:decide (a-b<0)=true:=zG zo;clear ca cb;exact zA6
   ·have d1:decide (a<0)=false:=zH ca;rw[d1]
    by_cases cb:b<0
    ·have d2:decide (b<0)=true:=zG cb;have d3:decide (a-b<0)=false:=zH zo;clear ca cb;exact zA6
    ·have d2:decide (b<0)=false:=zH cb
     skip
     clear ca cb;exact zA6
def JbM(a b:Int)(w:World)(ha:Qbc a)(hb:Qbc b):Calls prog 120 (yq a b) w (Qcx w (Qca (a-b))):=by
 have xA:∀(fn:Fn)(first cap:Array Value)(w:World),(Instr.makeFunc fn first cap).run prog w=.ok (.func fn first cap) w:=λ_ _ _ _=>rfl
 obtain⟨W,hW⟩:∃W,W=(w.alloc (.cells #[Iv a] 3)).alloc (.cells #[Iv b] 3):=⟨_,rfl⟩
 have lA:yr w W:=by rw[hW];exact(zO.alloc (Nat.le_refl _) _).alloc zq _
 have hp:W.cell? ⟨w.heap.size,0,none⟩=some (Iv a):=by rw[hW];exact YD w _ _ 3 3
 have hq:W.cell? ⟨w.heap.size+1,0,none⟩=some (Iv b):=by rw[hW];exact YE w _ _ 3 3
 obtain⟨n,ex,hn,ho,hc⟩:=JnL w.heap.size (w.heap.size+1) a b W ha hb hp hq;have c:=Qjg _ _ _ _ _ _ hc
 have hR:Hi (Qdc n ex (decide (a<0))=Qca (a-b)):=by
  exact QjF
 clear hn ho hc hp hq;go_enter func120,ntmps120;exact QiK
def Jfs(n:Int)(w:World)(h:Qbc n):Calls prog 152 #[Iv n] w (λe w'=>e=.returned (.int .u64 (n.natAbs:Int))/\w'=w):=by
 unfold Qbc at h
 by_cases h0:n<0
 ·obtain⟨m,hm⟩:=yt n.natAbs
  rw[hm];have hn:n = -(m:Int):=zo;subst hn;have hw:IntKind.u64.wrap (-IntKind.u64.wrap (-(m:Int)))=m:=by rw[IntKind.wrap_u64,IntKind.wrap_u64];omega
  go_enter func152,ntmps152;go_wp2;go_ret;exact⟨rfl,rfl⟩
 ·obtain⟨m,rfl⟩:∃m:Nat,n=m:=⟨n.toNat,by omega⟩
  have hd:decide ((m:Int)<0)=false:=zq;have hm:((m:Int).natAbs:Int)=m:=zq;rw[hm];go_enter func152,ntmps152;go_wp2;go_ret;exact⟨rfl,rfl⟩
def Jky{a b:Int}:((a.natAbs*b.natAbs:Nat):Int)=if (decide (a<0) !=decide (b<0))=true then -(a*b) else a*b:=by
 by_cases ha:a<0
 ·rw[zG ha];obtain⟨m,rfl⟩:∃m:Nat,a = -(m:Int):=⟨a.natAbs,by omega⟩
  by_cases hb:b<0
  ·rw[zG hb];obtain⟨n,rfl⟩:∃n:Nat,b = -(n:Int):=⟨b.natAbs,by omega⟩
   simp[Int.neg_mul_neg]
  ·rw[zH hb];obtain⟨n,rfl⟩:∃n:Nat,b=(n:Int):=⟨b.natAbs,by omega⟩
   simp[Int.neg_mul]
 ·rw[zH ha];obtain⟨m,rfl⟩:∃m:Nat,a=(m:Int):=⟨a.natAbs,by omega⟩
  by_cases hb:b<0
  ·rw[zG hb];obtain⟨n,rfl⟩:∃n:Nat,b = -(n:Int):=⟨b.natAbs,by omega⟩
   simp[Int.mul_neg]
  ·rw[zH hb];obtain⟨n,rfl⟩:∃n:Nat,b=(n:Int):=⟨b.natAbs,by omega⟩
   simp
def ux7{P:Prop}(h:P:=by
  go_enter func150,ntmps150;go_wp2;go_quiet (first|(go_at_call 152;with_reducible refine(h1' _).mono ?_;exact λe w' ⟨he,hw⟩=>⟨he,_,hw⟩)|(go_at_call 152;with_reducible refine(h2' _).mono ?_;exact λe w' ⟨he,hw⟩=>⟨he,_,hw⟩)|(go_at_call 151;refine(h3 _).mono ?_;exact λe w' ⟨he,hw⟩=>⟨he,_,hw⟩));go_wp2;go_ret3
  exact⟨rfl,Ke zO _⟩):P:=h
def QjB{P:Prop}(h:P:=by
  have e1:((z / 18446744073709551616:Nat):Int)=0:=by omega
  have e2:((z % 18446744073709551616:Nat):Int)=z:=by omega
  rw[e1,e2]at h3;have c1:decide (9223372036854775807<(z:Int))=true:=zG (by omega);have HS:=Zh hs;clear hs hxy hz L7 e1 e2 CH
  exact ux7):P:=h
def Qkh{P:Prop}(h:P:=by
  replace hs:(z:Int) = -(a*b):=by simpa using hs
  by_cases hz:z<=9223372036854775807
  ·have c1:decide (9223372036854775807<(z:Int))=false:=zH (by omega);have e1:((z / 18446744073709551616:Nat):Int)=0:=by omega
   have e2:((z % 18446744073709551616:Nat):Int)=z:=by omega
   rw[e1,e2]at h3;refine⟨-(z:Int),true,true,by rw[hs,Int.neg_neg];rfl,?_⟩;have c2:IntKind.i64.wrap (z:Int)=z:=by rw[IntKind.wrap_i64];omega
   have c3:IntKind.i64.wrap (-(z:Int)) = -(z:Int):=by rw[IntKind.wrap_i64];omega
   have HS:=Zh hs;clear hs e1 e2 hxy;exact ux7
  ·have L7:Qdc 0 false true=Qca (a*b):=by
    have h:a*b = -(z:Int):=by omega
    rw[h];unfold Qdc Qca QbO;simp only[Bool.false_eq_true,if_false,if_true];rw[if_pos (by omega)]
   by_cases CH:z / 18446744073709551616=0
   ·refine⟨0,false,true,L7,?_⟩;exact QjB
   ·refine⟨0,false,true,L7,?_⟩;have e1:(((z / 18446744073709551616:Nat):Int) !=0)=true:=by simp only[bne_iff_ne];omega
    have HS:=Zh hs;clear hs hxy hz L7;generalize ((z / 18446744073709551616:Nat):Int)=zh at*;generalize ((z % 18446744073709551616:Nat):Int)=zl at*
    exact ux7):P:=h
def Qkg{P:Prop}(h:P:=by
  replace hs:(z:Int)=a*b:=by simpa using hs
  by_cases hz:z<=9223372036854775807
  ·have c1:decide (9223372036854775807<(z:Int))=false:=zH (by omega);have e1:((z / 18446744073709551616:Nat):Int)=0:=by omega
   have e2:((z % 18446744073709551616:Nat):Int)=z:=by omega
   rw[e1,e2]at h3;refine⟨z,true,false,by rw[hs];rfl,?_⟩;have c2:IntKind.i64.wrap (z:Int)=z:=by rw[IntKind.wrap_i64];omega
   have HS:=Zh hs;clear hs e1 e2 hxy;exact ux7
  ·have L7:Qdc 0 false false=Qca (a*b):=by
    rw[<-hs];unfold Qdc Qca QbO;simp only[Bool.false_eq_true,if_false];rw[if_neg (by omega),if_pos (by omega)]
   by_cases CH:z / 18446744073709551616=0
   ·refine⟨0,false,false,L7,?_⟩;exact QjB
   ·refine⟨0,false,false,L7,?_⟩;have e1:(((z / 18446744073709551616:Nat):Int) !=0)=true:=by simp only[bne_iff_ne];omega
    have HS:=Zh hs;clear hs hxy hz L7;generalize ((z / 18446744073709551616:Nat):Int)=zh at*;generalize ((z % 18446744073709551616:Nat):Int)=zl at*
    exact ux7):P:=h
def JnM(p q:Nat)(a b:Int)(w:World)(ha:Qbc a)(hb:Qbc b)(hp:w.cell? ⟨p,0,none⟩=some (Iv a))(hq:w.cell? ⟨q,0,none⟩=some (Iv b)):
  ∃n ex neg,Qdc n ex neg=Qca (a*b)/\Calls prog 150 #[Pt p,Pt q] w (Qci w n ex neg):=by
 have hs:=Jky (a:=a) (b:=b);have h1:=Jfs a;have h2:=Jfs b;have hx:a.natAbs<18446744073709551616:=by unfold Qbc at ha;omega
 have hy:b.natAbs<18446744073709551616:=by unfold Qbc at hb;omega
 have h3:=Tryz.bits_Mul64 a.natAbs b.natAbs hx hy;have h1':=λW=>h1 W ha
 have h2':=λW=>h2 W hb
 generalize a.natAbs=x at*;generalize b.natAbs=y at*;have hxy:x*y<18446744073709551616*18446744073709551616:=Nat.mul_lt_mul'' hx hy;generalize x*y=z at*;clear h1 h2 ha hb hx hy
 cases U5:decide (a<0)
 ·cases IE:decide (b<0)
  ·rw[U5,IE]at hs;exact Qkg
  ·rw[U5,IE]at hs;exact Qkh
 ·cases IE:decide (b<0)
  ·rw[U5,IE]at hs;exact Qkh
  ·rw[U5,IE]at hs;exact Qkg
def Jih(a b:Int)(w:World)(ha:Qbc a)(hb:Qbc b):Calls prog 123 (yq a b) w (Qcx w (Qca (a*b))):=by
 have yA:∀(fn:Fn)(first cap:Array Value)(w:World),(Instr.makeFunc fn first cap).run prog w=.ok (.func fn first cap) w:=λ_ _ _ _=>rfl
 obtain⟨W,hW⟩:∃W,W=(w.alloc (.cells #[Iv a] 3)).alloc (.cells #[Iv b] 3):=⟨_,rfl⟩
 have lA:yr w W:=by rw[hW];exact(zO.alloc (Nat.le_refl _) _).alloc zq _
 have hp:W.cell? ⟨w.heap.size,0,none⟩=some (Iv a):=by rw[hW];exact YD w _ _ 3 3
 have hq:W.cell? ⟨w.heap.size+1,0,none⟩=some (Iv b):=by rw[hW];exact YE w _ _ 3 3
 obtain⟨n,ex,xA,hn,hc⟩:=JnM w.heap.size (w.heap.size+1) a b W ha hb hp hq;have c:=Qjf _ _ _ _ _ _ hc;have hR:=Zh hn;clear hn hc hp hq;go_enter func123,ntmps123;exact QiK
def QhI{P:Prop}(h:P:=by
  go_enter func147,ntmps147;go_wp2_with (go_at_call 153;refine hc.mono ?_;rintro e w1 ⟨rfl,hb⟩);go_ret
  exact⟨by rw[hN.o];rfl,hb⟩):P:=h
def Qjj(p q:Nat)(w:World)(n:Int)(ex neg:Bool)(hc:Calls prog 153 #[Pt p,Pt q] w (Qci w n ex neg)):
  Calls prog 147 #[.func (.func 153) #[] #[Pt p,Pt q]] w (Qcx w (Qdc n ex neg)):=by
 cases ex
 ·cases neg
  ·have hN:Hi (Qdc n false false=1125899906842624):=rfl;exact QhI
  ·have hN:Hi (Qdc n false true = -1125899906842624):=rfl;exact QhI
 ·have hN:Hi (Qdc n true neg=Qca n):=rfl;have hL:Hi (Qca n=QbO n (-1125899906842624) 1125899906842624):=rfl;go_enter func147,ntmps147;go_wp2_with (first|(go_at_call 153;refine hc.mono ?_;rintro e w1 ⟨rfl,hb⟩)|(go_at_call 163;refine(VE _ _ _ _).mono ?_;rintro e w2 ⟨rfl,rfl⟩));exact zA8
def QhH{P:Prop}(h:P:=by
  go_enter func147,ntmps147;go_wp2_with (go_at_call 154;refine hc.mono ?_;rintro e w1 ⟨rfl,hb⟩);go_ret
  exact⟨by rw[hN.o];rfl,hb⟩):P:=h
def Qji(p q:Nat)(w:World)(n:Int)(ex neg:Bool)(hc:Calls prog 154 #[Pt p,Pt q] w (Qci w n ex neg)):
  Calls prog 147 #[.func (.func 154) #[] #[Pt p,Pt q]] w (Qcx w (Qdc n ex neg)):=by
 cases ex
 ·cases neg
  ·have hN:Hi (Qdc n false false=1125899906842624):=rfl;exact QhH
  ·have hN:Hi (Qdc n false true = -1125899906842624):=rfl;exact QhH
 ·have hN:Hi (Qdc n true neg=Qca n):=rfl;have hL:Hi (Qca n=QbO n (-1125899906842624) 1125899906842624):=rfl;go_enter func147,ntmps147;go_wp2_with (first|(go_at_call 154;refine hc.mono ?_;rintro e w1 ⟨rfl,hb⟩)|(go_at_call 163;refine(VE _ _ _ _).mono ?_;rintro e w2 ⟨rfl,rfl⟩));exact zA8
def Jgh{a b:Int}:-(a.natAbs:Int)<=a.tdiv b/\a.tdiv b<=a.natAbs:=by
 have h:=Int.natAbs_tdiv a b;have h2:(a.tdiv b).natAbs<=a.natAbs:=by rw[h];exact Nat.div_le_self _ _
 omega
def Jgi{a b:Int}:-(a.natAbs:Int)<=a.tmod b/\a.tmod b<=a.natAbs:=by
 have h:=Int.natAbs_tmod a b;have h2:(a.tmod b).natAbs<=a.natAbs:=by rw[h];exact Nat.mod_le _ _
 omega
def Jii{a b:Int}(ha:Qbc a)(h:b≠-1):-9223372036854775808<=a.tdiv b/\a.tdiv b<=9223372036854775807:=by
 unfold Qbc at ha;have h0:=Jgh (a:=a) (b:=b)
 by_cases hm:a = -9223372036854775808
 ·have hn:=Int.natAbs_tdiv a b
  by_cases lC:b=0
  ·subst lC;simp
  ·by_cases L1:b=1
   ·subst L1;rw[Int.tdiv_one];omega
   ·have h2:2<=b.natAbs:=zo;have h3:a.natAbs.div b.natAbs<=a.natAbs / 2:=Nat.div_le_div_left h2 zo;have h4:(a.tdiv b).natAbs<=a.natAbs / 2:=by rw[hn];exact h3
    omega
 ·omega
section
variable (p q:Nat)(a b:Int)(w:World)(ha:Qbc a)(hb:Qbc b)(lC:b≠0)(hp:w.cell? ⟨p,0,none⟩=some (Iv b))(hq:w.cell? ⟨q,0,none⟩=some (Iv a))
include p q a b w ha hb lC hp hq
theorem JnN :
  ∃n ex,Qdc n ex false=Qca (a.tdiv b)/\Calls prog 153 #[Pt p,Pt q] w (Qci w n ex false):=by
 by_cases h1:b = -1
 ·subst h1;have ht:a.tdiv (-1) = -a:=by rw[Int.tdiv_neg,Int.tdiv_one]
  by_cases hm:a = -9223372036854775808
  ·subst hm;refine⟨wrap64 9223372036854775808,false,rfl,?_⟩;clear ht;go_enter func153,ntmps153;exact QeJ
  ·refine⟨-a,true,by rw[ht];rfl,?_⟩;unfold Qbc at ha;have zA:(a == -9223372036854775808)=false:=by simpa using hm
   have xA:(a !=-9223372036854775808)=true:=by simpa using hm
   have T5:-9223372036854775808<=-a:=zo;have yA:-a<=9223372036854775807:=zo;have hw:IntKind.i64.wrap (-a) = -a:=by rw[IntKind.wrap_i64];omega
   clear ht hm;go_enter func153,ntmps153;exact QeJ
 ·refine⟨a.tdiv b,true,rfl,?_⟩;have hr:=Jii ha h1;have T5:=hr.1;have yA:=hr.2;have hw:wrap64 (a.tdiv b)=a.tdiv b:=by unfold wrap64;omega
  have d1:(b == -1)=false:=by simpa using h1
  have d2:(b==0)=false:=by simpa using lC
  clear h1 ha hb hr;go_enter func153,ntmps153;go_wp2;go_ret3;exact⟨rfl,zO⟩
theorem JnO :
  Calls prog 154 #[Pt p,Pt q] w (Qci w (a.tmod b) true false):=by
 by_cases h1:b = -1
 ·subst h1;have ht:a.tmod (-1)=0:=by rw[Int.tmod_neg,Int.tmod_one]
  rw[ht];clear ht;go_enter func154,ntmps154;go_wp2;go_ret3;exact⟨rfl,zO⟩
 ·have hr:=Jgi (a:=a) (b:=b)
  have T5:-9223372036854775808<=a.tmod b:=by
   have hn:=Int.natAbs_tmod a b;unfold Qbc at ha hb;have:(a.tmod b).natAbs<=9223372036854775808:=by rw[hn];have:=Nat.mod_le a.natAbs b.natAbs;omega
   omega
  have yA:a.tmod b<=9223372036854775807:=by
   have hn:=Int.natAbs_tmod a b;unfold Qbc at ha hb;have xA:0<b.natAbs:=zo;have h5:=Nat.mod_lt a.natAbs xA;have:(a.tmod b).natAbs<9223372036854775808:=by rw[hn];omega
   omega
  have hw:wrap64 (a.tmod b)=a.tmod b:=by unfold wrap64;omega
  have d1:(b == -1)=false:=by simpa using h1
  have d2:(b==0)=false:=by simpa using lC
  clear h1 ha hb hr;go_enter func154,ntmps154;go_wp2;go_ret3;exact⟨rfl,zO⟩
end
def Qin(w:World)(n:Int)(ok:Bool)(e:Ending)(w':World):Prop:=e=.returned (.tuple #[Iv n,.bool ok])/\yr w w'
def QhM{P:Prop}(h:P:=by
  go_wp2_with fail;rw[<-hW];clear hW;refine(Calls.mono c ?_);rintro e w1 ⟨rfl,L1⟩;go_wp2;go_ret2
  exact⟨by rfl,lA.trans (L1.mono lA.size)⟩):P:=h
def Jij(a b:Int)(w:World)(ha:Qbc a)(hb:Qbc b):Calls prog 125 (yq a b) w (Qin w (if b=0 then 0 else Qca (a.tdiv b)) (decide (b≠0))):=by
 have xA:∀(fn:Fn)(first cap:Array Value)(w:World),(Instr.makeFunc fn first cap).run prog w=.ok (.func fn first cap) w:=λ_ _ _ _=>rfl
 obtain⟨W,hW⟩:∃W,W=(w.alloc (.cells #[Iv a] 3)).alloc (.cells #[Iv b] 3):=⟨_,rfl⟩
 have lA:yr w W:=by rw[hW];exact(zO.alloc zP _).alloc zq _
 by_cases h0:b=0
 ·subst h0;clear hW;go_enter func125,ntmps125;go_wp2;go_ret2;exact⟨rfl,(zO.alloc zP _).alloc zq _⟩
 ·have hp:W.cell? ⟨w.heap.size,0,none⟩=some (Iv a):=by rw[hW];exact YD w _ _ 3 3
  have hq:W.cell? ⟨w.heap.size+1,0,none⟩=some (Iv b):=by rw[hW];exact YE w _ _ 3 3
  obtain⟨n,ex,hn,hc⟩:=JnN (w.heap.size+1) w.heap.size a b W ha hb h0 hq hp;have c:=Qjj _ _ _ _ _ _ hc;clear hc hp hq;go_enter func125,ntmps125;exact QhM
def Jik(a b:Int)(w:World)(ha:Qbc a)(hb:Qbc b):Calls prog 126 (yq a b) w (Qin w (if b=0 then 0 else Qca (a.tmod b)) (decide (b≠0))):=by
 have xA:∀(fn:Fn)(first cap:Array Value)(w:World),(Instr.makeFunc fn first cap).run prog w=.ok (.func fn first cap) w:=λ_ _ _ _=>rfl
 obtain⟨W,hW⟩:∃W,W=(w.alloc (.cells #[Iv a] 3)).alloc (.cells #[Iv b] 3):=⟨_,rfl⟩
 have lA:yr w W:=by rw[hW];exact(zO.alloc zP _).alloc zq _
 by_cases h0:b=0
 ·subst h0;clear hW;go_enter func126,ntmps126;go_wp2;go_ret2;exact⟨rfl,(zO.alloc zP _).alloc zq _⟩
 ·have hp:W.cell? ⟨w.heap.size,0,none⟩=some (Iv a):=by rw[hW];exact YD w _ _ 3 3
  have hq:W.cell? ⟨w.heap.size+1,0,none⟩=some (Iv b):=by rw[hW];exact YE w _ _ 3 3
  have hc:=JnO (w.heap.size+1) w.heap.size a b W ha hb h0 hq hp;have c:=Qji _ _ _ _ _ _ hc;clear hc hp hq;go_enter func126,ntmps126;exact QhM
def Qbx(W:World)(v:Value)(l:List (By×Int)):Prop:=Qan W (In W) (λa c=>c=[.string (bs a.1),Iv a.2]) l v
def QaT(W:World)(v:Value)(l:List By):Prop:=Qan W (In W) (λa c=>c=[Sv a]) l v
variable{W:World}{l:List (By×Int)}{v u sv cv:Value}
def Qbx.up{w:World}(h:Qbx w v l)(hb:yr w W):Qbx W v l:=Qan.keep (λb hP=>hb.block b hP) (λb hP=>In.up hb hP) (λa c h=>h) h
def QaT.up{w:World}{l:List By}(h:QaT w v l)(hb:yr w W):QaT W v l:=Qan.keep (λb hP=>hb.block b hP) (λb hP=>In.up hb hP) (λa c h=>h) h
def Qbx.form(h:Qbx W v l):∃ad cc,v=.slice ad l.length cc/\l.length<=cc:=by
 obtain⟨ad,cc,h1,h2,_⟩:=Qan.get (m:=2) (λa c h=>by rw[h];rfl) h;exact⟨ad,cc,h1,h2⟩
def QaT.form{l:List By}(h:QaT W v l):∃ad cc,v=.slice ad l.length cc/\l.length<=cc:=by
 obtain⟨ad,cc,h1,h2,_⟩:=Qan.get (m:=1) (λa c h=>by rw[h];rfl) h;exact⟨ad,cc,h1,h2⟩
variable{p m e sz T j c:Nat}
def Qbx.get{ad:Option Addr}{cc:Nat}(h:Qbx W (.slice ad m cc) l){i:Nat}{a:By×Int}(hi:l[i]?=some a):∃b o,ad=some ⟨b,o,none⟩/\b<W.heap.size/\W.cell? ⟨b,o+i*2,none⟩=some (.string (bs a.1))/\W.cell? ⟨b,o+i*2+1,none⟩=some (Iv a.2):=by
 obtain⟨xA,yA,h1,_,h3⟩:=Qan.get (m:=2) (λa c h=>by rw[h];rfl) h;injection h1 with e1 e2 e3;subst e1;exact QhP
def QaT.get{ad:Option Addr}{cc:Nat}{l:List By}(h:QaT W (.slice ad m cc) l){i:Nat}{a:By}(hi:l[i]?=some a):∃b o,ad=some ⟨b,o,none⟩/\b<W.heap.size/\W.cell? ⟨b,o+i,none⟩=some (Sv a):=by
 obtain⟨xA,yA,h1,_,h3⟩:=Qan.get (m:=1) (λa c h=>by rw[h];rfl) h;injection h1 with e1 e2 e3;subst e1;exact QjH
def QaI(F:Qaj)(lv wv:Value):Array Value:=#[lv,Iv F.likes,Iv F.boosts,Iv F.replies,Iv F.reports,Iv F.age,Iv F.home,Iv F.scope,Iv F.length,.bool F.follows,.bool F.reply,wv]
structure Qbw where
 w0:World
 p:Nat
 fa:Option Addr
 fc:Nat
 ca:Option Addr
 cc:Nat
 la:Option Addr
 lc:Nat
 wa:Option Addr
 wc:Nat
 r:Qah
 F:Qaj
def Qbw.cells(K:Qbw)(u c:Nat):Array Value:=#[.slice K.fa K.r.funcs.length K.fc,.slice K.ca K.r.clauses.length K.cc,Iv K.r.action,
 .slice K.la K.F.labels.length K.lc,Iv K.F.likes,Iv K.F.boosts,Iv K.F.replies,Iv K.F.reports,Iv K.F.age,Iv K.F.home,Iv K.F.scope,Iv K.F.length,.bool K.F.follows,.bool K.F.reply,.slice K.wa K.F.words.length K.wc,
 Iv u,Iv c]
structure FSz(F:Qaj):Prop where
 nl:F.labels.length<=200000000000000
 nw:F.words.length<=200000000000000
structure Qbw.Ok(K:Qbw):Prop where
 fns:Qcy K.w0 (.slice K.fa K.r.funcs.length K.fc) K.r.funcs
 cls:QdL K.w0 (.slice K.ca K.r.clauses.length K.cc) K.r.clauses
 labs:Qbx K.w0 (.slice K.la K.F.labels.length K.lc) K.F.labels
 words:QaT K.w0 (.slice K.wa K.F.words.length K.wc) K.F.words
 rsz:RSz K.r
 fsz:FSz K.F
 tr:Qbq K.r=true
 ty:Qbz K.r=true
 facts:QaF K.F=true
 num:K.w0.heap.size<=K.p
structure Qcw(K:Qbw)(W:World)(u c:Nat):Prop where
 self:W.heap[K.p]?=some (.cells (K.cells u c) 100 (0,0))
 bel:Bel K.w0 W
section
variable {K:Qbw}{W W':World}{u c:Nat}
def Qcw.lt(h:Qcw K W u c):K.p<W.heap.size:=Jb h.self
def Qcw.up(h:Qcw K W u c)(hb:yr W W'):Qcw K W' u c:=⟨(hb.block _ h.lt).trans h.self,Jd h.bel hb⟩
def Qcw.drew(h:Qcw K W u c):Qcw K W.drew u c:=⟨h.self,h.bel.drew⟩
def Qcw.setU(hk:K.Ok)(h:Qcw K W u c)(u':Nat):Qcw K (W.setCell ⟨K.p,15,none⟩ (Iv u')) u' c:=by
 refine⟨?_,Below.setCell h.bel hk.num _⟩;rw[Jm h.self];rfl
def Qcw.setC(hk:K.Ok)(h:Qcw K W u c)(c':Nat):Qcw K (W.setCell ⟨K.p,16,none⟩ (Iv c')) u c':=by
 refine⟨?_,Below.setCell h.bel hk.num _⟩;rw[Jm h.self];rfl
end
def EvP(K:Qbw)(W:World)(c:Nat):RN Int->Ending->World->Prop
 |.val v u,e,w'=>e=.returned (Iv v)/\Qcw K w' u c/\Chg [K.p] W w'
 |.fault er u,e,w'=>e=.panicked [{v:=.iface 101 (Iv er),recovered:=false}]/\(∃c',Qcw K w' u c')/\Chg [K.p] W w'
def JbN(b:Bool)(w:World):Calls prog 138 #[.bool b] w (Qei (Iv (Qcs b)) w):=by
 cases b with
 |false=>
  go_enter func138,ntmps138;go_wp2;go_ret;exact⟨rfl,rfl⟩
 |true=>
  go_enter func138,ntmps138;go_wp2;go_ret;exact⟨rfl,rfl⟩
def Jgj(n:Int)(w:World):Calls prog 139 #[Iv n,.bool true] w (Qei (Iv n) w):=by
 go_enter func139,ntmps139;go_wp2;go_ret;exact⟨rfl,rfl⟩
def Jgk(n:Int)(w:World):Calls prog 139 #[Iv n,.bool false] w (λe w'=>e=.panicked [{v:=.iface 101 (Iv 1),recovered:=false}]/\w'=w):=by
 go_enter func139,ntmps139;go_wp2;exact⟨rfl,rfl,rfl⟩
def Qes(K:Qbw)(W:World)(u c:Nat)(e:Ending)(w':World):Prop:=
 if u=10000 then e=.panicked [{v:=.iface 101 (Iv 14),recovered:=false}]/\w'=W
 else e=.returned (.tuple #[])/\Qcw K w' (u+1) c/\Chg [K.p] W w'
def Jaj(K:Qbw)(hk:K.Ok)(W:World)(u c:Nat)(h:Qcw K W u c)(hu:u<=10000):Calls prog 43 #[Pt K.p] W (Qes K W u c):=by
 have xA:=Ja h.self 15;have zA:=Jc h.self 15;have hlt:=h.lt;have HS:=Zh (h.setU hk (u+1));have HC:Hi (Chg [K.p] W (W.setCell ⟨K.p,15,none⟩ (Iv ((u+1:Nat):Int)))):=(Chg.refl _ _).setCell (.inl zq) _;rw[show (K.cells u c)[15]?=some (Iv u) from rfl]at xA;rw[Int.natCast_add,Int.natCast_one]at HS HC;clear h
 by_cases h:u=10000
 ·have hq:Qes K W u c=λe w'=>e=.panicked [{v:=.iface 101 (Iv 14),recovered:=false}]/\w'=W:=by
   funext e w'
   unfold Qes;rw[if_pos h]
  rw[hq];clear hq;subst h;rw[show ((10000:Nat):Int)=10000 from rfl]at xA;clear HS HC;go_enter func43,ntmps43;go_wp2;exact⟨rfl,rfl,rfl⟩
 ·have hq:Qes K W u c=λe w'=>e=.returned (.tuple #[])/\Qcw K w' (u+1) c/\Chg [K.p] W w':=by
   funext e w'
   unfold Qes;rw[if_neg h]
  rw[hq];clear hq;have e0:((u:Int)==10000)=false:=zM zo;have yA:(u==10000)=false:=zM h;have wu:=zI u;clear h;go_enter func43,ntmps43;go_wp2;go_end0;exact⟨rfl,HS.o,HC.o⟩
def Jil(F:Qaj)(s:By):QcM F s=if s=Qco then F.likes else if s=Qch then F.boosts else if s=QbD then F.replies else if s=QbC then F.reports
 else if s=QfI then F.age else if s=QdQ then F.home else if s=QcS then F.scope else if s=Qcg then F.length
 else if s=QbE then Qcs F.follows else Qcs F.reply:=rfl
def zA5{P:Prop}(h:P:=by
  go_wp2;go_ret;refine⟨rfl,?_⟩;exact HB.o):P:=h
def Jim(K:Qbw)(hk:K.Ok)(W:World)(u c:Nat)(h:Qcw K W u c)(s:By):Calls prog 103 #[Pt K.p,Sv s] W (Qbj W (Iv (QcM K.F s))):=by
 have u1:=Jj s;rw[Jil];have hb:yr W (W.alloc (.cells (QaI K.F (.slice K.la K.F.labels.length K.lc) (.slice K.wa K.F.words.length K.wc)) 45)):=zO.alloc (Nat.le_refl _) _;have HB:=Zh hb;have A0:=Zh (zQ W (.cells (QaI K.F (.slice K.la K.F.labels.length K.lc) (.slice K.wa K.F.words.length K.wc)) 45));have hrow:=λj=>Ja h.self j
 unfold QaI at HB A0;have b3:W.cell? ⟨K.p,3,none⟩=some (.slice K.la K.F.labels.length K.lc):=hrow 3;have b4:W.cell? ⟨K.p,4,none⟩=some (Iv K.F.likes):=hrow 4;have b5:W.cell? ⟨K.p,5,none⟩=some (Iv K.F.boosts):=hrow 5;have b6:W.cell? ⟨K.p,6,none⟩=some (Iv K.F.replies):=hrow 6;have b7:W.cell? ⟨K.p,7,none⟩=some (Iv K.F.reports):=hrow 7;have b8:W.cell? ⟨K.p,8,none⟩=some (Iv K.F.age):=hrow 8;have b9:W.cell? ⟨K.p,9,none⟩=some (Iv K.F.home):=hrow 9;have b10:W.cell? ⟨K.p,10,none⟩=some (Iv K.F.scope):=hrow 10;have b11:W.cell? ⟨K.p,11,none⟩=some (Iv K.F.length):=hrow 11;have zA:W.cell? ⟨K.p,12,none⟩=some (.bool K.F.follows):=hrow 12;have yA:W.cell? ⟨K.p,13,none⟩=some (.bool K.F.reply):=hrow 13;have xA:W.cell? ⟨K.p,14,none⟩=some (.slice K.wa K.F.words.length K.wc):=hrow 14;have vA:=λW=>JbN K.F.follows W
 have uA:=λW=>JbN K.F.reply W
 generalize Qcs K.F.follows=xf at*;generalize Qcs K.F.reply=xr at*;generalize K.F.likes=xLikes at*;generalize K.F.boosts=xBoosts at*;generalize K.F.replies=xReplies at*;generalize K.F.reports=xReports at*;generalize K.F.age=xAge at*;generalize K.F.home=xHome at*;generalize K.F.scope=xScope at*;generalize K.F.length=xLength at*;generalize K.F.follows=xFollows at*;generalize K.F.reply=xReply at*;generalize K.F.labels.length=nl at*;generalize K.F.words.length=nw at*;clear hrow h hb
 by_cases h0:s=Qco
 ·have e0:(s==[108,105,107,101,115])=true:=zN h0;rw[if_pos h0];clear h0;go_enter func103,ntmps103;go_upto_region 2 with fail;clear b3 b4 b5 b6 b7 b8 b9 b10 b11 zA yA xA;generalize World.alloc W _=w1 at*;generalize C3:W.heap.size=cb at*;have c1:=Ja A0.o 1;simp only[zW]at c1;exact zA5
 have e0:(s==[108,105,107,101,115])=false:=zM h0;rw[if_neg h0]
 by_cases h1:s=Qch
 ·have e1:(s==[98,111,111,115,116,115])=true:=zN h1;rw[if_pos h1];clear h0 h1;go_enter func103,ntmps103;go_upto_region 2 with fail;clear b3 b4 b5 b6 b7 b8 b9 b10 b11 zA yA xA;generalize World.alloc W _=w1 at*;generalize C3:W.heap.size=cb at*;have c2:=Ja A0.o 2;simp only[zW]at c2;exact zA5
 have e1:(s==[98,111,111,115,116,115])=false:=zM h1;rw[if_neg h1]
 by_cases h2:s=QbD
 ·have e2:(s==[114,101,112,108,105,101,115])=true:=zN h2;rw[if_pos h2];clear h0 h1 h2;go_enter func103,ntmps103;go_upto_region 2 with fail;clear b3 b4 b5 b6 b7 b8 b9 b10 b11 zA yA xA;generalize World.alloc W _=w1 at*;generalize C3:W.heap.size=cb at*;have c3:=Ja A0.o 3;simp only[zW]at c3;exact zA5
 have e2:(s==[114,101,112,108,105,101,115])=false:=zM h2;rw[if_neg h2]
 by_cases h3:s=QbC
 ·have e3:(s==[114,101,112,111,114,116,115])=true:=zN h3;rw[if_pos h3];clear h0 h1 h2 h3;go_enter func103,ntmps103;go_upto_region 2 with fail;clear b3 b4 b5 b6 b7 b8 b9 b10 b11 zA yA xA;generalize World.alloc W _=w1 at*;generalize C3:W.heap.size=cb at*;have c4:=Ja A0.o 4;simp only[zW]at c4;exact zA5
 have e3:(s==[114,101,112,111,114,116,115])=false:=zM h3;rw[if_neg h3]
 by_cases h4:s=QfI
 ·have e4:(s==[97,103,101])=true:=zN h4;rw[if_pos h4];clear h0 h1 h2 h3 h4;go_enter func103,ntmps103;go_upto_region 2 with fail;clear b3 b4 b5 b6 b7 b8 b9 b10 b11 zA yA xA;generalize World.alloc W _=w1 at*;generalize C3:W.heap.size=cb at*;have c5:=Ja A0.o 5;simp only[zW]at c5;exact zA5
 have e4:(s==[97,103,101])=false:=zM h4;rw[if_neg h4]
 by_cases h5:s=QdQ
 ·have e5:(s==[104,111,109,101])=true:=zN h5;rw[if_pos h5];clear h0 h1 h2 h3 h4 h5;go_enter func103,ntmps103;go_upto_region 2 with fail;clear b3 b4 b5 b6 b7 b8 b9 b10 b11 zA yA xA;generalize World.alloc W _=w1 at*;generalize C3:W.heap.size=cb at*;have c6:=Ja A0.o 6;simp only[zW]at c6;exact zA5
 have e5:(s==[104,111,109,101])=false:=zM h5;rw[if_neg h5]
 by_cases h6:s=QcS
 ·have e6:(s==[115,99,111,112,101])=true:=zN h6;rw[if_pos h6];clear h0 h1 h2 h3 h4 h5 h6;go_enter func103,ntmps103;go_upto_region 2 with fail;clear b3 b4 b5 b6 b7 b8 b9 b10 b11 zA yA xA;generalize World.alloc W _=w1 at*;generalize C3:W.heap.size=cb at*;have c7:=Ja A0.o 7;simp only[zW]at c7;exact zA5
 have e6:(s==[115,99,111,112,101])=false:=zM h6;rw[if_neg h6]
 by_cases h7:s=Qcg
 ·have e7:(s==[108,101,110,103,116,104])=true:=zN h7;rw[if_pos h7];clear h0 h1 h2 h3 h4 h5 h6 h7;go_enter func103,ntmps103;go_upto_region 2 with fail;clear b3 b4 b5 b6 b7 b8 b9 b10 b11 zA yA xA;generalize World.alloc W _=w1 at*;generalize C3:W.heap.size=cb at*;have c8:=Ja A0.o 8;simp only[zW]at c8;exact zA5
 have e7:(s==[108,101,110,103,116,104])=false:=zM h7;rw[if_neg h7]
 by_cases h8:s=QbE
 ·have e8:(s==[102,111,108,108,111,119,115])=true:=zN h8;rw[if_pos h8];clear h0 h1 h2 h3 h4 h5 h6 h7 h8;go_enter func103,ntmps103;go_upto_region 2 with fail;clear b3 b4 b5 b6 b7 b8 b9 b10 b11 zA yA xA;generalize World.alloc W _=w1 at*;generalize C3:W.heap.size=cb at*;have c9:=Ja A0.o 9;simp only[zW]at c9;go_wp2_with fail;refine(vA _).mono ?_;rintro e w3 ⟨rfl,rfl⟩;exact zA5
 have e8:(s==[102,111,108,108,111,119,115])=false:=zM h8;rw[if_neg h8];clear h0 h1 h2 h3 h4 h5 h6 h7 h8;go_enter func103,ntmps103;go_upto_region 2 with fail;clear b3 b4 b5 b6 b7 b8 b9 b10 b11 zA yA xA;generalize World.alloc W _=w1 at*;generalize C3:W.heap.size=cb at*;have aA:=Ja A0.o 10;simp only[zW]at aA;go_wp2_with fail;refine(uA _).mono ?_;rintro e w3 ⟨rfl,rfl⟩;exact zA5
def Jin(a:By)(l:List By)(s:By):QcZ (a::l) s=if a=s then 1 else QcZ l s:=by
 unfold QcZ Qcs
 by_cases h:a=s
 ·subst h;simp
 ·rw[if_neg h]
  have:(decide (s∈a::l))=decide (s∈l):=by
   have hs:¬s=a:=λe=>h e.symm
   simp[hs]
  rw[this]
def Jio(K:Qbw)(hk:K.Ok)(W:World)(u c:Nat)(h:Qcw K W u c)(s:By):Calls prog 105 #[Pt K.p,Sv s] W (Qei (Iv (QcZ K.F.words s)) W):=by
 have u1:=Jj s;obtain⟨q,hq⟩:=yt (QcZ K.F.words s)
 rw[hq];have HQ:Hi (QcZ (K.F.words.drop 0) s=q):=hq;have hw:=hk.words.up h.bel;have hn:=hk.fsz.nw;have zA:W.cell? ⟨K.p,14,none⟩=some (.slice K.wa K.F.words.length K.wc):=Ja h.self 14;obtain⟨n,yA⟩:=yt K.F.words.length
 rw[yA]at hw hn zA;have HW:=Zh hw;have HL:=Zh yA;have HN:=Zh hn;clear hw hq yA h hn;generalize K.wa=wa at*;generalize K.wc=wc at*;go_enter func105,ntmps105;go_wp2;clear zA;go_loop [13] (λv=>∃k:Nat,v=Iv k/\k<=n/\Hi (QcZ (K.F.words.drop k) s=q)) λv=>n-(intOf v).toNat
 case atStart=>exact⟨0,rfl,Nat.zero_le _,HQ⟩
 case round=>
 clear HQ;obtain⟨k,rfl,hkn,hz⟩:=hrel;have wk:IntKind.i64.wrap ((k:Int)+1)=(k:Int)+1:=IntWalk.i64_in _ (zu HN.o)
 by_cases hi:k<n
 ·have hil:(k:Int)<(n:Int):=zo;have hlt:k<K.F.words.length:=by rw[HL.o];exact hi
  obtain⟨a,ha⟩:∃a,K.F.words[k]?=some a:=⟨K.F.words[k]'hlt,List.getElem?_eq_getElem _⟩
  obtain⟨b,o,vA,hb,hc⟩:=HW.o.get ha;have xA:=hz.o;rw[List.drop_eq_getElem_cons hlt,Jin]at xA;have uA:K.F.words[k]=a:=by rw[List.getElem?_eq_getElem hlt]at ha;exact Option.some.inj ha
  rw[uA]at xA;have u2:=Jj a;clear ha uA hz hlt hb
  by_cases e:a=s
  ·have ee:(a==s)=true:=zN e;rw[if_pos e]at xA;subst xA;subst vA;clear e;go_wp2;go_ret;exact⟨rfl,rfl⟩
  ·have ee:(a==s)=false:=zM e;rw[if_neg e]at xA;have HZ:=Zh xA;subst vA;clear e xA;go_wp2;go_round
   case rel=>exact⟨k+1,by go_num,hi,HZ⟩
   case measure=>simp[intOf];omega
 ·have hil:¬(k:Int)<(n:Int):=zo;have xA:=hz.o;rw[List.drop_of_length_le (by rw[HL.o];omega)]at xA;have aA:q=0:=by rw[<-xA];rfl
  subst aA;clear hz xA hi hkn;go_wp2;go_ret;exact⟨rfl,rfl⟩
def QhB{P:Prop}(h:P:=by
  go_wp2;go_roundg (n-(k+1))
  case measure=>have:=HG.o;have:=A5.o;omega
  case rel=>exact⟨k+1,by have:=A5.o;omega,by go_num,A6,HZ⟩):P:=h
def Jgl(K:Qbw)(hk:K.Ok)(W:World)(u c:Nat)(h:Qcw K W u c)(s:By):Calls prog 104 #[Pt K.p,Sv s] W (Qbj W (Iv (Qcm K.F.labels s))):=by
 have u1:=Jj s;obtain⟨q,hq⟩:=yt (Qcm K.F.labels s)
 rw[hq];have HQ:Hi (Qcm (K.F.labels.drop 0) s=q):=hq;have hw:=hk.labs.up h.bel;have hn:=hk.fsz.nl;have b3:W.cell? ⟨K.p,3,none⟩=some (.slice K.la K.F.labels.length K.lc):=Ja h.self 3;obtain⟨n,yA⟩:=yt K.F.labels.length
 rw[yA]at hw hn b3;have HW:=Zh hw;have HL:=Zh yA;have HN:=Zh hn;have H5:Hi (Bel W W):=zO;clear hw hq yA h hn;generalize K.la=la at*;generalize K.lc=lc at*;go_enter func104,ntmps104;go_wp2_with fail;clear b3;go_loopg [13] n λg v13 wr=>∃k:Nat,g+k=n/\v13=Iv k/\Hi (Bel W wr)/\Hi (Qcm (K.F.labels.drop k) s=q)
 case atStart=>exact⟨0,rfl,rfl,H5,HQ⟩
 case round=>
 clear HQ H5;obtain⟨wl,rfl⟩:=zJ wr;obtain⟨k,hg,rfl,G1,hz⟩:=hrel;have wk:IntKind.i64.wrap ((k:Int)+1)=(k:Int)+1:=IntWalk.i64_in _ (zu HN.o)
 by_cases hi:k<n
 ·have hil:(k:Int)<(n:Int):=zo;have hlt:k<K.F.labels.length:=by rw[HL.o];exact hi
  obtain⟨a,ha⟩:∃a,K.F.labels[k]?=some a:=⟨K.F.labels[k]'hlt,List.getElem?_eq_getElem _⟩
  have zA:Qbx wl (.slice la n lc) K.F.labels:=HW.o.up G1.o;obtain⟨b,o,vA,hb,hc,S1⟩:=zA.get ha;have xA:=hz.o;rw[List.drop_eq_getElem_cons hlt]at xA;have uA:K.F.labels[k]=a:=by rw[List.getElem?_eq_getElem hlt]at ha;exact Option.some.inj ha
  rw[uA]at xA;obtain⟨nm,ct⟩:=a;dsimp only at hc S1;rw[Qcm]at xA;dsimp only at xA;have u2:=Jj nm;have A6:Hi (Bel W (wl.alloc (.cells #[Sv nm,Iv ct] 82))):=Below.alloc G1.o G1.o.size _;have HG:=Zh hg;clear ha uA hz hlt hb zA hg
  by_cases e:nm=s
  ·have ee:(nm==s)=true:=zN e;rw[if_pos e]at xA;subst xA;subst vA;clear e;go_wp2;go_ret;exact⟨rfl,A6.o⟩
  ·have ee:(nm==s)=false:=zM e;rw[if_neg e]at xA;have HZ:=Zh xA;have A5:=Zh hi;subst vA;clear e xA hi;exact QhB
 ·have hil:¬(k:Int)<(n:Int):=zo;have xA:=hz.o;rw[List.drop_of_length_le (by rw[HL.o];omega)]at xA;have aA:q=0:=by rw[<-xA];rfl
  subst aA;have A6:=Zh G1.o;clear hz xA hi hg G1;go_wp2;go_ret;exact⟨rfl,A6.o⟩
def Qed(w:World)(x:RN Int)(e:Ending)(w':World):Prop:=
 match x with
 |.val v u=>e=.returned (Iv v)/\yr w w'
 |.fault er u=>e=.panicked [{v:=.iface 101 (Iv er),recovered:=false}]/\yr w w'
def QiL{P:Prop}(h:P:=by
  clear hq hg ha hb;go_enter func107,ntmps107;go_wp2_with fail;refine cn.mono ?_;rintro e w3 ⟨rfl,R0⟩;have HX:=Zh R0;clear cn R0 c0 c1;go_wp2;go_ret
  exact⟨rfl,HX.o⟩):P:=h
def Jmy(vv:Value)(g o n cc:Nat)(a b:Int)(w:World)
  (hp:vv=.slice (some ⟨g,o,none⟩) n cc) (hg:2<=n) (c0:w.cell? ⟨g,o,none⟩=some (Iv a)) (c1:w.cell? ⟨g,o+1,none⟩=some (Iv b)) (ha:Qbc a) (hb:Qbc b) (u:Nat):Calls prog 107 #[Iv 8,vv] w (Qed w (Qax 8 a b u)):=by
 subst hp;have hq:Qed w (Qax 8 a b u)=λe w'=>e=.returned (Iv (Qca (a+b)))/\yr w w':=rfl
 rw[hq];have R4:(0:Int)<(n:Int):=zo;have P4:(1:Int)<(n:Int):=zo;have G9:0<n:=zo;have s9:1<n:=zo;have HA:=Zh ha;have A4:=Zh hb;have cn:=Jfr a b w ha hb;exact QiL
def Jmz(vv:Value)(g o n cc:Nat)(a b:Int)(w:World)
  (hp:vv=.slice (some ⟨g,o,none⟩) n cc) (hg:2<=n) (c0:w.cell? ⟨g,o,none⟩=some (Iv a)) (c1:w.cell? ⟨g,o+1,none⟩=some (Iv b)) (ha:Qbc a) (hb:Qbc b) (u:Nat):Calls prog 107 #[Iv 9,vv] w (Qed w (Qax 9 a b u)):=by
 subst hp;have hq:Qed w (Qax 9 a b u)=λe w'=>e=.returned (Iv (Qca (a-b)))/\yr w w':=rfl
 rw[hq];have R4:(0:Int)<(n:Int):=zo;have P4:(1:Int)<(n:Int):=zo;have G9:0<n:=zo;have s9:1<n:=zo;have HA:=Zh ha;have A4:=Zh hb;have cn:=JbM a b w ha hb;exact QiL
def Jkz(vv:Value)(g o n cc:Nat)(a b:Int)(w:World)
  (hp:vv=.slice (some ⟨g,o,none⟩) n cc) (hg:2<=n) (c0:w.cell? ⟨g,o,none⟩=some (Iv a)) (c1:w.cell? ⟨g,o+1,none⟩=some (Iv b)) (ha:Qbc a) (hb:Qbc b) (u:Nat):Calls prog 107 #[Iv 10,vv] w (Qed w (Qax 10 a b u)):=by
 subst hp;have hq:Qed w (Qax 10 a b u)=λe w'=>e=.returned (Iv (Qca (a*b)))/\yr w w':=rfl
 rw[hq];have R4:(0:Int)<(n:Int):=zo;have P4:(1:Int)<(n:Int):=zo;have G9:0<n:=zo;have s9:1<n:=zo;have HA:=Zh ha;have A4:=Zh hb;have cn:=Jih a b w ha hb;exact QiL
def QjJ{P:Prop}(h:P:=by
  rw[hq];rw[if_pos hz,zH (λh=>h hz)]at cn;have cd:=λW=>Jgk 0 W
  have HZ:=Zh hz;clear hz hq;go_enter func107,ntmps107;go_wp2_with fail;refine cn.mono ?_;rintro e w3 ⟨rfl,R0⟩;have HX:=Zh R0;clear cn R0 c0 c1;go_wp2_with fail;refine(cd _).mono ?_;rintro e w4 ⟨rfl,rfl⟩;refine⟨rfl,?_⟩
  exact⟨rfl,HX.o⟩):P:=h
def QjI{P:Prop}(h:P:=by
  rw[hq];rw[if_neg hz,zG hz]at cn;have cd:=λn W=>Jgj n W
  have HZ:=Zh hz;clear hz hq;go_enter func107,ntmps107;go_wp2_with fail;refine cn.mono ?_;rintro e w3 ⟨rfl,R0⟩;have HX:=Zh R0;clear cn R0 c0 c1;go_wp2_with fail;refine(cd _ _).mono ?_;rintro e w4 ⟨rfl,rfl⟩;clear cd;go_wp2;go_ret
  exact⟨rfl,HX.o⟩):P:=h
def JkA(vv:Value)(g o n cc:Nat)(a b:Int)(w:World)
  (hp:vv=.slice (some ⟨g,o,none⟩) n cc) (hg:2<=n) (c0:w.cell? ⟨g,o,none⟩=some (Iv a)) (c1:w.cell? ⟨g,o+1,none⟩=some (Iv b)) (ha:Qbc a) (hb:Qbc b) (u:Nat):Calls prog 107 #[Iv 11,vv] w (Qed w (Qax 11 a b u)):=by
 subst hp;have R4:(0:Int)<(n:Int):=zo;have P4:(1:Int)<(n:Int):=zo;have G9:0<n:=zo;have s9:1<n:=zo;have HA:=Zh ha;have A4:=Zh hb;have cn:=Jij a b w ha hb;clear hg ha hb
 by_cases hz:b=0
 ·have hq:Qax 11 a b u=.fault 1 u:=by rw[hz];rfl
  exact QjJ
 ·have hq:Qax 11 a b u=.val (Qca (a.tdiv b)) u:=by
   have:Qax 11 a b u=if b=0 then .fault 1 u else .val (clI (a.tdiv b)) u:=rfl;rw[this,if_neg hz];rfl
  exact QjI
def JkB(vv:Value)(g o n cc:Nat)(a b:Int)(w:World)
  (hp:vv=.slice (some ⟨g,o,none⟩) n cc) (hg:2<=n) (c0:w.cell? ⟨g,o,none⟩=some (Iv a)) (c1:w.cell? ⟨g,o+1,none⟩=some (Iv b)) (ha:Qbc a) (hb:Qbc b) (u:Nat):Calls prog 107 #[Iv 12,vv] w (Qed w (Qax 12 a b u)):=by
 subst hp;have R4:(0:Int)<(n:Int):=zo;have P4:(1:Int)<(n:Int):=zo;have G9:0<n:=zo;have s9:1<n:=zo;have HA:=Zh ha;have A4:=Zh hb;have cn:=Jik a b w ha hb;clear hg ha hb
 by_cases hz:b=0
 ·have hq:Qax 12 a b u=.fault 1 u:=by rw[hz];rfl
  exact QjJ
 ·have hq:Qax 12 a b u=.val (Qca (a.tmod b)) u:=by
   have:Qax 12 a b u=if b=0 then .fault 1 u else .val (clI (a.tmod b)) u:=rfl;rw[this,if_neg hz];rfl
  exact QjI
def QjO{P:Prop}(h:P:=by
  have cb:=λW=>JbN x W
  clear hq hg ha hb;go_enter func107,ntmps107;go_wp2_with fail;refine(cb _).mono ?_;rintro e w3 ⟨rfl,rfl⟩;clear cb c0 c1;go_wp2;go_ret
  exact⟨rfl,zO⟩):P:=h
def QhS{P:Prop}(h:P:=by
  rw[hq];have R4:(0:Int)<(n:Int):=by omega
  have P4:(1:Int)<(n:Int):=by omega
  have G9:0<n:=by omega
  have s9:1<n:=by omega
  have HA:=Zh ha;have A4:=Zh hb
  exact QjO):P:=h
section
variable (vv:Value)(g o n cc:Nat)(a b:Int)(w:World)
include vv g o n cc a b w
theorem JkC
  (hp:vv=.slice (some ⟨g,o,none⟩) n cc) (hg:2<=n) (c0:w.cell? ⟨g,o,none⟩=some (Iv a)) (c1:w.cell? ⟨g,o+1,none⟩=some (Iv b)) (ha:Qbc a) (hb:Qbc b) (u:Nat):Calls prog 107 #[Iv 13,vv] w (Qed w (Qax 13 a b u)):=by
 subst hp;obtain⟨x,hx⟩:=yt (decide (a<b))
 have hq:Qed w (Qax 13 a b u)=λe w'=>e=.returned (Iv (Qcs x))/\yr w w':=by rw[<-hx];rfl
 exact QhS
theorem JkD
  (hp:vv=.slice (some ⟨g,o,none⟩) n cc) (hg:2<=n) (c0:w.cell? ⟨g,o,none⟩=some (Iv a)) (c1:w.cell? ⟨g,o+1,none⟩=some (Iv b)) (ha:Qbc a) (hb:Qbc b) (u:Nat):Calls prog 107 #[Iv 14,vv] w (Qed w (Qax 14 a b u)):=by
 subst hp;obtain⟨x,hx⟩:=yt (decide (a<=b))
 have hq:Qed w (Qax 14 a b u)=λe w'=>e=.returned (Iv (Qcs x))/\yr w w':=by rw[<-hx];rfl
 exact QhS
theorem JkE
  (hp:vv=.slice (some ⟨g,o,none⟩) n cc) (hg:2<=n) (c0:w.cell? ⟨g,o,none⟩=some (Iv a)) (c1:w.cell? ⟨g,o+1,none⟩=some (Iv b)) (ha:Qbc a) (hb:Qbc b) (u:Nat):Calls prog 107 #[Iv 15,vv] w (Qed w (Qax 15 a b u)):=by
 subst hp;obtain⟨x,hx⟩:=yt (decide (a=b))
 have hq:Qed w (Qax 15 a b u)=λe w'=>e=.returned (Iv (Qcs x))/\yr w w':=by rw[<-hx];rfl
 rw[hq];have R4:(0:Int)<(n:Int):=zo;have P4:(1:Int)<(n:Int):=zo;have G9:0<n:=zo;have s9:1<n:=zo;have HA:=Zh ha;have A4:=Zh hb;have xA:(a==b)=x:=by rw[<-hx];rfl
 exact QjO
theorem JmA(hp:vv=.slice (some ⟨g,o,none⟩) n cc)(hg:1<=n)(c0:w.cell? ⟨g,o,none⟩=some (Iv a))(ha:Qbc a)(u:Nat):Calls prog 107 #[Iv 6,vv] w (Qed w (Qax 6 a b u)):=by
 subst hp;have hq:Qed w (Qax 6 a b u)=λe w'=>e=.returned (Iv (Qca (0-a)))/\yr w w':=rfl
 rw[hq];have R4:(0:Int)<(n:Int):=zo;have G9:0<n:=zo;have cn:=JbM 0 a w (by unfold Qbc;omega) ha;rw[Int.zero_sub]at cn |-;clear hq hg ha;go_enter func107,ntmps107;go_wp2_with fail;refine cn.mono ?_;rintro e w3 ⟨rfl,R0⟩;have HX:=Zh R0;clear cn R0 c0;go_wp2;go_ret;exact⟨rfl,HX.o⟩
theorem JmB(hp:vv=.slice (some ⟨g,o,none⟩) n cc)(hg:1<=n)(c0:w.cell? ⟨g,o,none⟩=some (Iv a))(ha:a=0\/a=1)(u:Nat):Calls prog 107 #[Iv 7,vv] w (Qed w (Qax 7 a b u)):=by
 subst hp;have hq:Qed w (Qax 7 a b u)=λe w'=>e=.returned (Iv (1-a))/\yr w w':=rfl
 rw[hq];have R4:(0:Int)<(n:Int):=zo;have G9:0<n:=zo;clear hq hg
 rcases ha with rfl|rfl
 all_goals
  go_enter func107,ntmps107;go_wp2;go_ret;exact⟨rfl,zO⟩
end
structure MK where
 o0:Value
 o1:Value
 o2:Value
 o3:Value
 F:Qaj
 la:Value
 wa:Value
def mC(K:MK)(s:StM)(sv vv cv:Value):Array Value:=#[K.o0,K.o1,K.o2,K.o3,K.la,Iv K.F.likes,Iv K.F.boosts,Iv K.F.replies,Iv K.F.reports,Iv K.F.age,Iv K.F.home,Iv K.F.scope,Iv K.F.length,.bool K.F.follows,.bool K.F.reply,K.wa,
 Iv (s.pc:Nat),sv,vv,cv,Iv (s.used:Nat),Iv s.o.action,Sv s.o.reason,Iv (s.o.used:Nat),Iv s.o.fault,.bool s.fin]
def Qdf(l:List (Nat×List Int))(fr:List Value):List Value:=(l.zip fr).reverse.flatMap λx=>[Iv (x.1.1:Nat),x.2]
def QeZ(w:World)(b:Nat):List (Nat×List Int)->List Value->Prop
 |[],[]=>True
 |x::l,v::fr=>w.ownsRow b 3 1 v x.2.length (Qad x.2)/\QeZ w b l fr
 |_,_=>False
def Qcf(a b:Value):Prop:=∀k,a.ownBlock=some k->b.ownBlock≠some k
structure QeY(w:World)(p:Nat)(s:StM)(sv vv cv:Value)(fr:List Value):Prop where
 st:w.ownsRow (p-1) 3 1 sv s.st.length (Qad s.st.reverse)
 vars:w.ownsRow (p-1) 3 1 vv s.vars.length (Qad s.vars)
 calls:w.ownsRow (p-1) 192 2 cv s.calls.length (Qdf s.calls fr)
 frames:QeZ w (p-1) s.calls fr
 dis:(sv::vv::fr).Pairwise Qcf
def MAt(K:MK)(w:World)(p:Nat)(s:StM):Prop:=∃sv vv cv fr,w.heap[p]?=some (.cells (mC K s sv vv cv) 76 (0,0))/\QeY w p s sv vv cv fr
variable{b n g:Nat}{xs:List Value}
def Kh{W':World}(h:W.ownsRow b e sz v n xs)(hk:∀k,v.ownBlock=some k->W'.heap[k]?=W.heap[k]?):W'.ownsRow b e sz v n xs:=by
 refine⟨h.1,?_⟩
 rcases h.2 with hn|⟨g,cap,cur,rfl,hb,hg,rest⟩
 ·exact .inl hn
 ·exact .inr ⟨g,cap,cur,rfl,hb,(hk g rfl).trans hg,rest⟩
variable{cs:Array Value}{fr:Nat×Nat}
def KL(h:W.ownsRow b e sz v n xs){k:Nat}(hk:v.ownBlock=some k)(hc:W.heap[k]?=some (.cells cs T fr)):T=e:=by
 rcases h.2 with⟨rfl,_⟩|⟨g,cap,cur,rfl,hb,hg,rest⟩
 ·simp[Value.ownBlock]at hk
 ·simp[Value.ownBlock]at hk;subst hk;rw[hc]at hg;simp at hg;exact hg.2.1
def YZ(h:W.ownsRow b e sz v n xs){k:Nat}(hc:W.heap[k]?=some (.cells cs T fr))(hne:T≠e):v.ownBlock≠some k:=λhk=>hne (KL h hk hc)
variable{w:World}
def KT(h:w.ownsRow b e sz v n xs)(hp:w.heap[p]?=some (.cells cs T fr))(hne:T≠e)(u:Value):(w.setCell ⟨p,j,none⟩ u).ownsRow b e sz v n xs:=
 Kh h λk hk=>heap_setCell_other _ _ _ _ (by
  have h1:=YZ h hp hne;simp only;rintro rfl
  exact h1 hk)
def QeG(w W:World)(b:Nat)(row:Option Nat):Prop:=∀e sz v n xs,e≠76->w.ownsRow b e sz v n xs->(∀k,v.ownBlock=some k->row≠some k)->W.ownsRow b e sz v n xs
def QeZ.keep{w W:World}{b:Nat}{row:Option Nat}(hk:QeG w W b row):∀{l:List (Nat×List Int)}{fr:List Value},QeZ w b l fr->(∀v∈fr,∀k,v.ownBlock=some k->row≠some k)->QeZ W b l fr
 |[],[],_,_=>trivial
 |x::l,v::fr,h,hd=>⟨hk _ _ _ _ _ zp h.1 (hd v zq),QeZ.keep hk h.2 λv' hv=>hd v' (by simp[hv])⟩
 |[],v::fr,h,_=>h.elim
 |x::l,[],h,_=>h.elim
def QeZ.lt{w:World}{b:Nat}:∀{l:List (Nat×List Int)}{fr:List Value},QeZ w b l fr->∀v∈fr,∀k,v.ownBlock=some k->b<=k/\k<w.heap.size
 |[],[],_=>λv hv=>by simp at hv
 |x::l,v::fr,h=>λv' hv=>by
  rcases List.mem_cons.1 hv with rfl|hv
  ·exact h.1.lt
  ·exact QeZ.lt h.2 v' hv
 |[],v::fr,h=>h.elim
 |x::l,[],h=>h.elim
def JaX{w':World}{X:Obj}{row:Option Nat}(hg:(w.alloc X).grownBy w' row)(hp:w.heap[p]?=some (.cells cs 76 fr)):QeG w (w'.setCell ⟨p,j,none⟩ u) b row:=λe sz v n xs he h hd=>
 Kh ((h.alloc X).kept hg (by
  cases ho:v.ownBlock with
  |none=>exact .inl rfl
  |some k=>exact .inr λe=>hd k ho e.symm)) λk hk=>heap_setCell_other _ _ _ _ (by
   have h1:=YZ h hp λe=>he e.symm;simp only;rintro rfl
   exact h1 hk)
def JbO{row:Option Nat}(hp:w.heap[p]?=some (.cells cs 76 fr)):QeG w (w.setCell ⟨p,j,none⟩ u) b row:=λe sz v n xs he h _=>KT h hp (λe=>he e.symm) u
def Jak{e' sz' n':Nat}{v':Value}{xs':List Value}(h:w.ownsRow b e sz v n xs)(h':w.ownsRow b e' sz' v' n' xs')(hne:e≠e'):Qcf v v':=λk hk hk'=>by
 rcases h.2 with⟨rfl,_⟩|⟨g,cap,cur,rfl,_,hg,_⟩
 ·simp[Value.ownBlock]at hk
 ·rcases h'.2 with⟨rfl,_⟩|⟨g',cap',cur',rfl,_,hg',_⟩
  ·simp[Value.ownBlock]at hk'
  ·simp[Value.ownBlock]at hk hk';subst hk hk';rw[hg]at hg';simp at hg';exact hne hg'.2
variable{s:StM}{vv:Value}
def QeY.stk{sv':Value}{fr:List Value}{l:List Int}(h:QeY w p s sv vv cv fr)(hk:QeG w W (p-1) sv.ownBlock)(hr:W.ownsRow (p-1) 3 1 sv' l.length (Qad l.reverse))
  (hn:∀k,sv'.ownBlock=some k->sv.ownBlock=some k\/w.heap.size<=k) {s':StM} (h1:s'.st=l) (h2:s'.vars=s.vars) (h3:s'.calls=s.calls):QeY W p s' sv' vv cv fr:=by
 have hd:=List.pairwise_cons.1 h.dis;have xA:=List.pairwise_cons.1 hd.2;refine⟨by rw[h1];exact hr,?_,?_,?_,?_⟩
 ·rw[h2];exact hk _ _ _ _ _ zp h.vars λk hv e=>hd.1 vv zq k e hv
 ·rw[h3];exact hk _ _ _ _ _ zp h.calls λk hv e=>Jak h.st h.calls zp k e hv
 ·rw[h3];exact h.frames.keep hk λv hv k hvk e=>hd.1 v (by simp[hv]) k e hvk
 ·refine List.pairwise_cons.2 ⟨λb hb k hk' hbk=>?_,hd.2⟩
  rcases hn k hk' with e|e
  ·exact hd.1 b hb k e hbk
  ·have hlt:k<w.heap.size:=by
    rcases List.mem_cons.1 hb with rfl|hb
    ·exact(h.vars.lt k hbk).2
    ·exact(h.frames.lt b hb k hbk).2
   omega
def TFr(w w':World):Prop:=∀(k:Nat)(o:Obj),w.heap[k]?=some o->(∀cs fr,o≠.cells cs 3 fr/\o≠.cells cs 192 fr/\o≠.cells cs 76 fr)->w'.heap[k]?=w.heap[k]?
def TFr.refl(w:World):TFr w w:=λ_ _ _ _=>rfl
def TFr.trans{w1 w2:World}(h:TFr w w1)(h':TFr w1 w2):TFr w w2:=λk o hk a=>by
 have e:=h k o hk a;exact(h' k o (e.trans hk) a).trans e
def TFr.alloc(w:World)(o:Obj):TFr w (w.alloc o):=λk _ hk _=>heap_alloc_old _ _ (Jb hk)
def TFr.set{cs0:Array Value}{fr0:Nat×Nat}(hp:w.heap[p]?=some (.cells cs0 76 fr0)):TFr w (w.setCell ⟨p,j,none⟩ u):=λk o hk c=>by
 have xA:k≠p:=by
  rintro rfl;rw[hk]at hp;exact(c _ _).2.2 (Option.some.inj hp)
 rw[heap_setCell_other _ _ _ _ (by simpa using xA)]
def TFr.grown{w':World}{X:Obj}(h:w.ownsRow b e sz v n xs)(he:e=3\/e=192)(hg:(w.alloc X).grownBy w' v.ownBlock):TFr w w':=λk o hk a=>by
 have hlt:=Jb hk;refine(hg.block k zr λe'=>?_).trans (heap_alloc_old _ _ hlt)
 rcases h.2 with⟨rfl,_⟩|⟨g,cap,cur,rfl,_,hg',_⟩
 ·simp[Value.ownBlock]at e'
 ·simp[Value.ownBlock]at e';subst e';rw[hk]at hg'
  rcases he with rfl|rfl
  ·exact(a _ _).1 (Option.some.inj hg')
  ·exact(a _ _).2.1 (Option.some.inj hg')
def Qav(K:MK)(w:World)(p:Nat)(s:StM)(r:Value)(e:Ending)(w':World):Prop:=e=.returned r/\MAt K w' p s/\Below (p-1) w w'/\TFr w w'
def VF(v:Int)(l:List Int):Qad (v::l).reverse=Qad l.reverse++[Iv v]:=by unfold Qad;simp
def JF(K:MK)(w:World)(p:Nat)(s:StM)(v:Int)(h:MAt K w p s)(hl:s.st.length<=1000000000000):Calls prog 115 #[Pt p,Iv v] w (Qav K w p (s.push v) (.tuple #[])):=by
 obtain⟨sv,vv,cv,fr,hb,hr⟩:=h;obtain⟨R,hR⟩:=yt (Qav K w p (s.push v) (.tuple #[]))
 rw[hR];have HR:Hi (R=Qav K w p (s.push v) (.tuple #[])):=hR.symm;obtain⟨i0,hi,zA,vA,bA⟩:=info_parts QcP;have hp:=Jb hb;obtain⟨a,c,rfl⟩:=Jv hr.st;have b0:w.cell? ⟨p,17,none⟩=some (.slice a s.st.length c):=Ja hb 17;have HB:=Zh hb;have HO:=Zh hr;have HP:=Zh hp;have HL:=Zh hl;clear hR hb hr hp hl;go_enter func115,ntmps115;go_wp2_with (at_builtin;go_loud (refine Ka _ rfl _ _ 29 rfl (p-1) 3 i0 (Iv 0) 1 8 underlying29 hi zA vA bA rfl zp _ _ _ rfl (HO.o.st.alloc _) ⟨w.heap.size,0,none⟩ 1 1 [Iv v] rfl rfl ?d1 ?d2 zp ?d3 ?d4 ?d5 ?d6))
 case d1=>
  intro j u hj;rw[Kw];simpa using hj
 case d2=>intro u hu;simp at hu;subst hu;rfl
 case d3=>unfold maxLen;have:=HL.o;omega
 case d4=>have:=HL.o;omega
 case d5=>simp;have:=HP.o;omega
 intro v' w' Q0 hgrow O0;have cA:(w.alloc (.cells #[Iv v] 3)).heap[p]?=some (.cells (mC K s (.slice a s.st.length c) vv cv) 76 (0,0)):=by rw[heap_alloc_old _ _ HP.o];exact HB.o
 have yA:∀k,(Value.slice a s.st.length c).ownBlock=some k->p-1<=k:=λk hk=>(HO.o.st.lt k hk).1
 have xA:=(hgrow.block p (by simp;have:=HP.o;omega) λe=>YZ HO.o.st HB.o zp e.symm).trans cA;have uA:Below (p-1) w (w.alloc (.cells #[Iv v] 3)):=zO.alloc (zu HP.o) _;have aA:=uA.grown hgrow (by simp;have:=HP.o;omega) (λk hk=>by have:=yA k hk;omega);obtain⟨a',c',rfl⟩:=Jv Q0;have b1:w'.cell? ⟨p,17,none⟩=some (.slice a s.st.length c):=Ja xA 17;have f1:w'.frozen? ⟨p,17,none⟩=false:=Jc xA 17
 have C0:Hi (MAt K (w'.setCell ⟨p,17,none⟩ (.slice a' (s.st.length+1) c')) p (s.push v)/\Below (p-1) w (w'.setCell ⟨p,17,none⟩ (.slice a' (s.st.length+1) c'))/\TFr w (w'.setCell ⟨p,17,none⟩ (.slice a' (s.st.length+1) c'))):=by
  refine⟨⟨.slice a' (s.st.length+1) c',vv,cv,fr,Jm xA 17 _,HO.o.stk (JaX hgrow HB.o) (l:=v::s.st) ?_ (λk hk=>?_) rfl rfl rfl⟩,aA.setCell zq _,(TFr.grown HO.o.st (.inl rfl) hgrow).trans (TFr.set xA)⟩
  ·rw[VF,List.length_cons];exact KT Q0 xA zp _
  ·rcases O0 with e|e
   ·exact .inl (e.symm.trans hk)
   ·rw[hk]at e;simp at e;exact .inr zo
 clear Q0 hgrow O0 cA yA xA uA aA HO HP HB hi zA vA bA b0;go_wp2;go_end0;rw[HR.o];exact⟨rfl,C0.o⟩
def JcP(h:w.ownsRow b e sz (.slice (some ⟨g,0,none⟩) n c) n xs)(hm:m<=n):w.ownsRow b e sz (.slice (some ⟨g,0,none⟩) m c) m (xs.take (m*sz)):=by
 have xA:m*sz<=n*sz:=Nat.mul_le_mul_right _ hm;refine⟨by rw[List.length_take,h.1];omega,?_⟩
 rcases h.2 with⟨hn,_⟩|⟨g',cap,cur,hv,hb,hg,h1,h2,h3,h4⟩
 ·cases hn
 ·simp only[Value.slice.injEq,Option.some.injEq,Addr.mk.injEq]at hv;obtain⟨⟨rfl,_⟩,_,rfl⟩:=hv;refine .inr ⟨g,c,cur,rfl,hb,hg,by omega,h2,h3,?_⟩;rw[<-h4,List.take_take]
  congr 1
  omega
def Vm(h:w.ownsRow b e sz v n xs)(hn:0<n):∃g c,v=.slice (some ⟨g,0,none⟩) n c:=by
 rcases h.2 with⟨_,h0⟩|⟨g,cap,cur,hv,_⟩
 ·omega
 ·exact⟨g,cap,hv⟩
def Kx(l:List Int):(Qad l).length=l.length:=by unfold Qad;simp
def Jip(w:World)(p g n c:Nat)(v:Int)(b0:w.cell? ⟨p,17,none⟩=some (.slice (some ⟨g,0,none⟩) (n+1) c))(f0:w.frozen? ⟨p,17,none⟩=false)(b1:w.cell? ⟨g,n,none⟩=some (Iv v))(kc:n+1<=c)(hl:n<=1000000000000):
  Calls prog 116 #[Pt p] w (λe w'=>e=.returned (Iv v)/\w'=w.setCell ⟨p,17,none⟩ (.slice (some ⟨g,0,none⟩) n c)):=by
 have wk:IntKind.i64.wrap ((n:Int)+1-1)=(n:Int):=by rw[IntWalk.i64_in _ zo];omega
 have xA:IntKind.i64.wrap (((n+1:Nat):Int)-1)=(n:Int):=by rw[IntWalk.i64_in _ zo];omega
 have k0:(0:Int)<=(n:Int):=zo;have k1:(n:Int)<((n+1:Nat):Int):=zo;have k2:(n:Int)<(n:Int)+1:=zo;have k3:(n:Int)<=(c:Int):=zo;have k4:n<=c:=zo;go_enter func116,ntmps116;go_wp2;go_ret;exact⟨rfl,rfl⟩
def Qek(K:MK)(w:World)(p:Nat)(s:StM)(sv vv cv:Value)(fr:List Value):Prop:=w.heap[p]?=some (.cells (mC K s sv vv cv) 76 (0,0))/\QeY w p s sv vv cv fr
variable{K:MK}
def Qek.pop{fr:List Value}{v:Int}{l:List Int}(h:Qek K w p s (.slice (some ⟨g,0,none⟩) (n+1) c) vv cv fr)(hs:s.st=v::l)(hn:l.length=n):
  w.cell? ⟨p,17,none⟩=some (.slice (some ⟨g,0,none⟩) (n+1) c)/\w.frozen? ⟨p,17,none⟩=false/\w.cell? ⟨g,n,none⟩=some (Iv v)/\n+1<=c/\Qek K (w.setCell ⟨p,17,none⟩ (.slice (some ⟨g,0,none⟩) n c)) p {s with st:=l} (.slice (some ⟨g,0,none⟩) n c) vv cv fr:=by
 obtain⟨hb,hr⟩:=h;have xA:s.st.length=n+1:=by rw[hs,List.length_cons,hn]
 have hst:=hr.st;rw[xA]at hst
 have kc:n+1<=c:=by
  rcases hst.2 with⟨hn,_⟩|⟨g',cap,cur,hv,_,_,h1,_⟩
  ·cases hn
  ·simp only[Value.slice.injEq]at hv;omega
 refine⟨Ja hb 17,Jc hb 17,?_,kc,Jm hb 17 _,hr.stk (JbO (w:=w) (b:=p-1) (p:=p) (j:=17) (row:=(Value.slice (some ⟨g,0,none⟩) (n+1) c).ownBlock) (u:=.slice (some ⟨g,0,none⟩) n c) hb) (s':={s with st:=l}) (sv':=.slice (some ⟨g,0,none⟩) n c) (l:=l) ?_ (λk hk=>.inl hk) rfl rfl rfl⟩
 ·rw[hst.cellAt n zo,hs,VF,List.getElem?_append_right (by rw[Kx,List.length_reverse,hn];exact Nat.le_refl _),Kx,List.length_reverse,hn,Nat.sub_self];rfl
 ·have h2:=JcP hst (m:=n) zo;rw[hs,VF,Nat.mul_one,List.take_append_of_le_length (by rw[Kx,List.length_reverse,hn];exact Nat.le_refl _),List.take_of_length_le (by rw[Kx,List.length_reverse,hn];exact Nat.le_refl _)]at h2;rw[hn];exact KT h2 hb zp _
def VY(K:MK)(w:World)(p:Nat)(s:StM)(v:Int)(l:List Int)(h:MAt K w p s)(hs:s.st=v::l)(hl:s.st.length<=1000000000001):Calls prog 116 #[Pt p] w (Qav K w p {s with st:=l} (Iv v)):=by
 obtain⟨sv,vv,cv,fr,hb,hr⟩:=h;have hst:=hr.st;have xA:s.st.length=l.length+1:=by rw[hs,List.length_cons]
 rw[xA]at hst;obtain⟨g,c,rfl⟩:=Vm hst zo;obtain⟨h1,h2,h3,h4,h5⟩:=Qek.pop (K:=K) (w:=w) ⟨hb,hr⟩ hs rfl;refine(Jip w p g l.length c v h1 h2 h3 h4 zo).mono ?_;rintro e w' ⟨rfl,rfl⟩;exact⟨rfl,⟨_,_,_,_,h5.1,h5.2⟩,zO.setCell zq _,TFr.set hb⟩
def QeY.up{fr:List Value}(h:QeY w p s sv vv cv fr)(hb:yr w W):QeY W p s sv vv cv fr:=
 ⟨JX h.st hb,JX h.vars hb,JX h.calls hb,h.frames.keep (row:=none) (λ_ _ _ _ _ _ h' _=>JX h' hb) λ_ _ _ _=>by simp,h.dis⟩
def MAt.up(h:MAt K w p s)(hb:yr w W):MAt K W p s:=by
 obtain⟨sv,vv,cv,fr,h1,h2⟩:=h;exact⟨sv,vv,cv,fr,(hb.block _ (Jb h1)).trans h1,h2.up hb⟩
def MAt.lt(h:MAt K w p s):p<w.heap.size:=by
 obtain⟨sv,vv,cv,fr,h1,h2⟩:=h;exact Jb h1
def Jiq:QeG w (w.setCell ⟨g,j,none⟩ u) b (some g):=λe sz v n xs _ h hd=>by
 refine⟨h.1,?_⟩
 rcases h.2 with hn|⟨g',cap,cur,rfl,hb,hg,rest⟩
 ·exact .inl hn
 ·refine .inr ⟨g',cap,cur,rfl,hb,Ji hg (λe=>hd g' rfl (by simpa using e.symm)) u,rest⟩
def TFr.setv(h:w.ownsRow b 3 1 (.slice (some ⟨g,0,none⟩) n c) n xs):TFr w (w.setCell ⟨g,j,none⟩ u):=λk o hk a=>by
 have xA:k≠g:=by
  rintro rfl
  rcases h.2 with⟨hn,_⟩|⟨g',cap,cur,hv,_,hg,_⟩
  ·cases hn
  ·simp only[Value.slice.injEq,Option.some.injEq,Addr.mk.injEq]at hv;obtain⟨⟨rfl,_⟩,_,rfl⟩:=hv;rw[hk]at hg;exact(a _ _).1 (Option.some.inj hg)
 rw[heap_setCell_other _ _ _ _ (by simpa using xA)]
def JcQ(l:List Int)(j:Nat)(x:Int):(Qad l).set j (Iv x)=Qad (l.set j x):=by unfold Qad;rw[List.map_set]
def Qek.vset{fr:List Value}(h:Qek K w p s sv (.slice (some ⟨g,0,none⟩) n c) cv fr)(hj:j<s.vars.length)(x:Int):
  Qek K (w.setCell ⟨g,j,none⟩ (Iv x)) p {s with vars:=s.vars.set j x} sv (.slice (some ⟨g,0,none⟩) n c) cv fr/\Below (p-1) w (w.setCell ⟨g,j,none⟩ (Iv x))/\TFr w (w.setCell ⟨g,j,none⟩ (Iv x)):=by
 obtain⟨hb,hr⟩:=h;have hlt:=(hr.vars.lt g rfl).1;have yA:p≠g:=λe=>YZ hr.vars hb zp (by rw[e];rfl)
 have hn:n=s.vars.length:=by
  rcases hr.vars.2 with⟨hn,_⟩|⟨g',cap,cur,hv,_⟩
  ·cases hn
  ·simp only[Value.slice.injEq]at hv;omega
 subst hn;have hk:QeG w (w.setCell ⟨g,j,none⟩ (Iv x)) (p-1) (some g):=Jiq;have hd:=List.pairwise_cons.1 hr.dis;have xA:=List.pairwise_cons.1 hd.2;refine⟨⟨?_,?_,?_,?_,?_,hr.dis⟩,zO.setCell zr _,TFr.setv hr.vars⟩
 ·rw[heap_setCell_other _ _ _ _ zr];exact hb
 ·exact hk _ _ _ _ _ zp hr.st λk hk e=>hd.1 (.slice (some ⟨g,0,none⟩) s.vars.length c) zq k hk e
 ·have:=Jfo hr.vars (i:=j) zo (Iv x);rw[JcQ]at this;rw[List.length_set];exact this
 ·exact hk _ _ _ _ _ zp hr.calls λk hk e=>Jak hr.vars hr.calls zp g rfl (by rw[hk];exact e.symm)
 ·exact hr.frames.keep hk λv hv k hvk e=>xA.1 v hv g rfl (by rw[hvk];exact e.symm)
def Qek.drew{fr:List Value}(h:Qek K w p s sv vv cv fr):Qek K w.drew p s sv vv cv fr:=⟨h.1,h.2.up zO.drew⟩
def MAt.set{s':StM}(h:MAt K w p s)(hc:∀sv vv cv,(mC K s sv vv cv).setIfInBounds j u=mC K s' sv vv cv)(h1:s'.st=s.st)(h2:s'.vars=s.vars)(h3:s'.calls=s.calls):MAt K (w.setCell ⟨p,j,none⟩ u) p s':=by
 obtain⟨sv,vv,cv,fr,hb,hr⟩:=h;refine⟨sv,vv,cv,fr,by rw[<-hc];exact Jm hb j u,?_⟩;have hk:=JbO (w:=w) (b:=p-1) (p:=p) (j:=j) (row:=none) (u:=u) hb;exact⟨by rw[h1];exact hk _ _ _ _ _ zp hr.st zq,by rw[h2];exact hk _ _ _ _ _ zp hr.vars zq,by rw[h3];exact hk _ _ _ _ _ zp hr.calls zq,by rw[h3];exact hr.frames.keep hk zq,hr.dis⟩
def MAt.tset(h:MAt K w p s):TFr w (w.setCell ⟨p,j,none⟩ u)/\Below (p-1) w (w.setCell ⟨p,j,none⟩ u):=by
 obtain⟨sv,vv,cv,fr,hb,hr⟩:=h;exact⟨TFr.set hb,zO.setCell zq _⟩
end Go.Proofs.YtfafpklefknomaaGreatDoor



