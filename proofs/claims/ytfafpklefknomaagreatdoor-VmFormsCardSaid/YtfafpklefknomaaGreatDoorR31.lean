import Derived.Test.YtfafpklefknomaaGreatDoorR30
import Derived.Test.YtfafpklefknomaaGreatDoorR00
open List(length_append length_cons length_nil length_singleton)
namespace Go.Proofs.YtfafpklefknomaaGreatDoor
open Go Go.ChangeShapes Go.WideShapes Go.ChangeAt Go.RowKit Go.Lib
open _root_.Go.Proofs.Tryz
set_option linter.all false
set_option maxRecDepth 100000
set_option maxHeartbeats 32000000
theorem QfC{P:Prop}(h:P:=by
  go_enter func53,ntmps53;go_wp2;go_ret
  exact⟨rfl,rfl⟩):P:=h
def Jks(k:Int)(w:World):Calls prog 53 #[Iv k] w (λe w'=>e=.returned (Iv (QbT k))/\w'=w):=by
 by_cases h6:k=6
 ·have e:QbT k=6:=by subst h6;rfl
  rw[e];have q6:(k==6)=true:=by simp[h6]
  clear h6 e;exact QfC
 by_cases h7:k=7
 ·have e:QbT k=7:=by subst h7;rfl
  rw[e];have q6:(k==6)=false:=zM h6;have q7:(k==7)=true:=by simp[h7]
  clear h6 h7 e;exact QfC
 by_cases h8:k=8
 ·have e:QbT k=8:=by subst h8;rfl
  rw[e];have q6:(k==6)=false:=zM h6;have q7:(k==7)=false:=zM h7;have q8:(k==8)=true:=by simp[h8]
  clear h6 h7 h8 e;exact QfC
 by_cases h9:k=9
 ·have e:QbT k=9:=by subst h9;rfl
  rw[e];have q6:(k==6)=false:=zM h6;have q7:(k==7)=false:=zM h7;have q8:(k==8)=false:=zM h8;have q9:(k==9)=true:=by simp[h9]
  clear h6 h7 h8 h9 e;exact QfC
 by_cases h10:k=10
 ·have e:QbT k=10:=by subst h10;rfl
  rw[e];have q6:(k==6)=false:=zM h6;have q7:(k==7)=false:=zM h7;have q8:(k==8)=false:=zM h8;have q9:(k==9)=false:=zM h9;have xA:(k==10)=true:=by simp[h10]
  clear h6 h7 h8 h9 h10 e;exact QfC
 by_cases h11:k=11
 ·have e:QbT k=11:=by subst h11;rfl
  rw[e];have q6:(k==6)=false:=zM h6;have q7:(k==7)=false:=zM h7;have q8:(k==8)=false:=zM h8;have q9:(k==9)=false:=zM h9;have xA:(k==10)=false:=zM h10;have yA:(k==11)=true:=by simp[h11]
  clear h6 h7 h8 h9 h10 h11 e;exact QfC
 by_cases h12:k=12
 ·have e:QbT k=12:=by subst h12;rfl
  rw[e];have q6:(k==6)=false:=zM h6;have q7:(k==7)=false:=zM h7;have q8:(k==8)=false:=zM h8;have q9:(k==9)=false:=zM h9;have xA:(k==10)=false:=zM h10;have yA:(k==11)=false:=zM h11;have zA:(k==12)=true:=by simp[h12]
  clear h6 h7 h8 h9 h10 h11 h12 e;exact QfC
 by_cases h13:k=13
 ·have e:QbT k=13:=by subst h13;rfl
  rw[e];have q6:(k==6)=false:=zM h6;have q7:(k==7)=false:=zM h7;have q8:(k==8)=false:=zM h8;have q9:(k==9)=false:=zM h9;have xA:(k==10)=false:=zM h10;have yA:(k==11)=false:=zM h11;have zA:(k==12)=false:=zM h12;have uA:(k==13)=true:=by simp[h13]
  clear h6 h7 h8 h9 h10 h11 h12 h13 e;exact QfC
 by_cases h14:k=14
 ·have e:QbT k=14:=by subst h14;rfl
  rw[e];have q6:(k==6)=false:=zM h6;have q7:(k==7)=false:=zM h7;have q8:(k==8)=false:=zM h8;have q9:(k==9)=false:=zM h9;have xA:(k==10)=false:=zM h10;have yA:(k==11)=false:=zM h11;have zA:(k==12)=false:=zM h12;have uA:(k==13)=false:=zM h13;have vA:(k==14)=true:=by simp[h14]
  clear h6 h7 h8 h9 h10 h11 h12 h13 h14 e;exact QfC
 have e:QbT k=15:=by unfold QbT;rw[if_neg zo]
 rw[e];have q6:(k==6)=false:=zM h6;have q7:(k==7)=false:=zM h7;have q8:(k==8)=false:=zM h8;have q9:(k==9)=false:=zM h9;have xA:(k==10)=false:=zM h10;have yA:(k==11)=false:=zM h11;have zA:(k==12)=false:=zM h12;have uA:(k==13)=false:=zM h13;have vA:(k==14)=false:=zM h14;clear h6 h7 h8 h9 h10 h11 h12 h13 h14 e;exact QfC
theorem QfM{P:Prop}(h:P:=by
  clear hat hfr HS HXX HG1 HEL;go_wp2;go_end0;rw[HR.o]
  exact⟨rfl,HFIN.o⟩):P:=h
theorem QjT{P:Prop}(h:P:=by
  clear hE hl hk;clear hR hx hb ha e1 g1 hel hp;go_enter func21,ntmps21;go_upto_region 1 with fail;generalize World.alloc W _=w1 at *;generalize W.heap.size=eb at *;obtain⟨x0,x1,x2,x3⟩:=Qao HS.o.box;go_wp2_with fail;refine(JU w1 p l 0 n [] HS.o.at' (by have:=HL.o;simp only[List.length_singleton]at this;omega)).mono ?_;rintro e w2 ⟨rfl,hat,hfr⟩;have HFIN:=Zh (show BAt w2 p (l++[⟨0,n,[]⟩])/\BFr p W w2 from⟨hat,HS.o.fr.trans hfr⟩)
  exact QfM):P:=h
section
variable {w0:World}{p:Nat}(k n:Int)(s:By)(es:List Exp)(hp:w0.heap.size<=p)(hel:∀a∈es,ExB w0 p a)
include w0 p k n s es hp hel
theorem Jmr(hk:k=0):ExB w0 p (.mk k n s es):=by
 intro d l W hx hb ha hl;obtain⟨R,hR⟩:∃R,Qbe W p (l++cE l.length (.mk k n s es))=R:=⟨_,rfl⟩
 rw[hR];have HR:Hi (R=Qbe W p (l++cE l.length (.mk k n s es))):=hR.symm;obtain⟨a1,c1,e1,g1⟩:=Qdy.kids hx;rw[e1]
 have HXX:Hi (QcC w0 (.mk k n s es) [Iv k,Iv n,Sv s,.slice a1 es.length c1]):=by
  unfold Hi QcC at *;rw[e1]at hx;exact hx
 have HS:=Zh (BSt.first (cs:=#[Iv k,Iv n,Sv s,.slice a1 es.length c1]) ha hp hb);have HG1:=Zh g1;have HEL:=Zh hel;have HP:=Zh hp;have hE:cE l.length (.mk k n s es)=[⟨0,n,[]⟩]:=by rw[Qcr];simp[hk]
 rw[hE]at HR hl;have HL:=Zh hl;have q0:(k==0)=true:=by simp[hk]
 exact QjT
theorem Jms(hk:k=1):ExB w0 p (.mk k n s es):=by
 intro d l W hx hb ha hl;obtain⟨R,hR⟩:∃R,Qbe W p (l++cE l.length (.mk k n s es))=R:=⟨_,rfl⟩
 rw[hR];have HR:Hi (R=Qbe W p (l++cE l.length (.mk k n s es))):=hR.symm;obtain⟨a1,c1,e1,g1⟩:=Qdy.kids hx;rw[e1]
 have HXX:Hi (QcC w0 (.mk k n s es) [Iv k,Iv n,Sv s,.slice a1 es.length c1]):=by
  unfold Hi QcC at *;rw[e1]at hx;exact hx
 have HS:=Zh (BSt.first (cs:=#[Iv k,Iv n,Sv s,.slice a1 es.length c1]) ha hp hb);have HG1:=Zh g1;have HEL:=Zh hel;have HP:=Zh hp;have hE:cE l.length (.mk k n s es)=[⟨0,n,[]⟩]:=by rw[Qcr];simp[hk]
 rw[hE]at HR hl;have HL:=Zh hl;have q0:(k==0)=false:=zM zo;have q1:(k==1)=true:=by simp[hk]
 exact QjT
theorem Jmt(hk:k=2):ExB w0 p (.mk k n s es):=by
 intro d l W hx hb ha hl;obtain⟨R,hR⟩:∃R,Qbe W p (l++cE l.length (.mk k n s es))=R:=⟨_,rfl⟩
 rw[hR];have HR:Hi (R=Qbe W p (l++cE l.length (.mk k n s es))):=hR.symm;obtain⟨a1,c1,e1,g1⟩:=Qdy.kids hx;rw[e1]
 have HXX:Hi (QcC w0 (.mk k n s es) [Iv k,Iv n,Sv s,.slice a1 es.length c1]):=by
  unfold Hi QcC at *;rw[e1]at hx;exact hx
 have HS:=Zh (BSt.first (cs:=#[Iv k,Iv n,Sv s,.slice a1 es.length c1]) ha hp hb);have HG1:=Zh g1;have HEL:=Zh hel;have HP:=Zh hp;have hE:cE l.length (.mk k n s es)=[⟨1,n,[]⟩]:=by rw[Qcr];simp[hk]
 rw[hE]at HR hl;have HL:=Zh hl;have q0:(k==0)=false:=zM zo;have q1:(k==1)=false:=zM zo;have q2:(k==2)=true:=by simp[hk]
 clear hE hl hk;clear hR hx hb ha e1 g1 hel hp;go_enter func21,ntmps21;go_upto_region 1 with fail;generalize World.alloc W _=w1 at *;generalize W.heap.size=eb at *;obtain⟨x0,x1,x2,x3⟩:=Qao HS.o.box;go_wp2_with fail;refine(JU w1 p l 1 n [] HS.o.at' (by have:=HL.o;simp only[length_singleton]at this;omega)).mono ?_;rintro e w2 ⟨rfl,hat,hfr⟩;have HFIN:=Zh (show BAt w2 p (l++[⟨1,n,[]⟩])/\BFr p W w2 from⟨hat,HS.o.fr.trans hfr⟩);exact QfM
theorem Jmu(hk:k=3):ExB w0 p (.mk k n s es):=by
 intro d l W hx hb ha hl;obtain⟨R,hR⟩:∃R,Qbe W p (l++cE l.length (.mk k n s es))=R:=⟨_,rfl⟩
 rw[hR];have HR:Hi (R=Qbe W p (l++cE l.length (.mk k n s es))):=hR.symm;obtain⟨a1,c1,e1,g1⟩:=Qdy.kids hx;rw[e1]
 have HXX:Hi (QcC w0 (.mk k n s es) [Iv k,Iv n,Sv s,.slice a1 es.length c1]):=by
  unfold Hi QcC at *;rw[e1]at hx;exact hx
 have HS:=Zh (BSt.first (cs:=#[Iv k,Iv n,Sv s,.slice a1 es.length c1]) ha hp hb);have HG1:=Zh g1;have HEL:=Zh hel;have HP:=Zh hp;have hE:cE l.length (.mk k n s es)=[⟨3,0,s⟩]:=by rw[Qcr];simp[hk]
 rw[hE]at HR hl;have HL:=Zh hl;have q0:(k==0)=false:=zM zo;have q1:(k==1)=false:=zM zo;have q2:(k==2)=false:=zM zo;have q3:(k==3)=true:=by simp[hk]
 clear hE hl hk;clear hR hx hb ha e1 g1 hel hp;go_enter func21,ntmps21;go_upto_region 1 with fail;generalize World.alloc W _=w1 at *;generalize W.heap.size=eb at *;obtain⟨x0,x1,x2,x3⟩:=Qao HS.o.box;go_wp2_with fail;refine(JU w1 p l 3 0 s HS.o.at' (by have:=HL.o;simp only[length_singleton]at this;omega)).mono ?_;rintro e w2 ⟨rfl,hat,hfr⟩;have HFIN:=Zh (show BAt w2 p (l++[⟨3,0,s⟩])/\BFr p W w2 from⟨hat,HS.o.fr.trans hfr⟩);exact QfM
theorem Jmv(hk:k=4):ExB w0 p (.mk k n s es):=by
 intro d l W hx hb ha hl;obtain⟨R,hR⟩:∃R,Qbe W p (l++cE l.length (.mk k n s es))=R:=⟨_,rfl⟩
 rw[hR];have HR:Hi (R=Qbe W p (l++cE l.length (.mk k n s es))):=hR.symm;obtain⟨a1,c1,e1,g1⟩:=Qdy.kids hx;rw[e1]
 have HXX:Hi (QcC w0 (.mk k n s es) [Iv k,Iv n,Sv s,.slice a1 es.length c1]):=by
  unfold Hi QcC at *;rw[e1]at hx;exact hx
 have HS:=Zh (BSt.first (cs:=#[Iv k,Iv n,Sv s,.slice a1 es.length c1]) ha hp hb);have HG1:=Zh g1;have HEL:=Zh hel;have HP:=Zh hp;have hE:cE l.length (.mk k n s es)=[⟨4,0,s⟩]:=by rw[Qcr];simp[hk]
 rw[hE]at HR hl;have HL:=Zh hl;have q0:(k==0)=false:=zM zo;have q1:(k==1)=false:=zM zo;have q2:(k==2)=false:=zM zo;have q3:(k==3)=false:=zM zo;have q4:(k==4)=true:=by simp[hk]
 clear hE hl hk;clear hR hx hb ha e1 g1 hel hp;go_enter func21,ntmps21;go_upto_region 1 with fail;generalize World.alloc W _=w1 at *;generalize W.heap.size=eb at *;obtain⟨x0,x1,x2,x3⟩:=Qao HS.o.box;go_wp2_with fail;refine(JU w1 p l 4 0 s HS.o.at' (by have:=HL.o;simp only[length_singleton]at this;omega)).mono ?_;rintro e w2 ⟨rfl,hat,hfr⟩;have HFIN:=Zh (show BAt w2 p (l++[⟨4,0,s⟩])/\BFr p W w2 from⟨hat,HS.o.fr.trans hfr⟩);exact QfM
theorem Jmw(hk:k=5):ExB w0 p (.mk k n s es):=by
 intro d l W hx hb ha hl;obtain⟨R,hR⟩:∃R,Qbe W p (l++cE l.length (.mk k n s es))=R:=⟨_,rfl⟩
 rw[hR];have HR:Hi (R=Qbe W p (l++cE l.length (.mk k n s es))):=hR.symm;obtain⟨a1,c1,e1,g1⟩:=Qdy.kids hx;rw[e1]
 have HXX:Hi (QcC w0 (.mk k n s es) [Iv k,Iv n,Sv s,.slice a1 es.length c1]):=by
  unfold Hi QcC at *;rw[e1]at hx;exact hx
 have HS:=Zh (BSt.first (cs:=#[Iv k,Iv n,Sv s,.slice a1 es.length c1]) ha hp hb);have HG1:=Zh g1;have HEL:=Zh hel;have HP:=Zh hp;have hE:cE l.length (.mk k n s es)=[⟨5,0,s⟩]:=by rw[Qcr];simp[hk]
 rw[hE]at HR hl;have HL:=Zh hl;have q0:(k==0)=false:=zM zo;have q1:(k==1)=false:=zM zo;have q2:(k==2)=false:=zM zo;have q3:(k==3)=false:=zM zo;have q4:(k==4)=false:=zM zo;have q5:(k==5)=true:=by simp[hk]
 clear hE hl hk;clear hR hx hb ha e1 g1 hel hp;go_enter func21,ntmps21;go_upto_region 1 with fail;generalize World.alloc W _=w1 at *;generalize W.heap.size=eb at *;obtain⟨x0,x1,x2,x3⟩:=Qao HS.o.box;go_wp2_with fail;refine(JU w1 p l 5 0 s HS.o.at' (by have:=HL.o;simp only[length_singleton]at this;omega)).mono ?_;rintro e w2 ⟨rfl,hat,hfr⟩;have HFIN:=Zh (show BAt w2 p (l++[⟨5,0,s⟩])/\BFr p W w2 from⟨hat,HS.o.fr.trans hfr⟩);exact QfM
theorem Jkt(hk:k=16)(h2:es.length=2):ExB w0 p (.mk k n s es):=by
 intro d l W hx hb ha hl;obtain⟨R,hR⟩:∃R,Qbe W p (l++cE l.length (.mk k n s es))=R:=⟨_,rfl⟩
 rw[hR];have HR:Hi (R=Qbe W p (l++cE l.length (.mk k n s es))):=hR.symm;obtain⟨a1,c1,e1,g1⟩:=Qdy.kids hx;rw[e1]
 have HXX:Hi (QcC w0 (.mk k n s es) [Iv k,Iv n,Sv s,.slice a1 es.length c1]):=by
  unfold Hi QcC at *;rw[e1]at hx;exact hx
 have HS:=Zh (BSt.first (cs:=#[Iv k,Iv n,Sv s,.slice a1 es.length c1]) ha hp hb);have HG1:=Zh g1;have HEL:=Zh hel;have HP:=Zh hp;obtain⟨a,b,rfl⟩:=JT h2;have hE:cE l.length (.mk k n s [a,b])=QcW l.length 17 0 a b:=by rw[Qcr];simp[hk,QcW]
 rw[hE]at HR hl;have HL:=Zh hl;have q0:(k==0)=false:=zM zo;have q1:(k==1)=false:=zM zo;have q2:(k==2)=false:=zM zo;have q3:(k==3)=false:=zM zo;have q4:(k==4)=false:=zM zo;have q5:(k==5)=false:=zM zo;have xA:(k==16)=true:=by simp[hk]
 clear hE hl hk h2;clear hR hx hb ha e1 g1 hel hp;go_enter func21,ntmps21;go_upto_region 1 with fail;generalize World.alloc W _=w1 at *;generalize W.heap.size=eb at *;obtain⟨x0,x1,x2,x3⟩:=Qao HS.o.box;go_wp2_with fail;refine(Jfp k n s a b 17 0 HP.o (HEL.o a zq) (HEL.o b zq) _ l w1 HXX.o HS.o.bel HS.o.at' HL.o).mono ?_;rintro e w2 ⟨rfl,hat,hfr⟩;have HFIN:=Zh (show BAt w2 p (l++QcW l.length 17 0 a b)/\BFr p W w2 from⟨hat,HS.o.fr.trans hfr⟩);exact QfM
theorem Jku(hk:k=17)(h2:es.length=2):ExB w0 p (.mk k n s es):=by
 intro d l W hx hb ha hl;obtain⟨R,hR⟩:∃R,Qbe W p (l++cE l.length (.mk k n s es))=R:=⟨_,rfl⟩
 rw[hR];have HR:Hi (R=Qbe W p (l++cE l.length (.mk k n s es))):=hR.symm;obtain⟨a1,c1,e1,g1⟩:=Qdy.kids hx;rw[e1]
 have HXX:Hi (QcC w0 (.mk k n s es) [Iv k,Iv n,Sv s,.slice a1 es.length c1]):=by
  unfold Hi QcC at *;rw[e1]at hx;exact hx
 have HS:=Zh (BSt.first (cs:=#[Iv k,Iv n,Sv s,.slice a1 es.length c1]) ha hp hb);have HG1:=Zh g1;have HEL:=Zh hel;have HP:=Zh hp;obtain⟨a,b,rfl⟩:=JT h2;have hE:cE l.length (.mk k n s [a,b])=QcW l.length 18 1 a b:=by rw[Qcr];simp[hk,QcW]
 rw[hE]at HR hl;have HL:=Zh hl;have q0:(k==0)=false:=zM zo;have q1:(k==1)=false:=zM zo;have q2:(k==2)=false:=zM zo;have q3:(k==3)=false:=zM zo;have q4:(k==4)=false:=zM zo;have q5:(k==5)=false:=zM zo;have yA:(k==16)=false:=zM zo;have xA:(k==17)=true:=by simp[hk]
 clear hE hl hk h2;clear hR hx hb ha e1 g1 hel hp;go_enter func21,ntmps21;go_upto_region 1 with fail;generalize World.alloc W _=w1 at *;generalize W.heap.size=eb at *;obtain⟨x0,x1,x2,x3⟩:=Qao HS.o.box;go_wp2_with fail;refine(Jfp k n s a b 18 1 HP.o (HEL.o a zq) (HEL.o b zq) _ l w1 HXX.o HS.o.bel HS.o.at' HL.o).mono ?_;rintro e w2 ⟨rfl,hat,hfr⟩;have HFIN:=Zh (show BAt w2 p (l++QcW l.length 18 1 a b)/\BFr p W w2 from⟨hat,HS.o.fr.trans hfr⟩);exact QfM
theorem Jkv(hk:k=20)(hm1:es.length<=1000000000):ExB w0 p (.mk k n s es):=by
 intro d l W hx hb ha hl;obtain⟨R,hR⟩:∃R,Qbe W p (l++cE l.length (.mk k n s es))=R:=⟨_,rfl⟩
 rw[hR];have HR:Hi (R=Qbe W p (l++cE l.length (.mk k n s es))):=hR.symm;obtain⟨a1,c1,e1,g1⟩:=Qdy.kids hx;rw[e1]
 have HXX:Hi (QcC w0 (.mk k n s es) [Iv k,Iv n,Sv s,.slice a1 es.length c1]):=by
  unfold Hi QcC at *;rw[e1]at hx;exact hx
 have HS:=Zh (BSt.first (cs:=#[Iv k,Iv n,Sv s,.slice a1 es.length c1]) ha hp hb);have HG1:=Zh g1;have HEL:=Zh hel;have HP:=Zh hp;have hE:cE l.length (.mk k n s es)=cL l.length es++[⟨19,n,[]⟩]:=by rw[Qcr];simp[hk]
 rw[hE]at HR hl;have HL:=Zh hl;have HM1:=Zh hm1;have q0:(k==0)=false:=zM zo;have q1:(k==1)=false:=zM zo;have q2:(k==2)=false:=zM zo;have q3:(k==3)=false:=zM zo;have q4:(k==4)=false:=zM zo;have q5:(k==5)=false:=zM zo;have vA:(k==16)=false:=zM zo;have zA:(k==17)=false:=zM zo;have yA:(k==18)=false:=zM zo;have uA:(k==19)=false:=zM zo;have xA:(k==20)=true:=by simp[hk]
 clear hE hl hk hm1;clear hR hx hb ha e1 g1 hel hp;go_enter func21,ntmps21;go_upto_region 1 with fail;generalize World.alloc W _=w1 at *;generalize W.heap.size=eb at *;obtain⟨x0,x1,x2,x3⟩:=Qao HS.o.box;go_wp2_with fail;refine(Jfq k n s es HP.o HEL.o _ l w1 HXX.o HS.o.bel HS.o.at' (by have:=HL.o;simp only[length_append,length_singleton]at this;omega) HM1.o).mono ?_;rintro e w2 ⟨rfl,hat,hfr⟩;replace HS:=Zh (HS.o.next HP.o hat hfr);clear hat hfr x0 x1 x2 x3;obtain⟨x0,x1,x2,x3⟩:=Qao HS.o.box;go_wp2_with fail;refine(JU w2 p _ 19 n [] HS.o.at' (by have:=HL.o;simp only[length_append,length_singleton]at this |-;omega)).mono ?_;rintro e w3 ⟨rfl,hat,hfr⟩;have HFIN:=Zh (show BAt w3 p (l++(cL l.length es++[⟨19,n,[]⟩]))/\BFr p W w3 from⟨by rw[<- List.append_assoc];exact hat,HS.o.fr.trans hfr⟩);exact QfM
theorem Jmx(h0:¬k=0)(h1:¬k=1)(h2:¬k=2)(h3:¬k=3)(h4:¬k=4)(h5:¬k=5)(h16:¬k=16)(h17:¬k=17)(h18:¬k=18)(h19:¬k=19)(h20:¬k=20)(hm1:es.length<=1000000000):ExB w0 p (.mk k n s es):=by
 intro d l W hx hb ha hl;obtain⟨R,hR⟩:∃R,Qbe W p (l++cE l.length (.mk k n s es))=R:=⟨_,rfl⟩
 rw[hR];have HR:Hi (R=Qbe W p (l++cE l.length (.mk k n s es))):=hR.symm;obtain⟨a1,c1,e1,g1⟩:=Qdy.kids hx;rw[e1]
 have HXX:Hi (QcC w0 (.mk k n s es) [Iv k,Iv n,Sv s,.slice a1 es.length c1]):=by
  unfold Hi QcC at *;rw[e1]at hx;exact hx
 have HS:=Zh (BSt.first (cs:=#[Iv k,Iv n,Sv s,.slice a1 es.length c1]) ha hp hb);have HG1:=Zh g1;have HEL:=Zh hel;have HP:=Zh hp
 have hE:cE l.length (.mk k n s es)=cL l.length es++[⟨QbT k,0,[]⟩]:=by
  rw[Qcr,if_neg zo,if_neg h2,if_neg h3,if_neg h4,if_neg h5,if_neg h16,if_neg h17,if_neg h18,if_neg h19,if_neg h20];rfl
 rw[hE]at HR hl;have HL:=Zh hl;have HM1:=Zh hm1;have q0:(k==0)=false:=zM h0;have q1:(k==1)=false:=zM h1;have q2:(k==2)=false:=zM h2;have q3:(k==3)=false:=zM h3;have q4:(k==4)=false:=zM h4;have q5:(k==5)=false:=zM h5;have vA:(k==16)=false:=zM h16;have zA:(k==17)=false:=zM h17;have yA:(k==18)=false:=zM h18;have uA:(k==19)=false:=zM h19;have xA:(k==20)=false:=zM h20;clear hE hl hm1 h0 h1 h2 h3 h4 h5 h16 h17 h18 h19 h20;clear hR hx hb ha e1 g1 hel hp;go_enter func21,ntmps21;go_upto_region 1 with fail;generalize World.alloc W _=w1 at *;generalize W.heap.size=eb at *;obtain⟨x0,x1,x2,x3⟩:=Qao HS.o.box;go_wp2_with fail;refine(Jfq k n s es HP.o HEL.o _ l w1 HXX.o HS.o.bel HS.o.at' (by have:=HL.o;simp only[length_append,length_singleton]at this;omega) HM1.o).mono ?_;rintro e w2 ⟨rfl,hat,hfr⟩;replace HS:=Zh (HS.o.next HP.o hat hfr);clear hat hfr x0 x1 x2 x3;obtain⟨x0,x1,x2,x3⟩:=Qao HS.o.box;go_wp2_with fail;refine(Jks k w2).mono ?_;rintro e w4 ⟨rfl,rfl⟩;go_wp2_with fail;refine(JU w4 p _ (QbT k) 0 [] HS.o.at' (by have:=HL.o;simp only[length_append,length_singleton]at this |-;omega)).mono ?_;rintro e w3 ⟨rfl,hat,hfr⟩;have HFIN:=Zh (show BAt w3 p (l++(cL l.length es++[⟨QbT k,0,[]⟩]))/\BFr p W w3 from⟨by rw[<- List.append_assoc];exact hat,HS.o.fr.trans hfr⟩);exact QfM
end
def Jkw{w0:World}{p:Nat}(k n:Int)(s:By)(es:List Exp)(hp:w0.heap.size<=p)(hel:∀a∈es,ExB w0 p a)(hk:k=19)(h2:es.length=2):ExB w0 p (.mk k n s es):=by
 intro d l W hx hb ha hl;obtain⟨R,hR⟩:∃R,Qbe W p (l++cE l.length (.mk k n s es))=R:=⟨_,rfl⟩
 rw[hR];have HR:Hi (R=Qbe W p (l++cE l.length (.mk k n s es))):=hR.symm;obtain⟨a,b,rfl⟩:=JT h2;obtain⟨a1,c1,e1,g1⟩:=Qdy.kids hx;rw[e1]
 have HXX:Hi (QcC w0 (.mk k n s [a,b]) [Iv k,Iv n,Sv s,.slice a1 [a,b].length c1]):=by
  unfold Hi QcC at *;rw[e1]at hx;exact hx
 have HS:=Zh (BSt.first (cs:=#[Iv k,Iv n,Sv s,.slice a1 [a,b].length c1]) ha hp hb);have HEL:=Zh hel;have HP:=Zh hp;obtain⟨b1,o1,ha1,hk1⟩:=g1 zq;subst ha1;obtain⟨d0,uA,vA⟩:=hk1 0 a rfl;have zA:=uA;obtain⟨dA,kA,rfl⟩:=uA.form;have H0:=Zh zA;have bA:=Zh vA;obtain⟨d1,hr1,hc1⟩:=hk1 1 b rfl;have hr1f:=hr1;obtain⟨iA,jA,rfl⟩:=hr1.form;have H1:=Zh hr1f;have HC1:=Zh hc1;clear uA zA vA hr1 hr1f hc1 hk1;have hE:cE l.length (.mk k n s [a,b])=cE l.length a++⟨2,n,[]⟩::cE (l.length+(cE l.length a).length+1) b:=by rw[Qcr];simp[hk]
 rw[hE]at HR hl;generalize hA:cE l.length a=A at *;generalize hB:cE (l.length+A.length+1) b=B at *;have aA:l.length+A.length+1+B.length<=1000000000000:=by simp only[List.length_append,List.length_cons]at hl;omega
 have HL:=Zh aA;have HA:=Zh hA;have HB:=Zh hB;have yA:Hi ((l++A++[(⟨2,n,[]⟩:OpM)]).length=l.length+A.length+1):=by unfold Hi;simp;omega
 have q0:(k==0)=false:=zM zo;have q1:(k==1)=false:=zM zo;have q2:(k==2)=false:=zM zo;have q3:(k==3)=false:=zM zo;have q4:(k==4)=false:=zM zo;have q5:(k==5)=false:=zM zo;have mA:(k==16)=false:=zM zo;have eA:(k==17)=false:=zM zo;have cA:(k==18)=false:=zM zo;have gA:(k==19)=true:=by simp[hk]
 clear hE hl aA hk h2 hA hB;clear hR hx hb ha e1 g1 hel hp HXX;go_enter func21,ntmps21;go_upto_region 1 with fail;generalize World.alloc W _=w1 at *;generalize W.heap.size=eb at *;obtain⟨x0,x1,x2,x3⟩:=Qao HS.o.box;have xA:=Zh HS.o.bel;obtain⟨k0,k1,k2,k3⟩:=KG bA.o xA.o;simp only[Nat.zero_mul,Nat.add_zero,Nat.one_mul,Nat.reduceMul]at k0 k1 k2 k3;go_wp2_with fail;refine(HEL.o a zq _ l w1 H0.o xA.o HS.o.at' (by rw[HA.o];have:=HL.o;omega)).mono ?_;rintro e w2 ⟨rfl,hat,hfr⟩;rw[HA.o]at hat;replace HS:=Zh (HS.o.next HP.o hat hfr);clear hat hfr k0 k1 k2 k3 x0 x1 x2 x3 xA;obtain⟨x0,x1,x2,x3⟩:=Qao HS.o.box;go_wp2_with fail;refine(JU w2 p _ 2 n [] HS.o.at' (by have:=HL.o;simp only[List.length_append];omega)).mono ?_;rintro e w3 ⟨rfl,hat,hfr⟩;replace HS:=Zh (HS.o.next HP.o hat hfr);clear hat hfr x0 x1 x2 x3;obtain⟨x0,x1,x2,x3⟩:=Qao HS.o.box;have xA:=Zh HS.o.bel;obtain⟨k0,k1,k2,k3⟩:=KG HC1.o xA.o;simp only[Nat.zero_mul,Nat.add_zero,Nat.one_mul,Nat.reduceMul]at k0 k1 k2 k3;go_wp2_with fail;refine(HEL.o b zq _ _ w3 H1.o xA.o HS.o.at' (by rw[yA.o,HB.o];have:=HL.o;omega)).mono ?_;rintro e w4 ⟨rfl,hat,hfr⟩;rw[yA.o,HB.o]at hat;replace HS:=Zh (HS.o.next HP.o hat hfr);clear hat hfr k0 k1 k2 k3 x0 x1 x2 x3 xA;obtain⟨x0,x1,x2,x3⟩:=Qao HS.o.box;have HFIN:Hi (BAt w4 p (l++(A++⟨2,n,[]⟩::B))/\BFr p W w4):=⟨by have:=HS.o.at';simpa using this,HS.o.fr⟩
 clear HS HEL;go_wp2;go_end0;rw[HR.o];exact⟨rfl,HFIN.o⟩
def Jkx{w0:World}{p:Nat}(k n:Int)(s:By)(es:List Exp)(hp:w0.heap.size<=p)(hel:∀a∈es,ExB w0 p a)(hk:k=18)(h2:es.length=3):ExB w0 p (.mk k n s es):=by
 intro d l W hx hb ha hl;obtain⟨R,hR⟩:∃R,Qbe W p (l++cE l.length (.mk k n s es))=R:=⟨_,rfl⟩
 rw[hR];have HR:Hi (R=Qbe W p (l++cE l.length (.mk k n s es))):=hR.symm;obtain⟨c,a,b,rfl⟩:=Vb h2;obtain⟨a1,c1,e1,g1⟩:=Qdy.kids hx;rw[e1]
 have HXX:Hi (QcC w0 (.mk k n s [c,a,b]) [Iv k,Iv n,Sv s,.slice a1 [c,a,b].length c1]):=by
  unfold Hi QcC at *;rw[e1]at hx;exact hx
 have HS:=Zh (BSt.first (cs:=#[Iv k,Iv n,Sv s,.slice a1 [c,a,b].length c1]) ha hp hb);have HEL:=Zh hel;have HP:=Zh hp;obtain⟨b1,o1,ha1,hk1⟩:=g1 zq;subst ha1;obtain⟨d0,dA,kA⟩:=hk1 0 c rfl;have aA:=dA;obtain⟨tA,vB,rfl⟩:=dA.form;have H0:=Zh aA;have pA:=Zh kA;obtain⟨d1,hr1,hc1⟩:=hk1 1 a rfl;have hr1f:=hr1;obtain⟨zB,uB,rfl⟩:=hr1.form;have H1:=Zh hr1f;have HC1:=Zh hc1;obtain⟨d2,cA,hc2⟩:=hk1 2 b rfl;have vA:=cA;obtain⟨xB,sA,rfl⟩:=cA.form;have H2:=Zh vA;have HC2:=Zh hc2;clear dA aA kA hr1 hr1f hc1 cA vA hc2 hk1;generalize hC:cE l.length c=C at *;generalize hA:cE (l.length+C.length+1) a=A at *;generalize hB:cE (l.length+C.length+A.length+2) b=B at *
 have hE:cE l.length (.mk k n s [c,a,b])=C++⟨17,((l.length+C.length+A.length+2:Nat):Int),[]⟩::(A++⟨16,((l.length+C.length+A.length+2+B.length:Nat):Int),[]⟩::B):=by
  rw[Qcr];simp only[hk,show ¬((18:Int)=0\/(18:Int)=1) by decide,show ¬(18:Int)=2 by decide,show ¬(18:Int)=3 by decide,show ¬(18:Int)=4 by decide,show ¬(18:Int)=5 by decide,show ¬(18:Int)=16 by decide,show ¬(18:Int)=17 by decide,if_false,if_true,hC,hA,hB]
 rw[hE]at HR hl;have mA:l.length+C.length+A.length+2+B.length<=1000000000000:=by simp only[length_append,length_cons]at hl;omega
 have HL:=Zh mA;have HA:=Zh hA;have HB:=Zh hB;have HCC:=Zh hC;have uA:Hi ((l++C++[(⟨17,0,[]⟩:OpM)]).length=l.length+C.length+1):=by unfold Hi;simp;omega
 have q0:(k==0)=false:=zM zo;have q1:(k==1)=false:=zM zo;have q2:(k==2)=false:=zM zo;have q3:(k==3)=false:=zM zo;have q4:(k==4)=false:=zM zo;have q5:(k==5)=false:=zM zo;have qA:(k==16)=false:=zM zo;have yB:(k==17)=false:=zM zo;have rA:(k==18)=true:=by simp[hk]
 clear hE hl mA hk h2 hA hB hC;clear hR hx hb ha e1 g1 hel hp HXX;go_enter func21,ntmps21;go_upto_region 1 with fail;generalize World.alloc W _=w1 at *;generalize W.heap.size=eb at *;obtain⟨x0,x1,x2,x3⟩:=Qao HS.o.box;have xA:=Zh HS.o.bel;obtain⟨k0,k1,k2,k3⟩:=KG pA.o xA.o;simp only[Nat.zero_mul,Nat.add_zero,Nat.one_mul,Nat.reduceMul]at k0 k1 k2 k3;go_wp2_with fail;refine(HEL.o c zq _ l w1 H0.o xA.o HS.o.at' (by rw[HCC.o];have:=HL.o;omega)).mono ?_;rintro e w2 ⟨rfl,hat,hfr⟩;rw[HCC.o]at hat;replace HS:=Zh (HS.o.next HP.o hat hfr);clear hat hfr k0 k1 k2 k3 x0 x1 x2 x3 xA;obtain⟨x0,x1,x2,x3⟩:=Qao HS.o.box;go_wp2_with fail;refine(JU w2 p _ 17 0 [] HS.o.at' (by have:=HL.o;simp only[length_append];omega)).mono ?_;rintro e w3 ⟨rfl,hat,hfr⟩;replace HS:=Zh (HS.o.next HP.o hat hfr);clear hat hfr x0 x1 x2 x3;obtain⟨x0,x1,x2,x3⟩:=Qao HS.o.box;have xA:=Zh HS.o.bel;obtain⟨k0,k1,k2,k3⟩:=KG HC1.o xA.o;simp only[Nat.zero_mul,Nat.add_zero,Nat.one_mul,Nat.reduceMul]at k0 k1 k2 k3;go_wp2_with fail;refine(HEL.o a zq _ _ w3 H1.o xA.o HS.o.at' (by rw[uA.o,HA.o];have:=HL.o;omega)).mono ?_;rintro e w4 ⟨rfl,hat,hfr⟩;rw[uA.o,HA.o]at hat;replace HS:=Zh (HS.o.next HP.o hat hfr);clear hat hfr k0 k1 k2 k3 x0 x1 x2 x3 xA;obtain⟨x0,x1,x2,x3⟩:=Qao HS.o.box;go_wp2_with fail;refine(JU w4 p _ 16 0 [] HS.o.at' (by have:=HL.o;simp only[length_append,List.length_singleton];omega)).mono ?_;rintro e w5 ⟨rfl,hat,hfr⟩;replace HS:=Zh (HS.o.next HP.o hat hfr);clear hat hfr x0 x1 x2 x3;obtain⟨x0,x1,x2,x3⟩:=Qao HS.o.box;obtain⟨l1,gA⟩:∃l1,l++C=l1:=⟨_,rfl⟩
 have zA:l1.length=l.length+C.length:=by rw[<- gA,length_append]
 have e1:l++C++[(⟨17,0,[]⟩:OpM)]++A++[⟨16,0,[]⟩]=l1++(⟨17,0,[]⟩:OpM)::(A++[⟨16,0,[]⟩]):=by rw[gA];simp
 rw[e1]at HS;have nA:((l.length:Int)+(C.length:Int))=((l1.length:Nat):Int):=by rw[zA];omega
 have bA:=Zh zA;have jA:=VD w5 p _ l1.length ⟨17,0,[]⟩ HS.o.at' (by simp only[length_append,length_cons,length_nil,bA.o];have:=HL.o;omega) (JcL _ _ _);rw[<- nA,JcM]at jA;clear zA e1 nA x0 x1 x2 x3;go_wp2_with fail;refine jA.mono ?_;rintro e w6 ⟨rfl,hat,hfr⟩;obtain⟨Z,hZ⟩:∃Z:Int,((l1++(⟨17,0,[]⟩:OpM)::(A++[⟨16,0,[]⟩])).length:Nat)=Z:=⟨_,rfl⟩
 rw[hZ]at hat;replace HS:=Zh (HS.o.next HP.o hat hfr);have HZ:=Zh hZ;clear hat hfr jA hZ;obtain⟨x0,x1,x2,x3⟩:=Qao HS.o.box;have yA:Hi ((l1++(⟨17,Z,[]⟩:OpM)::(A++[⟨16,0,[]⟩])).length=l.length+C.length+A.length+2):=by unfold Hi;simp only[length_append,length_cons,length_nil,bA.o];omega
 have xA:=Zh HS.o.bel;obtain⟨k0,k1,k2,k3⟩:=KG HC2.o xA.o;simp only[Nat.zero_mul,Nat.add_zero,Nat.one_mul,Nat.reduceMul]at k0 k1 k2 k3;go_wp2_with fail;refine(HEL.o b zq _ _ w6 H2.o xA.o HS.o.at' (by rw[yA.o,HB.o];have:=HL.o;omega)).mono ?_;rintro e w7 ⟨rfl,hat,hfr⟩;rw[yA.o,HB.o]at hat;replace HS:=Zh (HS.o.next HP.o hat hfr);clear hat hfr k0 k1 k2 k3 x0 x1 x2 x3 xA;obtain⟨x0,x1,x2,x3⟩:=Qao HS.o.box;have e2:l1++(⟨17,Z,[]⟩:OpM)::(A++[⟨16,0,[]⟩])++B=(l1++(⟨17,Z,[]⟩:OpM)::A)++(⟨16,0,[]⟩:OpM)::B:=zq;have eA:=Zh (e2 ▸ HS.o);have ej:((l1.length:Int)+((A.length:Int)+1))=(((l1++(⟨17,Z,[]⟩:OpM)::A).length:Nat):Int):=by simp only[length_append,length_cons];omega
 have iA:=VD w7 p _ (l1++(⟨17,Z,[]⟩:OpM)::A).length ⟨16,0,[]⟩ eA.o.at' (by simp only[length_append,length_cons,length_nil,bA.o];have:=HL.o;omega) (JcL _ _ _);rw[<- ej,JcM]at iA;clear e2 ej HS;go_wp2_with fail;refine iA.mono ?_;rintro e w8 ⟨rfl,hat,hfr⟩;have HS:=Zh (eA.o.next HP.o hat hfr);clear hat hfr iA eA
 have HFIN:Hi (BAt w8 p (l++(C++⟨17,((l.length+C.length+A.length+2:Nat):Int),[]⟩::(A++⟨16,((l.length+C.length+A.length+2+B.length:Nat):Int),[]⟩::B)))/\BFr p W w8):=by
  refine⟨?_,HS.o.fr⟩;have h:=HS.o.at';have hz:=HZ.o;rw[<- gA]at h;simp only[length_append,length_cons,length_nil,bA.o]at h hz;have z1:Z=((l.length+C.length+A.length+2:Nat):Int):=zo;have z2:l.length+C.length+(A.length+1)+(B.length+1)=l.length+C.length+A.length+2+B.length:=zo;rw[z1,z2]at h;simpa using h
 clear HS HEL HZ;go_wp2;go_end0;rw[HR.o];exact⟨rfl,HFIN.o⟩
def Jai{w0:World}{p:Nat}(hp:w0.heap.size<=p):∀(e:Exp),ArN e->ExB w0 p e
 |.mk k n s es,h=>by
  rw[ArN]at h;obtain⟨h2,h3,xA,hL⟩:=h;have hel:∀a∈es,ExB w0 p a:=λa ha=>Jai hp a (ArL.mem hL ha)
  by_cases c0:k=0
  ·exact Jmr k n s es hp hel c0
  by_cases c1:k=1
  ·exact Jms k n s es hp hel c1
  by_cases c2:k=2
  ·exact Jmt k n s es hp hel c2
  by_cases c3:k=3
  ·exact Jmu k n s es hp hel c3
  by_cases c4:k=4
  ·exact Jmv k n s es hp hel c4
  by_cases c5:k=5
  ·exact Jmw k n s es hp hel c5
  by_cases c16:k=16
  ·exact Jkt k n s es hp hel c16 (h2 (.inl c16))
  by_cases c17:k=17
  ·exact Jku k n s es hp hel c17 (h2 (.inr (.inl c17)))
  by_cases c18:k=18
  ·exact Jkx k n s es hp hel c18 (h3 c18)
  by_cases c19:k=19
  ·exact Jkw k n s es hp hel c19 (h2 (.inr (.inr c19)))
  by_cases c20:k=20
  ·exact Jkv k n s es hp hel c20 xA
  exact Jmx k n s es hp hel c0 c1 c2 c3 c4 c5 c16 c17 c18 c19 c20 xA
termination_by e=>SizeOf.sizeOf e
decreasing_by
 have:=List.sizeOf_lt_of_mem ha;simp only[Exp.mk.sizeOf_spec];omega
def QbO(n low high:Int):Int:=if n<low then low else if high<n then high else n
def Qca(n:Int):Int:=QbO n (-1125899906842624) 1125899906842624
theorem Qgv{P:Prop}(h:P:=by
  go_enter func163,ntmps163;go_wp2;go_ret
  exact⟨by rw[hN.o];rfl,rfl⟩):P:=h
def VE(n l h:Int)(w:World):Calls prog 163 #[Iv n,Iv l,Iv h] w (λe w'=>e=.returned (Iv (QbO n l h))/\w=w'):=by
 by_cases h1:n<l
 ·have hN:Hi (QbO n l h=l):=by unfold Hi QbO;rw[if_pos h1]
  exact Qgv
 ·have hd:decide (n<l)=false:=by simpa using h1
  by_cases h2:h<n
  ·have hN:Hi (QbO n l h=h):=by unfold Hi QbO;rw[if_neg h1,if_pos h2]
   exact Qgv
  ·have xA:decide (h<n)=false:=by simpa using h2
   have hN:Hi (QbO n l h=n):=by unfold Hi QbO;rw[if_neg h1,if_neg h2]
   exact Qgv
def Qci(w:World)(n:Int)(ex neg:Bool)(e:Ending)(w':World):Prop:=e=.returned (.tuple #[Iv n,.bool ex,.bool neg])/\Below w.heap.size w w'
def Qdc(n:Int)(ex neg:Bool):Int:=if ex=true then Qca n else if neg=true then -1125899906842624 else 1125899906842624
theorem QhK{P:Prop}(h:P:=by
  go_enter func147,ntmps147;go_wp2_with (go_at_call 149;refine hc.mono ?_;rintro e w1 ⟨rfl,hb⟩);go_ret
  exact⟨by rw[hN.o];rfl,hb⟩):P:=h
def Qjh(p q:Nat)(w:World)(n:Int)(ex neg:Bool)(hc:Calls prog 149 #[Pt p,Pt q] w (Qci w n ex neg)) :
  Calls prog 147 #[.func (.func 149) #[] #[Pt p,Pt q]] w (Qcx w (Qdc n ex neg)):=by
 cases ex
 ·cases neg
  ·have hN:Hi (Qdc n false false=1125899906842624):=rfl;exact QhK
  ·have hN:Hi (Qdc n false true = -1125899906842624):=rfl;exact QhK
 ·have hN:Hi (Qdc n true neg=Qca n):=rfl;have hL:Hi (Qca n=QbO n (-1125899906842624) 1125899906842624):=rfl;go_enter func147,ntmps147;go_wp2_with (first|(go_at_call 149;refine hc.mono ?_;rintro e w1 ⟨rfl,hb⟩)|(go_at_call 163;refine(VE _ _ _ _).mono ?_;rintro e w2 ⟨rfl,rfl⟩));go_ret;exact⟨by rw[hN.o,hL.o];rfl,hb⟩
theorem QhL{P:Prop}(h:P:=by
  go_enter func147,ntmps147;go_wp2_with (go_at_call 148;refine hc.mono ?_;rintro e w1 ⟨rfl,hb⟩);go_ret
  exact⟨by rw[hN.o];rfl,hb⟩):P:=h
def Qjg(p q:Nat)(w:World)(n:Int)(ex neg:Bool)(hc:Calls prog 148 #[Pt p,Pt q] w (Qci w n ex neg)) :
  Calls prog 147 #[.func (.func 148) #[] #[Pt p,Pt q]] w (Qcx w (Qdc n ex neg)):=by
 cases ex
 ·cases neg
  ·have hN:Hi (Qdc n false false=1125899906842624):=rfl;exact QhL
  ·have hN:Hi (Qdc n false true = -1125899906842624):=rfl;exact QhL
 ·have hN:Hi (Qdc n true neg=Qca n):=rfl;have hL:Hi (Qca n=QbO n (-1125899906842624) 1125899906842624):=rfl;go_enter func147,ntmps147;go_wp2_with (first|(go_at_call 148;refine hc.mono ?_;rintro e w1 ⟨rfl,hb⟩)|(go_at_call 163;refine(VE _ _ _ _).mono ?_;rintro e w2 ⟨rfl,rfl⟩));go_ret;exact⟨by rw[hN.o,hL.o];rfl,hb⟩
theorem QhJ{P:Prop}(h:P:=by
  go_enter func147,ntmps147;go_wp2_with (go_at_call 150;refine hc.mono ?_;rintro e w1 ⟨rfl,hb⟩);go_ret
  exact⟨by rw[hN.o];rfl,hb⟩):P:=h
def Qjf(p q:Nat)(w:World)(n:Int)(ex neg:Bool)(hc:Calls prog 150 #[Pt p,Pt q] w (Qci w n ex neg)) :
  Calls prog 147 #[.func (.func 150) #[] #[Pt p,Pt q]] w (Qcx w (Qdc n ex neg)):=by
 cases ex
 ·cases neg
  ·have hN:Hi (Qdc n false false=1125899906842624):=rfl;exact QhJ
  ·have hN:Hi (Qdc n false true = -1125899906842624):=rfl;exact QhJ
 ·have hN:Hi (Qdc n true neg=Qca n):=rfl;have hL:Hi (Qca n=QbO n (-1125899906842624) 1125899906842624):=rfl;go_enter func147,ntmps147;go_wp2_with (first|(go_at_call 150;refine hc.mono ?_;rintro e w1 ⟨rfl,hb⟩)|(go_at_call 163;refine(VE _ _ _ _).mono ?_;rintro e w2 ⟨rfl,rfl⟩));go_ret;exact⟨by rw[hN.o,hL.o];rfl,hb⟩
def JcO(w:World)(v:Value)(t:Nat):(w.alloc (.cells #[v] t)).cell? ⟨w.heap.size,0,none⟩=some v:=by
 rw[cell_of_row _ _ _ _ _ (0,0) (zQ w _)];rfl
def YD(w:World)(v u:Value)(t t':Nat):((w.alloc (.cells #[v] t)).alloc (.cells #[u] t')).cell? ⟨w.heap.size,0,none⟩=some v:=by
 rw[World.cell?_of_block (w:=w.alloc (.cells #[v] t)) (Below.heap_alloc _ _ _ zq)];exact JcO w v t
def YE(w:World)(v u:Value)(t t':Nat):((w.alloc (.cells #[v] t)).alloc (.cells #[u] t')).cell? ⟨w.heap.size+1,0,none⟩=some u:=by
 have h:=JcO (w.alloc (.cells #[v] t)) u t'
 rwa [show (w.alloc (.cells #[v] t)).heap.size=w.heap.size+1 by simp]at h
theorem QeJ{P:Prop}(h:P:=by
  go_wp2;go_quiet (fail);go_wp2;go_ret3
  exact⟨rfl,Ke zO _⟩):P:=h
def JnK(p q:Nat)(a b:Int)(w:World)(ha:Qbc a)(hb:Qbc b)(hp:w.cell? ⟨p,0,none⟩=some (Iv a))(hq:w.cell? ⟨q,0,none⟩=some (Iv b)) :
  ∃n ex,(ex=true->n=a+b)/\(ex=false->(a<0->a+b < -9223372036854775808)/\(0<=a->9223372036854775807<a+b))/\Calls prog 149 #[Pt p,Pt q] w (Qci w n ex (decide (a<0))):=by
 unfold Qbc at ha hb
 by_cases hlo:a+b < -9223372036854775808
 ·have hw:wrap64 (a+b)=a+b+18446744073709551616:=by unfold wrap64;omega
  have d1:decide (a<0)=true:=zG zo;have d2:decide (b<0)=true:=zG zo;have d3:decide (a+b+18446744073709551616<0)=false:=zH zo;refine⟨wrap64 (a+b),false,by simp,λ_=>⟨λ_=>hlo,λh=>by omega⟩,?_⟩;rw[d1];have HLO:=Zh hlo;clear hlo;go_enter func149,ntmps149;exact QeJ
 ·by_cases hhi:9223372036854775807<a+b
  ·have hw:wrap64 (a+b)=a+b-18446744073709551616:=by unfold wrap64;omega
   have d1:decide (a<0)=false:=zH zo;have d2:decide (b<0)=false:=zH zo;have d3:decide (a+b-18446744073709551616<0)=true:=zG zo;refine⟨wrap64 (a+b),false,by simp,λ_=>⟨λh=>by omega,λ_=>hhi⟩,?_⟩;rw[d1];have HHI:=Zh hhi;clear hhi hlo;go_enter func149,ntmps149;exact QeJ
  ·have h1:-9223372036854775808<=a+b:=zo;have h2:a+b<=9223372036854775807:=zo;refine⟨a+b,true,λ_=>rfl,by simp,?_⟩;clear hlo hhi
   by_cases ca:a<0
   ·have d1:decide (a<0)=true:=zG ca;rw[d1]
    by_cases cb:b<0
    ·have d2:decide (b<0)=true:=zG cb;have d3:decide (a+b<0)=true:=zG zo;clear ca cb;go_enter func149,ntmps149;exact QeJ
    ·have d2:decide (b<0)=false:=zH cb
     skip
     clear ca cb;go_enter func149,ntmps149;exact QeJ
   ·have d1:decide (a<0)=false:=zH ca;rw[d1]
    by_cases cb:b<0
    ·have d2:decide (b<0)=true:=zG cb
     skip
     clear ca cb;go_enter func149,ntmps149;exact QeJ
    ·have d2:decide (b<0)=false:=zH cb;have d3:decide (a+b<0)=false:=zH zo;clear ca cb;go_enter func149,ntmps149;exact QeJ
theorem QiK{P:Prop}(h:P:=by
  go_wp2_with fail;rw[<- hW];clear hW;refine(Calls.mono c ?_);rintro e w1 ⟨rfl,hb1⟩;go_wp2;go_ret
  exact⟨by rw[<- hR.o];rfl,hbW.trans (hb1.mono hbW.size)⟩):P:=h
theorem QjF{P:Prop}(h:P:=by
  unfold Hi Qdc
  cases ex
  ·obtain⟨o1,o2⟩:=ho rfl;simp only[Bool.false_eq_true,if_false,decide_eq_true_eq];unfold Qca QbO
   by_cases h:a<0
   ·rw[if_pos h,if_pos (by have:=o1 h;omega)]
   ·rw[if_neg h,if_neg (by have:=o2 (by omega);omega),if_pos (by have:=o2 (by omega);omega)]
  ·rw[if_pos rfl,hn rfl]):P:=h
def Jfr(a b:Int)(w:World)(ha:Qbc a)(hb:Qbc b):Calls prog 121 #[Iv a,Iv b] w (Qcx w (Qca (a+b))):=by
 have xA:∀(fn:Fn) (first cap:Array Value) (w:World),(Instr.makeFunc fn first cap).run prog w=.ok (.func fn first cap) w:=λ_ _ _ _=>rfl
 obtain⟨W,hW⟩:∃W,W=(w.alloc (.cells #[Iv a] 3)).alloc (.cells #[Iv b] 3):=⟨_,rfl⟩
 have hbW:Below w.heap.size w W:=by rw[hW];exact(zO.alloc (Nat.le_refl _) _).alloc zq _
 have hp:W.cell? ⟨w.heap.size,0,none⟩=some (Iv a):=by rw[hW];exact YD w _ _ 3 3
 have hq:W.cell? ⟨w.heap.size+1,0,none⟩=some (Iv b):=by rw[hW];exact YE w _ _ 3 3
 obtain⟨n,ex,hn,ho,hc⟩:=JnK w.heap.size (w.heap.size+1) a b W ha hb hp hq;have c:=Qjh _ _ _ _ _ _ hc
 have hR:Hi (Qdc n ex (decide (a<0))=Qca (a+b)):=by
  exact QjF
 clear hn ho hc hp hq;go_enter func121,ntmps121;exact QiK
def JnL(p q:Nat)(a b:Int)(w:World)(ha:Qbc a)(hb:Qbc b)(hp:w.cell? ⟨p,0,none⟩=some (Iv a))(hq:w.cell? ⟨q,0,none⟩=some (Iv b)) :
  ∃n ex,(ex=true->n=a-b)/\(ex=false->(a<0->a-b < -9223372036854775808)/\(0<=a->9223372036854775807<a-b))/\Calls prog 148 #[Pt p,Pt q] w (Qci w n ex (decide (a<0))):=by
 unfold Qbc at ha hb
 by_cases hlo:a-b < -9223372036854775808
 ·have hw:wrap64 (a-b)=a-b+18446744073709551616:=by unfold wrap64;omega
  have d1:decide (a<0)=true:=zG zo;have d2:decide (b<0)=false:=zH zo;have d3:decide (a-b+18446744073709551616<0)=false:=zH zo;refine⟨wrap64 (a-b),false,by simp,λ_=>⟨λ_=>hlo,λh=>by omega⟩,?_⟩;rw[d1];have HLO:=Zh hlo;clear hlo;go_enter func148,ntmps148;exact QeJ
 ·by_cases hhi:9223372036854775807<a-b
  ·have hw:wrap64 (a-b)=a-b-18446744073709551616:=by unfold wrap64;omega
   have d1:decide (a<0)=false:=zH zo;have d2:decide (b<0)=true:=zG zo;have d3:decide (a-b-18446744073709551616<0)=true:=zG zo;refine⟨wrap64 (a-b),false,by simp,λ_=>⟨λh=>by omega,λ_=>hhi⟩,?_⟩;rw[d1];have HHI:=Zh hhi;clear hhi hlo;go_enter func148,ntmps148;exact QeJ
  ·have h1:-9223372036854775808<=a-b:=zo;have h2:a-b<=9223372036854775807:=zo;refine⟨a-b,true,λ_=>rfl,by simp,?_⟩;clear hlo hhi
   by_cases ca:a<0
   ·have d1:decide (a<0)=true:=zG ca;rw[d1]
    by_cases cb:b<0
    ·have d2:decide (b<0)=true:=zG cb
     skip
     clear ca cb;go_enter func148,ntmps148;exact QeJ
    ·have d2:decide (b<0)=false:=zH cb;have d3:decide (a-b<0)=true:=zG zo;clear ca cb;go_enter func148,ntmps148;exact QeJ
   ·have d1:decide (a<0)=false:=zH ca;rw[d1]
    by_cases cb:b<0
    ·have d2:decide (b<0)=true:=zG cb;have d3:decide (a-b<0)=false:=zH zo;clear ca cb;go_enter func148,ntmps148;exact QeJ
    ·have d2:decide (b<0)=false:=zH cb
     skip
     clear ca cb;go_enter func148,ntmps148;exact QeJ
def JbM(a b:Int)(w:World)(ha:Qbc a)(hb:Qbc b):Calls prog 120 #[Iv a,Iv b] w (Qcx w (Qca (a-b))):=by
 have xA:∀(fn:Fn) (first cap:Array Value) (w:World),(Instr.makeFunc fn first cap).run prog w=.ok (.func fn first cap) w:=λ_ _ _ _=>rfl
 obtain⟨W,hW⟩:∃W,W=(w.alloc (.cells #[Iv a] 3)).alloc (.cells #[Iv b] 3):=⟨_,rfl⟩
 have hbW:Below w.heap.size w W:=by rw[hW];exact(zO.alloc (Nat.le_refl _) _).alloc zq _
 have hp:W.cell? ⟨w.heap.size,0,none⟩=some (Iv a):=by rw[hW];exact YD w _ _ 3 3
 have hq:W.cell? ⟨w.heap.size+1,0,none⟩=some (Iv b):=by rw[hW];exact YE w _ _ 3 3
 obtain⟨n,ex,hn,ho,hc⟩:=JnL w.heap.size (w.heap.size+1) a b W ha hb hp hq;have c:=Qjg _ _ _ _ _ _ hc
 have hR:Hi (Qdc n ex (decide (a<0))=Qca (a-b)):=by
  exact QjF
 clear hn ho hc hp hq;go_enter func120,ntmps120;exact QiK
end Go.Proofs.YtfafpklefknomaaGreatDoor
