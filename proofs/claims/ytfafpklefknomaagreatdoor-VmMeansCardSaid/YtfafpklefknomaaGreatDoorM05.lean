import Derived.Test.YtfafpklefknomaaGreatDoorM04
import Derived.Test.YtfafpklefknomaaGreatDoorM01
open Nat(add_zero le_refl le_trans one_mul zero_add zero_mul)
namespace Go.Proofs.YtfafpklefknomaaGreatDoor
open Go.ChangeShapes Go.WideShapes Go.ChangeAt Go.RowKit Go.Lib
open _root_.Go.Proofs.Tryz
set_option linter.all false
set_option maxRecDepth 100000
set_option maxHeartbeats 32000000
def Kv(fs:List QaN)(M0:List Int)(k n:Int)(s:By)(o:Int)(l:List Nd):ofN fs M0 (.mk k n s o l) =
  if k=1\/k=5 then (1,[])
  else if k=2 then (M0.getD n.toNat 0,[])
  else if k=3 then ((QaU s).getD 0,[])
  else if k=6\/(8<=k/\k<=12) then (0,Qbp fs M0 0 l)
  else if k=13\/k=14 then (1,Qbp fs M0 0 l)
  else if k=15 then
   match l with
   |[a,b]=>(1,(ofN fs M0 a).2++(ofN fs M0 b).2++if (ofN fs M0 b).1≠(ofN fs M0 a).1 then [b.off] else [])
   |_=>(1,[])
  else if k=7\/k=16\/k=17 then (1,Qbp fs M0 1 l)
  else if k=18 then
   match l with
   |[c,a,b]=>((ofN fs M0 a).1,(ofN fs M0 c).2++(if (ofN fs M0 c).1≠1 then [c.off] else [])++(ofN fs M0 a).2++(ofN fs M0 b).2++if (ofN fs M0 b).1≠(ofN fs M0 a).1 then [b.off] else [])
   |_=>(0,[])
  else if k=19 then
   match l with
   |[a,b]=>((ofN fs (M0++[(ofN fs M0 a).1]) b).1,(ofN fs M0 a).2++(ofN fs (M0++[(ofN fs M0 a).1]) b).2)
   |_=>(0,[])
  else if k=20 then ((fs.getD n.toNat ⟨[],0⟩).result,QgI fs M0 n o l)
  else (0,[]):=by
 conv=>lhs;unfold ofN
 rfl
def QdS(fs:List QaN)(rb:Nat)(M:Value)(n:Nat):Prop:=∀(a:An)(M0:List Int)(vv:Value)(x:Option Int)(w:World),siz a.nd<=n->n+M0.length<=1000000000->Qas fs rb M w x M0 vv a->Calls prog 114 #[Pt rb,.agg (Qaa a),vv] w (TyP w rb M x (ofN fs M0 a.nd).2 (Iv (ofN fs M0 a.nd).1))
def QiG{P:Prop}(h:P:=by
  go_enter func114,ntmps114;go_wp2;rw[HR.o];obtain⟨rfl,rfl⟩:=M6.o
  exact⟨rfl,B3.o.flt,U1.o⟩):P:=h
section
variable (fs:List QaN)(rb:Nat)(M:Value)(hps:∀s∈fs,s.params.length<=1000000000)(n:Nat)(IH:QdS fs rb M n)(nn:Int)(s:By)(off:Int)(b c:Nat)(l:List An)(M0:List Int)(vv:Value)(x:Option Int)(w:World)(hn:Qbd (ndL l)<=n)(hb:n+1+M0.length<=1000000000)
include fs rb M hps n IH nn s off b c l M0 vv x w hn hb
def zAm{P:Prop}(h:P:=by
  show #[_,_,_,_,Qaz b c l]=_
  rw[S3]):P:=h
theorem QkE(hpre:Qas fs rb M w x M0 vv (.mk 1 nn s off b c l))  :
  Calls prog 114 #[Pt rb,.agg (Qaa (.mk 1 nn s off b c l)),vv] w (TyP w rb M x (ofN fs M0 (An.mk 1 nn s off b c l).nd).2 (Iv (ofN fs M0 (An.mk 1 nn s off b c l).nd).1)):=by
 obtain⟨r,hr⟩:=yt (ofN fs M0 (An.mk 1 nn s off b c l).nd)
 rw[hr];obtain⟨ty,es⟩:=r;dsimp only;obtain⟨R,hR⟩:=yt (TyP w rb M x es (Iv ty))
 rw[hR];have HR:Hi (R=TyP w rb M x es (Iv ty)):=hR.symm;rw[An.nd,Kv]at hr;have vA:l.length<=n:=by have:=Jy l;omega
 obtain⟨ad,cc,S3,zA⟩:=Jp b c l
 have xA:Qaa (.mk 1 nn s off b c l)=(za 1 nn s off ad l.length cc):=by
  exact zAm
 have yA:yr w (w.alloc (.cells (Qaa (.mk 1 nn s off b c l)) 127)):=zO.alloc zP _;have uA:=Jb hpre.flt;have C3:w.heap.size≠rb:=zo;have HP:=Zh (hpre.up yA);have U1:=Zh (Chg.of_below yA [rb]);have A0:=Zh (zQ w (.cells (Qaa (.mk 1 nn s off b c l)) 127));have HAD:=Zh zA;have N4:=Zh xA;have HN:=Zh hn;rw[xA]at U1 A0 |-;have B3:Hi (Qas fs rb M (w.alloc (.cells (za 1 nn s off ad l.length cc) 127)) x M0 vv (.mk 1 nn s off b c l)):=by rw[<-xA];exact HP.o
 clear hR yA S3 zA xA uA HP hpre hn;simp at hr;have M6:=Zh hr;clear hr;exact QiG
theorem QkB(hpre:Qas fs rb M w x M0 vv (.mk 5 nn s off b c l))  :
  Calls prog 114 #[Pt rb,.agg (Qaa (.mk 5 nn s off b c l)),vv] w (TyP w rb M x (ofN fs M0 (An.mk 5 nn s off b c l).nd).2 (Iv (ofN fs M0 (An.mk 5 nn s off b c l).nd).1)):=by
 obtain⟨r,hr⟩:=yt (ofN fs M0 (An.mk 5 nn s off b c l).nd)
 rw[hr];obtain⟨ty,es⟩:=r;dsimp only;obtain⟨R,hR⟩:=yt (TyP w rb M x es (Iv ty))
 rw[hR];have HR:Hi (R=TyP w rb M x es (Iv ty)):=hR.symm;rw[An.nd,Kv]at hr;have vA:l.length<=n:=by have:=Jy l;omega
 obtain⟨ad,cc,S3,zA⟩:=Jp b c l
 have xA:Qaa (.mk 5 nn s off b c l)=(za 5 nn s off ad l.length cc):=by
  exact zAm
 have yA:yr w (w.alloc (.cells (Qaa (.mk 5 nn s off b c l)) 127)):=zO.alloc zP _;have uA:=Jb hpre.flt;have C3:w.heap.size≠rb:=zo;have HP:=Zh (hpre.up yA);have U1:=Zh (Chg.of_below yA [rb]);have A0:=Zh (zQ w (.cells (Qaa (.mk 5 nn s off b c l)) 127));have HAD:=Zh zA;have N4:=Zh xA;have HN:=Zh hn;rw[xA]at U1 A0 |-;have B3:Hi (Qas fs rb M (w.alloc (.cells (za 5 nn s off ad l.length cc) 127)) x M0 vv (.mk 5 nn s off b c l)):=by rw[<-xA];exact HP.o
 clear hR yA S3 zA xA uA HP hpre hn;simp at hr;have M6:=Zh hr;clear hr;exact QiG
theorem QkD(hpre:Qas fs rb M w x M0 vv (.mk 2 nn s off b c l))  :
  Calls prog 114 #[Pt rb,.agg (Qaa (.mk 2 nn s off b c l)),vv] w (TyP w rb M x (ofN fs M0 (An.mk 2 nn s off b c l).nd).2 (Iv (ofN fs M0 (An.mk 2 nn s off b c l).nd).1)):=by
 obtain⟨r,hr⟩:=yt (ofN fs M0 (An.mk 2 nn s off b c l).nd)
 rw[hr];obtain⟨ty,es⟩:=r;dsimp only;obtain⟨R,hR⟩:=yt (TyP w rb M x es (Iv ty))
 rw[hR];have HR:Hi (R=TyP w rb M x es (Iv ty)):=hR.symm;rw[An.nd,Kv]at hr;have bA:l.length<=n:=by have:=Jy l;omega
 obtain⟨ad,cc,S3,aA⟩:=Jp b c l
 have xA:Qaa (.mk 2 nn s off b c l)=(za 2 nn s off ad l.length cc):=by
  exact zAm
 have zA:yr w (w.alloc (.cells (Qaa (.mk 2 nn s off b c l)) 127)):=zO.alloc zP _;have cA:=Jb hpre.flt;have C3:w.heap.size≠rb:=zo;have HP:=Zh (hpre.up zA);have U1:=Zh (Chg.of_below zA [rb]);have A0:=Zh (zQ w (.cells (Qaa (.mk 2 nn s off b c l)) 127));have HAD:=Zh aA;have N4:=Zh xA;have HN:=Zh hn;rw[xA]at U1 A0 |-;have B3:Hi (Qas fs rb M (w.alloc (.cells (za 2 nn s off ad l.length cc) 127)) x M0 vv (.mk 2 nn s off b c l)):=by rw[<-xA];exact HP.o
 clear hR zA S3 aA xA cA HP hpre hn;have uA:=B3.o.ok;unfold An.nd QdK at uA;obtain⟨h0,h1⟩:=uA.1 rfl;obtain⟨ix,rfl⟩:∃ix:Nat,nn=(ix:Int):=⟨nn.toNat,by omega⟩
 have yA:ix<M0.length:=zo;have eA:(ix:Int)<(M0.length:Int):=zo;simp at hr;have M6:=Zh hr;obtain⟨u,hu⟩:∃u,M0[ix]?=some u:=⟨M0[ix],List.getElem?_eq_getElem yA⟩
 have HU:=Zh hu
 obtain⟨g,o,dA,vA⟩:∃g o,(∃vc,vv=.slice (some ⟨g,o,none⟩) M0.length vc)/\(w.alloc (.cells (za 2 (ix:Nat) s off ad l.length cc) 127)).cell? ⟨g,o+ix,none⟩=some (Iv u):=by
  rcases B3.o.ints with⟨e,_⟩|⟨g,o,vc,e,_,_,_,e5⟩
  ·rw[e]at yA;exact absurd yA zq
  ·exact⟨g,o,⟨vc,e⟩,e5 ix u hu⟩
 obtain⟨vc,rfl⟩:=dA;clear hr uA h0 h1 hu;go_enter func114,ntmps114;go_wp2;rw[HR.o];obtain⟨h1,rfl⟩:=M6.o;rw[HU.o]at h1;simp at h1;subst h1;exact⟨rfl,B3.o.flt,U1.o⟩
theorem QkC(hpre:Qas fs rb M w x M0 vv (.mk 3 nn s off b c l))  :
  Calls prog 114 #[Pt rb,.agg (Qaa (.mk 3 nn s off b c l)),vv] w (TyP w rb M x (ofN fs M0 (An.mk 3 nn s off b c l).nd).2 (Iv (ofN fs M0 (An.mk 3 nn s off b c l).nd).1)):=by
 obtain⟨r,hr⟩:=yt (ofN fs M0 (An.mk 3 nn s off b c l).nd)
 rw[hr];obtain⟨ty,es⟩:=r;dsimp only;obtain⟨R,hR⟩:=yt (TyP w rb M x es (Iv ty))
 rw[hR];have HR:Hi (R=TyP w rb M x es (Iv ty)):=hR.symm;rw[An.nd,Kv]at hr;have vA:l.length<=n:=by have:=Jy l;omega
 obtain⟨ad,cc,S3,zA⟩:=Jp b c l
 have xA:Qaa (.mk 3 nn s off b c l)=(za 3 nn s off ad l.length cc):=by
  exact zAm
 have yA:yr w (w.alloc (.cells (Qaa (.mk 3 nn s off b c l)) 127)):=zO.alloc zP _;have uA:=Jb hpre.flt;have C3:w.heap.size≠rb:=zo;have HP:=Zh (hpre.up yA);have U1:=Zh (Chg.of_below yA [rb]);have A0:=Zh (zQ w (.cells (Qaa (.mk 3 nn s off b c l)) 127));have HAD:=Zh zA;have N4:=Zh xA;have HN:=Zh hn;rw[xA]at U1 A0 |-;have B3:Hi (Qas fs rb M (w.alloc (.cells (za 3 nn s off ad l.length cc) 127)) x M0 vv (.mk 3 nn s off b c l)):=by rw[<-xA];exact HP.o
 clear hR yA S3 zA xA uA HP hpre hn;simp at hr;have M6:=Zh hr;clear hr;go_enter func114,ntmps114;go_wp2_with fail;refine(Zi s _).mono ?_;rintro e w2 ⟨rfl,rfl⟩;go_wp2;rw[HR.o];obtain⟨rfl,rfl⟩:=M6.o;exact⟨rfl,B3.o.flt,U1.o⟩
end
def Qfq{P:Prop}(h:P:=by
  rw[N4.o]at ca;clear hr IH;go_enter func114,ntmps114;go_wp2_with fail;refine ca.mono ?_;rintro e w2 ⟨rfl,C7,S1⟩;have D7:=Zh C7;have A7:=Zh S1;clear ca C7 S1;go_wp2;rw[HR.o];obtain⟨rfl,rfl⟩:=M6.o
  exact⟨rfl,D7.o,U1.o.trans A7.o⟩):P:=h
section
variable (fs:List QaN)(rb:Nat)(M:Value)(hps:∀s∈fs,s.params.length<=1000000000)(n:Nat)(IH:QdS fs rb M n)(nn:Int)(s:By)(off:Int)(b c:Nat)(l:List An)(M0:List Int)(vv:Value)(x:Option Int)(w:World)(hn:Qbd (ndL l)<=n)(hb:n+1+M0.length<=1000000000)
include fs rb M hps n IH nn s off b c l M0 vv x w hn hb
theorem QkA(hpre:Qas fs rb M w x M0 vv (.mk 6 nn s off b c l))  :
  Calls prog 114 #[Pt rb,.agg (Qaa (.mk 6 nn s off b c l)),vv] w (TyP w rb M x (ofN fs M0 (An.mk 6 nn s off b c l).nd).2 (Iv (ofN fs M0 (An.mk 6 nn s off b c l).nd).1)):=by
 obtain⟨r,hr⟩:=yt (ofN fs M0 (An.mk 6 nn s off b c l).nd)
 rw[hr];obtain⟨ty,es⟩:=r;dsimp only;obtain⟨R,hR⟩:=yt (TyP w rb M x es (Iv ty))
 rw[hR];have HR:Hi (R=TyP w rb M x es (Iv ty)):=hR.symm;rw[An.nd,Kv]at hr;have vA:l.length<=n:=by have:=Jy l;omega
 obtain⟨ad,cc,S3,zA⟩:=Jp b c l
 have xA:Qaa (.mk 6 nn s off b c l)=(za 6 nn s off ad l.length cc):=by
  exact zAm
 have yA:yr w (w.alloc (.cells (Qaa (.mk 6 nn s off b c l)) 127)):=zO.alloc zP _;have uA:=Jb hpre.flt;have C3:w.heap.size≠rb:=zo;have HP:=Zh (hpre.up yA);have U1:=Zh (Chg.of_below yA [rb]);have A0:=Zh (zQ w (.cells (Qaa (.mk 6 nn s off b c l)) 127));have HAD:=Zh zA;have N4:=Zh xA;have HN:=Zh hn;rw[xA]at U1 A0 |-;have B3:Hi (Qas fs rb M (w.alloc (.cells (za 6 nn s off ad l.length cc) 127)) x M0 vv (.mk 6 nn s off b c l)):=by rw[<-xA];exact HP.o
 clear hR yA S3 zA xA uA HP hpre hn;simp at hr;have M6:=Zh hr;have ca:=Z2 fs rb M 6 nn s off b c l M0 vv x 0 _ zp zo B3.o λy hy W x' hp=>JH fs rb M y M0 vv x' 0 W hp λW2 F1=>IH y M0 vv x' W2 (le_trans (JM hy) HN.o) zo F1;exact Qfq
theorem Qky(hpre:Qas fs rb M w x M0 vv (.mk 8 nn s off b c l))  :
  Calls prog 114 #[Pt rb,.agg (Qaa (.mk 8 nn s off b c l)),vv] w (TyP w rb M x (ofN fs M0 (An.mk 8 nn s off b c l).nd).2 (Iv (ofN fs M0 (An.mk 8 nn s off b c l).nd).1)):=by
 obtain⟨r,hr⟩:=yt (ofN fs M0 (An.mk 8 nn s off b c l).nd)
 rw[hr];obtain⟨ty,es⟩:=r;dsimp only;obtain⟨R,hR⟩:=yt (TyP w rb M x es (Iv ty))
 rw[hR];have HR:Hi (R=TyP w rb M x es (Iv ty)):=hR.symm;rw[An.nd,Kv]at hr;have vA:l.length<=n:=by have:=Jy l;omega
 obtain⟨ad,cc,S3,zA⟩:=Jp b c l
 have xA:Qaa (.mk 8 nn s off b c l)=(za 8 nn s off ad l.length cc):=by
  exact zAm
 have yA:yr w (w.alloc (.cells (Qaa (.mk 8 nn s off b c l)) 127)):=zO.alloc zP _;have uA:=Jb hpre.flt;have C3:w.heap.size≠rb:=zo;have HP:=Zh (hpre.up yA);have U1:=Zh (Chg.of_below yA [rb]);have A0:=Zh (zQ w (.cells (Qaa (.mk 8 nn s off b c l)) 127));have HAD:=Zh zA;have N4:=Zh xA;have HN:=Zh hn;rw[xA]at U1 A0 |-;have B3:Hi (Qas fs rb M (w.alloc (.cells (za 8 nn s off ad l.length cc) 127)) x M0 vv (.mk 8 nn s off b c l)):=by rw[<-xA];exact HP.o
 clear hR yA S3 zA xA uA HP hpre hn;simp at hr;have M6:=Zh hr;have ca:=Z2 fs rb M 8 nn s off b c l M0 vv x 0 _ zp zo B3.o λy hy W x' hp=>JH fs rb M y M0 vv x' 0 W hp λW2 F1=>IH y M0 vv x' W2 (le_trans (JM hy) HN.o) zo F1;exact Qfq
theorem Qkx(hpre:Qas fs rb M w x M0 vv (.mk 9 nn s off b c l))  :
  Calls prog 114 #[Pt rb,.agg (Qaa (.mk 9 nn s off b c l)),vv] w (TyP w rb M x (ofN fs M0 (An.mk 9 nn s off b c l).nd).2 (Iv (ofN fs M0 (An.mk 9 nn s off b c l).nd).1)):=by
 obtain⟨r,hr⟩:=yt (ofN fs M0 (An.mk 9 nn s off b c l).nd)
 rw[hr];obtain⟨ty,es⟩:=r;dsimp only;obtain⟨R,hR⟩:=yt (TyP w rb M x es (Iv ty))
 rw[hR];have HR:Hi (R=TyP w rb M x es (Iv ty)):=hR.symm;rw[An.nd,Kv]at hr;have vA:l.length<=n:=by have:=Jy l;omega
 obtain⟨ad,cc,S3,zA⟩:=Jp b c l
 have xA:Qaa (.mk 9 nn s off b c l)=(za 9 nn s off ad l.length cc):=by
  exact zAm
 have yA:yr w (w.alloc (.cells (Qaa (.mk 9 nn s off b c l)) 127)):=zO.alloc zP _;have uA:=Jb hpre.flt;have C3:w.heap.size≠rb:=zo;have HP:=Zh (hpre.up yA);have U1:=Zh (Chg.of_below yA [rb]);have A0:=Zh (zQ w (.cells (Qaa (.mk 9 nn s off b c l)) 127));have HAD:=Zh zA;have N4:=Zh xA;have HN:=Zh hn;rw[xA]at U1 A0 |-;have B3:Hi (Qas fs rb M (w.alloc (.cells (za 9 nn s off ad l.length cc) 127)) x M0 vv (.mk 9 nn s off b c l)):=by rw[<-xA];exact HP.o
 clear hR yA S3 zA xA uA HP hpre hn;simp at hr;have M6:=Zh hr;have ca:=Z2 fs rb M 9 nn s off b c l M0 vv x 0 _ zp zo B3.o λy hy W x' hp=>JH fs rb M y M0 vv x' 0 W hp λW2 F1=>IH y M0 vv x' W2 (le_trans (JM hy) HN.o) zo F1;exact Qfq
theorem Jou(hpre:Qas fs rb M w x M0 vv (.mk 10 nn s off b c l))  :
  Calls prog 114 #[Pt rb,.agg (Qaa (.mk 10 nn s off b c l)),vv] w (TyP w rb M x (ofN fs M0 (An.mk 10 nn s off b c l).nd).2 (Iv (ofN fs M0 (An.mk 10 nn s off b c l).nd).1)):=by
 obtain⟨r,hr⟩:=yt (ofN fs M0 (An.mk 10 nn s off b c l).nd)
 rw[hr];obtain⟨ty,es⟩:=r;dsimp only;obtain⟨R,hR⟩:=yt (TyP w rb M x es (Iv ty))
 rw[hR];have HR:Hi (R=TyP w rb M x es (Iv ty)):=hR.symm;rw[An.nd,Kv]at hr;have vA:l.length<=n:=by have:=Jy l;omega
 obtain⟨ad,cc,S3,zA⟩:=Jp b c l
 have xA:Qaa (.mk 10 nn s off b c l)=(za 10 nn s off ad l.length cc):=by
  exact zAm
 have yA:yr w (w.alloc (.cells (Qaa (.mk 10 nn s off b c l)) 127)):=zO.alloc zP _;have uA:=Jb hpre.flt;have C3:w.heap.size≠rb:=zo;have HP:=Zh (hpre.up yA);have U1:=Zh (Chg.of_below yA [rb]);have A0:=Zh (zQ w (.cells (Qaa (.mk 10 nn s off b c l)) 127));have HAD:=Zh zA;have N4:=Zh xA;have HN:=Zh hn;rw[xA]at U1 A0 |-;have B3:Hi (Qas fs rb M (w.alloc (.cells (za 10 nn s off ad l.length cc) 127)) x M0 vv (.mk 10 nn s off b c l)):=by rw[<-xA];exact HP.o
 clear hR yA S3 zA xA uA HP hpre hn;simp at hr;have M6:=Zh hr;have ca:=Z2 fs rb M 10 nn s off b c l M0 vv x 0 _ zp zo B3.o λy hy W x' hp=>JH fs rb M y M0 vv x' 0 W hp λW2 F1=>IH y M0 vv x' W2 (le_trans (JM hy) HN.o) zo F1;exact Qfq
theorem Jov(hpre:Qas fs rb M w x M0 vv (.mk 11 nn s off b c l))  :
  Calls prog 114 #[Pt rb,.agg (Qaa (.mk 11 nn s off b c l)),vv] w (TyP w rb M x (ofN fs M0 (An.mk 11 nn s off b c l).nd).2 (Iv (ofN fs M0 (An.mk 11 nn s off b c l).nd).1)):=by
 obtain⟨r,hr⟩:=yt (ofN fs M0 (An.mk 11 nn s off b c l).nd)
 rw[hr];obtain⟨ty,es⟩:=r;dsimp only;obtain⟨R,hR⟩:=yt (TyP w rb M x es (Iv ty))
 rw[hR];have HR:Hi (R=TyP w rb M x es (Iv ty)):=hR.symm;rw[An.nd,Kv]at hr;have vA:l.length<=n:=by have:=Jy l;omega
 obtain⟨ad,cc,S3,zA⟩:=Jp b c l
 have xA:Qaa (.mk 11 nn s off b c l)=(za 11 nn s off ad l.length cc):=by
  exact zAm
 have yA:yr w (w.alloc (.cells (Qaa (.mk 11 nn s off b c l)) 127)):=zO.alloc zP _;have uA:=Jb hpre.flt;have C3:w.heap.size≠rb:=zo;have HP:=Zh (hpre.up yA);have U1:=Zh (Chg.of_below yA [rb]);have A0:=Zh (zQ w (.cells (Qaa (.mk 11 nn s off b c l)) 127));have HAD:=Zh zA;have N4:=Zh xA;have HN:=Zh hn;rw[xA]at U1 A0 |-;have B3:Hi (Qas fs rb M (w.alloc (.cells (za 11 nn s off ad l.length cc) 127)) x M0 vv (.mk 11 nn s off b c l)):=by rw[<-xA];exact HP.o
 clear hR yA S3 zA xA uA HP hpre hn;simp at hr;have M6:=Zh hr;have ca:=Z2 fs rb M 11 nn s off b c l M0 vv x 0 _ zp zo B3.o λy hy W x' hp=>JH fs rb M y M0 vv x' 0 W hp λW2 F1=>IH y M0 vv x' W2 (le_trans (JM hy) HN.o) zo F1;exact Qfq
theorem Jow(hpre:Qas fs rb M w x M0 vv (.mk 12 nn s off b c l))  :
  Calls prog 114 #[Pt rb,.agg (Qaa (.mk 12 nn s off b c l)),vv] w (TyP w rb M x (ofN fs M0 (An.mk 12 nn s off b c l).nd).2 (Iv (ofN fs M0 (An.mk 12 nn s off b c l).nd).1)):=by
 obtain⟨r,hr⟩:=yt (ofN fs M0 (An.mk 12 nn s off b c l).nd)
 rw[hr];obtain⟨ty,es⟩:=r;dsimp only;obtain⟨R,hR⟩:=yt (TyP w rb M x es (Iv ty))
 rw[hR];have HR:Hi (R=TyP w rb M x es (Iv ty)):=hR.symm;rw[An.nd,Kv]at hr;have vA:l.length<=n:=by have:=Jy l;omega
 obtain⟨ad,cc,S3,zA⟩:=Jp b c l
 have xA:Qaa (.mk 12 nn s off b c l)=(za 12 nn s off ad l.length cc):=by
  exact zAm
 have yA:yr w (w.alloc (.cells (Qaa (.mk 12 nn s off b c l)) 127)):=zO.alloc zP _;have uA:=Jb hpre.flt;have C3:w.heap.size≠rb:=zo;have HP:=Zh (hpre.up yA);have U1:=Zh (Chg.of_below yA [rb]);have A0:=Zh (zQ w (.cells (Qaa (.mk 12 nn s off b c l)) 127));have HAD:=Zh zA;have N4:=Zh xA;have HN:=Zh hn;rw[xA]at U1 A0 |-;have B3:Hi (Qas fs rb M (w.alloc (.cells (za 12 nn s off ad l.length cc) 127)) x M0 vv (.mk 12 nn s off b c l)):=by rw[<-xA];exact HP.o
 clear hR yA S3 zA xA uA HP hpre hn;simp at hr;have M6:=Zh hr;have ca:=Z2 fs rb M 12 nn s off b c l M0 vv x 0 _ zp zo B3.o λy hy W x' hp=>JH fs rb M y M0 vv x' 0 W hp λW2 F1=>IH y M0 vv x' W2 (le_trans (JM hy) HN.o) zo F1;exact Qfq
theorem Jox(hpre:Qas fs rb M w x M0 vv (.mk 13 nn s off b c l))  :
  Calls prog 114 #[Pt rb,.agg (Qaa (.mk 13 nn s off b c l)),vv] w (TyP w rb M x (ofN fs M0 (An.mk 13 nn s off b c l).nd).2 (Iv (ofN fs M0 (An.mk 13 nn s off b c l).nd).1)):=by
 obtain⟨r,hr⟩:=yt (ofN fs M0 (An.mk 13 nn s off b c l).nd)
 rw[hr];obtain⟨ty,es⟩:=r;dsimp only;obtain⟨R,hR⟩:=yt (TyP w rb M x es (Iv ty))
 rw[hR];have HR:Hi (R=TyP w rb M x es (Iv ty)):=hR.symm;rw[An.nd,Kv]at hr;have vA:l.length<=n:=by have:=Jy l;omega
 obtain⟨ad,cc,S3,zA⟩:=Jp b c l
 have xA:Qaa (.mk 13 nn s off b c l)=(za 13 nn s off ad l.length cc):=by
  exact zAm
 have yA:yr w (w.alloc (.cells (Qaa (.mk 13 nn s off b c l)) 127)):=zO.alloc zP _;have uA:=Jb hpre.flt;have C3:w.heap.size≠rb:=zo;have HP:=Zh (hpre.up yA);have U1:=Zh (Chg.of_below yA [rb]);have A0:=Zh (zQ w (.cells (Qaa (.mk 13 nn s off b c l)) 127));have HAD:=Zh zA;have N4:=Zh xA;have HN:=Zh hn;rw[xA]at U1 A0 |-;have B3:Hi (Qas fs rb M (w.alloc (.cells (za 13 nn s off ad l.length cc) 127)) x M0 vv (.mk 13 nn s off b c l)):=by rw[<-xA];exact HP.o
 clear hR yA S3 zA xA uA HP hpre hn;simp at hr;have M6:=Zh hr;have ca:=Z2 fs rb M 13 nn s off b c l M0 vv x 0 _ zp zo B3.o λy hy W x' hp=>JH fs rb M y M0 vv x' 0 W hp λW2 F1=>IH y M0 vv x' W2 (le_trans (JM hy) HN.o) zo F1;exact Qfq
theorem Joy(hpre:Qas fs rb M w x M0 vv (.mk 14 nn s off b c l))  :
  Calls prog 114 #[Pt rb,.agg (Qaa (.mk 14 nn s off b c l)),vv] w (TyP w rb M x (ofN fs M0 (An.mk 14 nn s off b c l).nd).2 (Iv (ofN fs M0 (An.mk 14 nn s off b c l).nd).1)):=by
 obtain⟨r,hr⟩:=yt (ofN fs M0 (An.mk 14 nn s off b c l).nd)
 rw[hr];obtain⟨ty,es⟩:=r;dsimp only;obtain⟨R,hR⟩:=yt (TyP w rb M x es (Iv ty))
 rw[hR];have HR:Hi (R=TyP w rb M x es (Iv ty)):=hR.symm;rw[An.nd,Kv]at hr;have vA:l.length<=n:=by have:=Jy l;omega
 obtain⟨ad,cc,S3,zA⟩:=Jp b c l
 have xA:Qaa (.mk 14 nn s off b c l)=(za 14 nn s off ad l.length cc):=by
  exact zAm
 have yA:yr w (w.alloc (.cells (Qaa (.mk 14 nn s off b c l)) 127)):=zO.alloc zP _;have uA:=Jb hpre.flt;have C3:w.heap.size≠rb:=zo;have HP:=Zh (hpre.up yA);have U1:=Zh (Chg.of_below yA [rb]);have A0:=Zh (zQ w (.cells (Qaa (.mk 14 nn s off b c l)) 127));have HAD:=Zh zA;have N4:=Zh xA;have HN:=Zh hn;rw[xA]at U1 A0 |-;have B3:Hi (Qas fs rb M (w.alloc (.cells (za 14 nn s off ad l.length cc) 127)) x M0 vv (.mk 14 nn s off b c l)):=by rw[<-xA];exact HP.o
 clear hR yA S3 zA xA uA HP hpre hn;simp at hr;have M6:=Zh hr;have ca:=Z2 fs rb M 14 nn s off b c l M0 vv x 0 _ zp zo B3.o λy hy W x' hp=>JH fs rb M y M0 vv x' 0 W hp λW2 F1=>IH y M0 vv x' W2 (le_trans (JM hy) HN.o) zo F1;exact Qfq
theorem Qkz(hpre:Qas fs rb M w x M0 vv (.mk 7 nn s off b c l))  :
  Calls prog 114 #[Pt rb,.agg (Qaa (.mk 7 nn s off b c l)),vv] w (TyP w rb M x (ofN fs M0 (An.mk 7 nn s off b c l).nd).2 (Iv (ofN fs M0 (An.mk 7 nn s off b c l).nd).1)):=by
 obtain⟨r,hr⟩:=yt (ofN fs M0 (An.mk 7 nn s off b c l).nd)
 rw[hr];obtain⟨ty,es⟩:=r;dsimp only;obtain⟨R,hR⟩:=yt (TyP w rb M x es (Iv ty))
 rw[hR];have HR:Hi (R=TyP w rb M x es (Iv ty)):=hR.symm;rw[An.nd,Kv]at hr;have vA:l.length<=n:=by have:=Jy l;omega
 obtain⟨ad,cc,S3,zA⟩:=Jp b c l
 have xA:Qaa (.mk 7 nn s off b c l)=(za 7 nn s off ad l.length cc):=by
  exact zAm
 have yA:yr w (w.alloc (.cells (Qaa (.mk 7 nn s off b c l)) 127)):=zO.alloc zP _;have uA:=Jb hpre.flt;have C3:w.heap.size≠rb:=zo;have HP:=Zh (hpre.up yA);have U1:=Zh (Chg.of_below yA [rb]);have A0:=Zh (zQ w (.cells (Qaa (.mk 7 nn s off b c l)) 127));have HAD:=Zh zA;have N4:=Zh xA;have HN:=Zh hn;rw[xA]at U1 A0 |-;have B3:Hi (Qas fs rb M (w.alloc (.cells (za 7 nn s off ad l.length cc) 127)) x M0 vv (.mk 7 nn s off b c l)):=by rw[<-xA];exact HP.o
 clear hR yA S3 zA xA uA HP hpre hn;simp at hr;have M6:=Zh hr;have ca:=Z2 fs rb M 7 nn s off b c l M0 vv x 1 _ zp zo B3.o λy hy W x' hp=>JH fs rb M y M0 vv x' 1 W hp λW2 F1=>IH y M0 vv x' W2 (le_trans (JM hy) HN.o) zo F1;exact Qfq
theorem Joz(hpre:Qas fs rb M w x M0 vv (.mk 16 nn s off b c l))  :
  Calls prog 114 #[Pt rb,.agg (Qaa (.mk 16 nn s off b c l)),vv] w (TyP w rb M x (ofN fs M0 (An.mk 16 nn s off b c l).nd).2 (Iv (ofN fs M0 (An.mk 16 nn s off b c l).nd).1)):=by
 obtain⟨r,hr⟩:=yt (ofN fs M0 (An.mk 16 nn s off b c l).nd)
 rw[hr];obtain⟨ty,es⟩:=r;dsimp only;obtain⟨R,hR⟩:=yt (TyP w rb M x es (Iv ty))
 rw[hR];have HR:Hi (R=TyP w rb M x es (Iv ty)):=hR.symm;rw[An.nd,Kv]at hr;have vA:l.length<=n:=by have:=Jy l;omega
 obtain⟨ad,cc,S3,zA⟩:=Jp b c l
 have xA:Qaa (.mk 16 nn s off b c l)=(za 16 nn s off ad l.length cc):=by
  exact zAm
 have yA:yr w (w.alloc (.cells (Qaa (.mk 16 nn s off b c l)) 127)):=zO.alloc zP _;have uA:=Jb hpre.flt;have C3:w.heap.size≠rb:=zo;have HP:=Zh (hpre.up yA);have U1:=Zh (Chg.of_below yA [rb]);have A0:=Zh (zQ w (.cells (Qaa (.mk 16 nn s off b c l)) 127));have HAD:=Zh zA;have N4:=Zh xA;have HN:=Zh hn;rw[xA]at U1 A0 |-;have B3:Hi (Qas fs rb M (w.alloc (.cells (za 16 nn s off ad l.length cc) 127)) x M0 vv (.mk 16 nn s off b c l)):=by rw[<-xA];exact HP.o
 clear hR yA S3 zA xA uA HP hpre hn;simp at hr;have M6:=Zh hr;have ca:=Z2 fs rb M 16 nn s off b c l M0 vv x 1 _ zp zo B3.o λy hy W x' hp=>JH fs rb M y M0 vv x' 1 W hp λW2 F1=>IH y M0 vv x' W2 (le_trans (JM hy) HN.o) zo F1;exact Qfq
theorem JoA(hpre:Qas fs rb M w x M0 vv (.mk 17 nn s off b c l))  :
  Calls prog 114 #[Pt rb,.agg (Qaa (.mk 17 nn s off b c l)),vv] w (TyP w rb M x (ofN fs M0 (An.mk 17 nn s off b c l).nd).2 (Iv (ofN fs M0 (An.mk 17 nn s off b c l).nd).1)):=by
 obtain⟨r,hr⟩:=yt (ofN fs M0 (An.mk 17 nn s off b c l).nd)
 rw[hr];obtain⟨ty,es⟩:=r;dsimp only;obtain⟨R,hR⟩:=yt (TyP w rb M x es (Iv ty))
 rw[hR];have HR:Hi (R=TyP w rb M x es (Iv ty)):=hR.symm;rw[An.nd,Kv]at hr;have vA:l.length<=n:=by have:=Jy l;omega
 obtain⟨ad,cc,S3,zA⟩:=Jp b c l
 have xA:Qaa (.mk 17 nn s off b c l)=(za 17 nn s off ad l.length cc):=by
  exact zAm
 have yA:yr w (w.alloc (.cells (Qaa (.mk 17 nn s off b c l)) 127)):=zO.alloc zP _;have uA:=Jb hpre.flt;have C3:w.heap.size≠rb:=zo;have HP:=Zh (hpre.up yA);have U1:=Zh (Chg.of_below yA [rb]);have A0:=Zh (zQ w (.cells (Qaa (.mk 17 nn s off b c l)) 127));have HAD:=Zh zA;have N4:=Zh xA;have HN:=Zh hn;rw[xA]at U1 A0 |-;have B3:Hi (Qas fs rb M (w.alloc (.cells (za 17 nn s off ad l.length cc) 127)) x M0 vv (.mk 17 nn s off b c l)):=by rw[<-xA];exact HP.o
 clear hR yA S3 zA xA uA HP hpre hn;simp at hr;have M6:=Zh hr;have ca:=Z2 fs rb M 17 nn s off b c l M0 vv x 1 _ zp zo B3.o λy hy W x' hp=>JH fs rb M y M0 vv x' 1 W hp λW2 F1=>IH y M0 vv x' W2 (le_trans (JM hy) HN.o) zo F1;exact Qfq
theorem JoB(hpre:Qas fs rb M w x M0 vv (.mk 20 nn s off b c l))  :
  Calls prog 114 #[Pt rb,.agg (Qaa (.mk 20 nn s off b c l)),vv] w (TyP w rb M x (ofN fs M0 (An.mk 20 nn s off b c l).nd).2 (Iv (ofN fs M0 (An.mk 20 nn s off b c l).nd).1)):=by
 obtain⟨r,hr⟩:=yt (ofN fs M0 (An.mk 20 nn s off b c l).nd)
 rw[hr];obtain⟨ty,es⟩:=r;dsimp only;obtain⟨R,hR⟩:=yt (TyP w rb M x es (Iv ty))
 rw[hR];have HR:Hi (R=TyP w rb M x es (Iv ty)):=hR.symm;rw[An.nd,Kv]at hr;have vA:l.length<=n:=by have:=Jy l;omega
 obtain⟨ad,cc,S3,zA⟩:=Jp b c l
 have xA:Qaa (.mk 20 nn s off b c l)=(za 20 nn s off ad l.length cc):=by
  exact zAm
 have yA:yr w (w.alloc (.cells (Qaa (.mk 20 nn s off b c l)) 127)):=zO.alloc zP _;have uA:=Jb hpre.flt;have C3:w.heap.size≠rb:=zo;have HP:=Zh (hpre.up yA);have U1:=Zh (Chg.of_below yA [rb]);have A0:=Zh (zQ w (.cells (Qaa (.mk 20 nn s off b c l)) 127));have HAD:=Zh zA;have N4:=Zh xA;have HN:=Zh hn;rw[xA]at U1 A0 |-;have B3:Hi (Qas fs rb M (w.alloc (.cells (za 20 nn s off ad l.length cc) 127)) x M0 vv (.mk 20 nn s off b c l)):=by rw[<-xA];exact HP.o
 clear hR yA S3 zA xA uA HP hpre hn;simp at hr;have M6:=Zh hr;have ca:=Jhs fs rb M nn s off b c l M0 vv x _ zo B3.o hps λy hy W x' F1=>IH y M0 vv x' W (le_trans (JM hy) HN.o) zo F1;rw[N4.o]at ca;clear hr IH;go_enter func114,ntmps114;go_wp2_with fail;refine ca.mono ?_;rintro e w2 ⟨rfl,C7,S1⟩;have D7:=Zh C7;have A7:=Zh S1;clear ca C7 S1;go_wp2;rw[HR.o];obtain⟨h1,rfl⟩:=M6.o;refine⟨?_,D7.o,U1.o.trans A7.o⟩;rw[<-h1];simp
end
def JlY(fs:List QaN)(rb:Nat)(M:Value)(hps:∀s∈fs,s.params.length<=1000000000)(n:Nat)(IH:QdS fs rb M n)(k nn:Int)(s:By)(off:Int)(b c:Nat)(l:List An)(M0:List Int)(vv:Value)(x:Option Int)(w:World)(hn:Qbd (ndL l)<=n)(hb:n+1+M0.length<=1000000000)(hpre:Qas fs rb M w x M0 vv (.mk k nn s off b c l))(hk:k≠1/\k≠5/\k≠2/\k≠3/\k≠6/\k≠8/\k≠9/\k≠10/\k≠11/\k≠12/\k≠13/\k≠14/\k≠15/\k≠7/\k≠16/\k≠17/\k≠18/\k≠19/\k≠20):
  Calls prog 114 #[Pt rb,.agg (Qaa (.mk k nn s off b c l)),vv] w (TyP w rb M x (ofN fs M0 (An.mk k nn s off b c l).nd).2 (Iv (ofN fs M0 (An.mk k nn s off b c l).nd).1)):=by
 obtain⟨r,hr⟩:=yt (ofN fs M0 (An.mk k nn s off b c l).nd)
 rw[hr];obtain⟨ty,es⟩:=r;dsimp only;obtain⟨R,hR⟩:=yt (TyP w rb M x es (Iv ty))
 rw[hR];have HR:Hi (R=TyP w rb M x es (Iv ty)):=hR.symm;rw[An.nd,Kv]at hr;have uA:l.length<=n:=by have:=Jy l;omega
 obtain⟨ad,cc,S3,zA⟩:=Jp b c l
 have xA:Qaa (.mk k nn s off b c l)=(za k nn s off ad l.length cc):=by
  exact zAm
 have yA:yr w (w.alloc (.cells (Qaa (.mk k nn s off b c l)) 127)):=zO.alloc zP _;have vA:=Jb hpre.flt;have C3:w.heap.size≠rb:=zo;have HP:=Zh (hpre.up yA);have U1:=Zh (Chg.of_below yA [rb]);have A0:=Zh (zQ w (.cells (Qaa (.mk k nn s off b c l)) 127));have HAD:=Zh zA;have N4:=Zh xA;have HN:=Zh hn;rw[xA]at U1 A0 |-;have B3:Hi (Qas fs rb M (w.alloc (.cells (za k nn s off ad l.length cc) 127)) x M0 vv (.mk k nn s off b c l)):=by rw[<-xA];exact HP.o
 clear hR yA S3 zA xA vA HP hpre hn;have q1:(k==1)=false:=zM hk.1;have q5:(k==5)=false:=zM hk.2.1;have q2:(k==2)=false:=zM hk.2.2.1;have q3:(k==3)=false:=zM hk.2.2.2.1;have q6:(k==6)=false:=zM hk.2.2.2.2.1;have q8:(k==8)=false:=zM hk.2.2.2.2.2.1;have q9:(k==9)=false:=zM hk.2.2.2.2.2.2.1;have gA:(k==10)=false:=zM hk.2.2.2.2.2.2.2.1;have jA:(k==11)=false:=zM hk.2.2.2.2.2.2.2.2.1;have hA:(k==12)=false:=zM hk.2.2.2.2.2.2.2.2.2.1;have cA:(k==13)=false:=zM hk.2.2.2.2.2.2.2.2.2.2.1;have dA:(k==14)=false:=zM hk.2.2.2.2.2.2.2.2.2.2.2.1;have aA:(k==15)=false:=zM hk.2.2.2.2.2.2.2.2.2.2.2.2.1;have q7:(k==7)=false:=zM hk.2.2.2.2.2.2.2.2.2.2.2.2.2.1;have mA:(k==16)=false:=zM hk.2.2.2.2.2.2.2.2.2.2.2.2.2.2.1;have iA:(k==17)=false:=zM hk.2.2.2.2.2.2.2.2.2.2.2.2.2.2.2.1;have eA:(k==18)=false:=zM hk.2.2.2.2.2.2.2.2.2.2.2.2.2.2.2.2.1;have kA:(k==19)=false:=zM hk.2.2.2.2.2.2.2.2.2.2.2.2.2.2.2.2.2.1;have bA:(k==20)=false:=zM hk.2.2.2.2.2.2.2.2.2.2.2.2.2.2.2.2.2.2;(iterate 10 rw[if_neg zo]at hr);simp at hr;have M6:=Zh hr;clear hr hk;exact QiG
def ux2{P:Prop}(h:P:=by
  have c0:=hcl 0 _ rfl;have c1:=hcl 1 _ rfl;have c2:=hcl 2 _ rfl;have c3:=hcl 3 _ rfl;have c4:=hcl 4 _ rfl;simp only[Nat.zero_add,Nat.zero_mul,Nat.one_mul,Nat.reduceMul,Nat.reduceAdd,Nat.add_zero]at c0 c1 c2 c3 c4;go_simp;clear hat hcl c0 c1 c2 c3 c4;refine hK.out _ _ trivial (λhH=>?_);clear hK K
  try simp only[Act.put,ZA,ZB,ZC]
  refine ZS 12 rfl (λK hK=>?_);have cn:=IH y M0 vv _ _ OC.o (by omega) (G3.o.kid (by decide) y (by simp));rw[S7.o]at cn
  (go_simp;go_at_call 114;refine cn.mono ?_;intro e w5 h5)
  obtain⟨SE,LC,S4⟩:=h5;subst SE;replace G3:=Zh (G3.o.chg S4 LC);replace Q1:=Zh (S4.heap_some (by simp;exact C3) Q1.o);replace U1:=Zh (U1.o.trans S4);clear LC S4 cn;refine hK.out _ _ trivial (λhH=>?_);clear hK K
  try simp only[Act.put,ZA,ZB,ZC]
  refine ZS 13 rfl (λK hK=>?_);have cn:=JH fs rb M z M0 vv _ (ofN fs M0 y.nd).1 _ (G3.o.kid (by decide) z (by simp)) (λW2 F1=>IH z M0 vv _ W2 DB.o (by omega) F1);rw[P5.o]at cn
  (go_simp;go_at_call 57;refine cn.mono ?_;intro e w6 h6)
  obtain⟨n9,N8,O1⟩:=h6;subst n9;have MA:=Zh N8;replace U1:=Zh (U1.o.trans O1);clear N8 O1 cn;refine hK.out _ _ trivial (λhH=>?_);clear hK K
  try simp only[Act.put,ZA,ZB,ZC]
  refine wpAnyH_done (by kernel_rfl) ?_ _;go_wp2;rw[HR.o,M6.o.1,M6.o.2]
  exact⟨rfl,by rw[Jw];exact MA.o,U1.o⟩):P:=h
def ux9{P:Prop}(h:P:=by
  try simp only[Act.put,ZA,ZB,ZC]
  refine ZR (rs:=[4,12]) (AllReadyH.cons rfl (λK hK=>?_) (AllReadyH.cons rfl (λK hK=>?_) AllReadyH.nil))
  ·have hat:=G3.o.at';unfold An.At at hat;have hcl:=(JW (i:=1) hat.2 rfl).1;rw[P5.o]at hcl;exact ux2
  ·have cn:=IH y M0 vv _ _ OC.o (by omega) (G3.o.kid (by decide) y (by simp));rw[S7.o]at cn
   (go_simp;go_at_call 114;refine cn.mono ?_;intro e w5 h5)
   obtain⟨SE,LC,S4⟩:=h5;subst SE;replace G3:=Zh (G3.o.chg S4 LC);replace Q1:=Zh (S4.heap_some (by simp;exact C3) Q1.o);replace U1:=Zh (U1.o.trans S4);clear LC S4 cn;refine hK.out _ _ trivial (λhH=>?_);clear hK K
   try simp only[Act.put,ZA,ZB,ZC]
   refine ZS 4 rfl (λK hK=>?_);have hat:=G3.o.at';unfold An.At at hat;have hcl:=(JW (i:=1) hat.2 rfl).1;rw[P5.o]at hcl;have c0:=hcl 0 _ rfl;have c1:=hcl 1 _ rfl;have c2:=hcl 2 _ rfl;have c3:=hcl 3 _ rfl;have c4:=hcl 4 _ rfl;simp only[Nat.zero_add,Nat.zero_mul,Nat.one_mul,Nat.reduceMul,Nat.reduceAdd,Nat.add_zero]at c0 c1 c2 c3 c4;go_simp;clear hat hcl c0 c1 c2 c3 c4;refine hK.out _ _ trivial (λhH=>?_);clear hK K
   try simp only[Act.put,ZA,ZB,ZC]
   refine ZS 13 rfl (λK hK=>?_);have cn:=JH fs rb M z M0 vv _ (ofN fs M0 y.nd).1 _ (G3.o.kid (by decide) z (by simp)) (λW2 F1=>IH z M0 vv _ W2 DB.o (by omega) F1);rw[P5.o]at cn
   (go_simp;go_at_call 57;refine cn.mono ?_;intro e w6 h6)
   obtain⟨n9,N8,O1⟩:=h6;subst n9;have MA:=Zh N8;replace U1:=Zh (U1.o.trans O1);clear N8 O1 cn;refine hK.out _ _ trivial (λhH=>?_);clear hK K
   try simp only[Act.put,ZA,ZB,ZC]
   refine wpAnyH_done (by kernel_rfl) ?_ _;go_wp2;rw[HR.o,M6.o.1,M6.o.2]
   exact⟨rfl,by rw[Jw];exact MA.o,U1.o⟩):P:=h
def QhW{P:Prop}(h:P:=by
  try simp only[Act.put,ZA,ZB,ZC]
  refine ZS 10 rfl (λK hK=>?_);have hat:=G3.o.at';unfold An.At at hat;have hcl:=(JW (i:=0) hat.2 rfl).1;rw[S7.o]at hcl
  exact ux2):P:=h
def Qke{P:Prop}(h:P:=by
  try simp only[Act.put,ZA,ZB,ZC]
  refine ZR (rs:=[4,10]) (AllReadyH.cons rfl (λK hK=>?_) (AllReadyH.cons rfl (λK hK=>?_) AllReadyH.nil))
  ·have hat:=G3.o.at';unfold An.At at hat;have hcl:=(JW (i:=1) hat.2 rfl).1;rw[P5.o]at hcl;have c0:=hcl 0 _ rfl;have c1:=hcl 1 _ rfl;have c2:=hcl 2 _ rfl;have c3:=hcl 3 _ rfl;have c4:=hcl 4 _ rfl;simp only[Nat.zero_add,Nat.zero_mul,Nat.one_mul,Nat.reduceMul,Nat.reduceAdd,Nat.add_zero]at c0 c1 c2 c3 c4;go_simp;clear hat hcl c0 c1 c2 c3 c4;refine hK.out _ _ trivial (λhH=>?_);clear hK K;exact QhW
  ·have hat:=G3.o.at';unfold An.At at hat;have hcl:=(JW (i:=0) hat.2 rfl).1;rw[S7.o]at hcl;have c0:=hcl 0 _ rfl;have c1:=hcl 1 _ rfl;have c2:=hcl 2 _ rfl;have c3:=hcl 3 _ rfl;have c4:=hcl 4 _ rfl;simp only[Nat.zero_add,Nat.zero_mul,Nat.one_mul,Nat.reduceMul,Nat.reduceAdd,Nat.add_zero]at c0 c1 c2 c3 c4;go_simp;clear hat hcl c0 c1 c2 c3 c4;refine hK.out _ _ trivial (λhH=>?_);clear hK K
   exact ux9):P:=h
def Qgq{P:Prop}(h:P:=by
  try simp only[Act.put,ZA,ZB,ZC]
  refine wpAnyH_done (by kernel_rfl) ?_ _;go_wp2;rw[HR.o,M6.o.1,M6.o.2]
  exact⟨rfl,by rw[Jw];exact MA.o,U1.o⟩):P:=h
section
variable (fs:List QaN)(rb:Nat)(M:Value)(hps:∀s∈fs,s.params.length<=1000000000)(n:Nat)(IH:QdS fs rb M n)(nn:Int)(s:By)(off:Int)(b c:Nat)(l:List An)(M0:List Int)(vv:Value)(x:Option Int)(w:World)(hn:Qbd (ndL l)<=n)(hb:n+1+M0.length<=1000000000)
include fs rb M hps n IH nn s off b c l M0 vv x w hn hb
theorem JoC(hpre:Qas fs rb M w x M0 vv (.mk 15 nn s off b c l))  :
  Calls prog 114 #[Pt rb,.agg (Qaa (.mk 15 nn s off b c l)),vv] w (TyP w rb M x (ofN fs M0 (An.mk 15 nn s off b c l).nd).2 (Iv (ofN fs M0 (An.mk 15 nn s off b c l).nd).1)):=by
 obtain⟨r,hr⟩:=yt (ofN fs M0 (An.mk 15 nn s off b c l).nd)
 rw[hr];obtain⟨ty,es⟩:=r;dsimp only;obtain⟨R,hR⟩:=yt (TyP w rb M x es (Iv ty))
 rw[hR];have HR:Hi (R=TyP w rb M x es (Iv ty)):=hR.symm;rw[An.nd,Kv]at hr;have eA:l.length<=n:=by have:=Jy l;omega
 obtain⟨ad,cc,S3,cA⟩:=Jp b c l
 have vA:Qaa (.mk 15 nn s off b c l)=(za 15 nn s off ad l.length cc):=by
  exact zAm
 have aA:yr w (w.alloc (.cells (Qaa (.mk 15 nn s off b c l)) 127)):=zO.alloc (Nat.le_refl _) _;have gA:=Jb hpre.flt;have C3:w.heap.size≠rb:=zo;have HP:=Zh (hpre.up aA);have U1:=Zh (Chg.of_below aA [rb]);have A0:=Zh (zQ w (.cells (Qaa (.mk 15 nn s off b c l)) 127));have HAD:=Zh cA;have N4:=Zh vA;have HN:=Zh hn;rw[vA]at U1 A0 |-;have B3:Hi (Qas fs rb M (w.alloc (.cells (za 15 nn s off ad l.length cc) 127)) x M0 vv (.mk 15 nn s off b c l)):=by rw[<-vA];exact HP.o
 clear hR aA S3 cA vA gA HP hpre hn
 obtain⟨y,z,dA⟩:∃y z,l=[y,z]:=by
  have hwf:=B3.o.wf;unfold An.nd WfN at hwf;have h2:=hwf.2.1 rfl;rw[Kk,List.length_map]at h2
  match l,h2 with
  |[y,z],_=>exact⟨y,z,rfl⟩
 subst dA;have X3:ad=some ⟨b,0,none⟩:=HAD.o zq;subst X3;obtain⟨yA,yn,yc,uA⟩:=Jg y;have S7:=Zh uA;clear uA;have OC:Hi (siz y.nd<=n):=le_trans (JM (by simp:y∈[y,z])) HN.o;obtain⟨zA,zn,zc,xA⟩:=Jg z;have P5:=Zh xA;clear xA;have DB:Hi (siz z.nd<=n):=le_trans (JM (by simp:z∈[y,z])) HN.o
 have bA:ty=1/\es=(ofN fs M0 y.nd).2++QbF fs M0 (ofN fs M0 y.nd).1 z.nd:=by
  simp[ndL]at hr;obtain⟨h1,h2⟩:=hr;refine⟨h1.symm,?_⟩;rw[<-h2];simp[QbF]
 have M6:=Zh bA;have G3:=B3;have Q1:=A0;clear hr bA B3 A0 HAD N4 HN;go_enter func114,ntmps114;go_upto_region 22 with fail;generalize World.alloc w _=w1 at*;generalize w.heap.size=cb at*;refine wp_region_held_drew (S:=λ_=>True) zk (trivial) λhH=>?_;have hD:yr w1 w1.drew:=(Below.refl w1.heap.size w1).drew;replace G3:=Zh (G3.o.up hD);replace Q1:=Zh ((hD.block _ (Jb Q1.o)).trans Q1.o);replace U1:=Zh (U1.o.trans (Chg.of_below hD [rb]));clear hD;generalize w1.drew=w3 at*;refine zK 0 ?_
 refine zK 1 ?_;refine zK 5 ?_;refine zK 6 ?_;refine zK 7 ?_;refine zK 11 ?_;try simp only[zX]
 refine ZR (rs:=[2,8]) (AllReadyH.cons rfl (λK hK=>?_) (AllReadyH.cons rfl (λK hK=>?_) AllReadyH.nil))
 ·have m4:=Ja Q1.o 4;simp only[zW]at m4;go_simp;clear m4;refine zU hK trivial λhH=>?_;clear hK K
  try simp only[zX]
  refine zK 3 ?_;try simp only[zX]
  refine ZR (rs:=[4,8]) (AllReadyH.cons rfl (λK hK=>?_) (AllReadyH.cons rfl (λK hK=>?_) AllReadyH.nil))
  ·have hat:=G3.o.at';unfold An.At at hat;have hcl:=(JW (i:=1) hat.2 rfl).1;rw[P5.o]at hcl;have c0:=hcl 0 _ rfl;have c1:=hcl 1 _ rfl;have c2:=hcl 2 _ rfl;have c3:=hcl 3 _ rfl;have c4:=hcl 4 _ rfl;simp only[zero_add,zero_mul,one_mul,Nat.reduceMul,Nat.reduceAdd,add_zero]at c0 c1 c2 c3 c4;go_simp;clear hat hcl c0 c1 c2 c3 c4;refine zU hK trivial λhH=>?_;clear hK K
   try simp only[zX]
   refine ZS 8 rfl λK hK=>?_;have m4:=Ja Q1.o 4;simp only[zW]at m4;go_simp;clear m4;refine zU hK trivial λhH=>?_;clear hK K
   try simp only[zX]
   refine zK 9 ?_
   exact QhW
  ·have m4:=Ja Q1.o 4;simp only[zW]at m4;go_simp;clear m4;refine zU hK trivial λhH=>?_;clear hK K
   try simp only[zX]
   refine zK 9 ?_
   exact Qke
 ·have m4:=Ja Q1.o 4;simp only[zW]at m4;go_simp;clear m4;refine zU hK trivial λhH=>?_;clear hK K
  try simp only[zX]
  refine zK 9 ?_;try simp only[zX]
  refine ZR (rs:=[2,10]) (AllReadyH.cons rfl (λK hK=>?_) (AllReadyH.cons rfl (λK hK=>?_) AllReadyH.nil))
  ·have m4:=Ja Q1.o 4;simp only[zW]at m4;go_simp;clear m4;refine zU hK trivial λhH=>?_;clear hK K
   try simp only[zX]
   refine zK 3 ?_
   exact Qke
  ·have hat:=G3.o.at';unfold An.At at hat;have hcl:=(JW (i:=0) hat.2 rfl).1;rw[S7.o]at hcl;have c0:=hcl 0 _ rfl;have c1:=hcl 1 _ rfl;have c2:=hcl 2 _ rfl;have c3:=hcl 3 _ rfl;have c4:=hcl 4 _ rfl;simp only[zero_add,zero_mul,one_mul,Nat.reduceMul,Nat.reduceAdd,add_zero]at c0 c1 c2 c3 c4;go_simp;clear hat hcl c0 c1 c2 c3 c4;refine zU hK trivial λhH=>?_;clear hK K
   try simp only[zX]
   refine ZR (rs:=[2,12]) (AllReadyH.cons rfl (λK hK=>?_) (AllReadyH.cons rfl (λK hK=>?_) AllReadyH.nil))
   ·have m4:=Ja Q1.o 4;simp only[zW]at m4;go_simp;clear m4;refine zU hK trivial λhH=>?_;clear hK K
    try simp only[zX]
    refine zK 3 ?_
    exact ux9
   ·have cn:=IH y M0 vv _ _ OC.o zo (G3.o.kid zp y zq);rw[S7.o]at cn
    (go_simp;go_at_call 114;refine cn.mono ?_;intro e w5 h5)
    obtain⟨SE,LC,S4⟩:=h5;subst SE;replace G3:=Zh (G3.o.chg S4 LC);replace Q1:=Zh (S4.heap_some (by simp;exact C3) Q1.o);replace U1:=Zh (U1.o.trans S4);clear LC S4 cn;refine zU hK trivial λhH=>?_;clear hK K
    try simp only[zX]
    refine ZS 2 rfl λK hK=>?_;have m4:=Ja Q1.o 4;simp only[zW]at m4;go_simp;clear m4;refine zU hK trivial λhH=>?_;clear hK K
    try simp only[zX]
    refine zK 3 ?_;try simp only[zX]
    refine ZS 4 rfl λK hK=>?_;have hat:=G3.o.at';unfold An.At at hat;have hcl:=(JW (i:=1) hat.2 rfl).1;rw[P5.o]at hcl;have c0:=hcl 0 _ rfl;have c1:=hcl 1 _ rfl;have c2:=hcl 2 _ rfl;have c3:=hcl 3 _ rfl;have c4:=hcl 4 _ rfl;simp only[zero_add,zero_mul,one_mul,Nat.reduceMul,Nat.reduceAdd,add_zero]at c0 c1 c2 c3 c4;go_simp;clear hat hcl c0 c1 c2 c3 c4;refine zU hK trivial λhH=>?_;clear hK K
    try simp only[zX]
    refine ZS 13 rfl λK hK=>?_;have cn:=JH fs rb M z M0 vv _ (ofN fs M0 y.nd).1 _ (G3.o.kid zp z zq) λW2 F1=>IH z M0 vv _ W2 DB.o zo F1;rw[P5.o]at cn
    (go_simp;go_at_call 57;refine cn.mono ?_;intro e w6 h6)
    obtain⟨n9,N8,O1⟩:=h6;subst n9;have MA:=Zh N8;replace U1:=Zh (U1.o.trans O1);clear N8 O1 cn;refine zU hK trivial λhH=>?_;clear hK K;exact Qgq
theorem JoD(hpre:Qas fs rb M w x M0 vv (.mk 18 nn s off b c l))  :
  Calls prog 114 #[Pt rb,.agg (Qaa (.mk 18 nn s off b c l)),vv] w (TyP w rb M x (ofN fs M0 (An.mk 18 nn s off b c l).nd).2 (Iv (ofN fs M0 (An.mk 18 nn s off b c l).nd).1)):=by
 obtain⟨r,hr⟩:=yt (ofN fs M0 (An.mk 18 nn s off b c l).nd)
 rw[hr];obtain⟨ty,es⟩:=r;dsimp only;obtain⟨R,hR⟩:=yt (TyP w rb M x es (Iv ty))
 rw[hR];have HR:Hi (R=TyP w rb M x es (Iv ty)):=hR.symm;rw[An.nd,Kv]at hr;have nA:l.length<=n:=by have:=Jy l;omega
 obtain⟨ad,cc,S3,gA⟩:=Jp b c l
 have cA:Qaa (.mk 18 nn s off b c l)=(za 18 nn s off ad l.length cc):=by
  exact zAm
 have dA:yr w (w.alloc (.cells (Qaa (.mk 18 nn s off b c l)) 127)):=zO.alloc (Nat.le_refl _) _;have pA:=Jb hpre.flt;have C3:w.heap.size≠rb:=zo;have HP:=Zh (hpre.up dA);have U1:=Zh (Chg.of_below dA [rb]);have A0:=Zh (zQ w (.cells (Qaa (.mk 18 nn s off b c l)) 127));have HAD:=Zh gA;have N4:=Zh cA;have HN:=Zh hn;rw[cA]at U1 A0 |-;have B3:Hi (Qas fs rb M (w.alloc (.cells (za 18 nn s off ad l.length cc) 127)) x M0 vv (.mk 18 nn s off b c l)):=by rw[<-cA];exact HP.o
 clear hR dA S3 gA cA pA HP hpre hn
 obtain⟨u,y,z,mA⟩:∃u y z,l=[u,y,z]:=by
  have hwf:=B3.o.wf;unfold An.nd WfN at hwf;have h2:=hwf.2.2.1 rfl;rw[Kk,List.length_map]at h2
  match l,h2 with
  |[u,y,z],_=>exact⟨u,y,z,rfl⟩
 subst mA;have X3:ad=some ⟨b,0,none⟩:=HAD.o zq;subst X3;obtain⟨uA,un,uc,aA⟩:=Jg u;have bA:=Zh aA;clear aA;have kA:Hi (siz u.nd<=n):=le_trans (JM (by simp:u∈[u,y,z])) HN.o;obtain⟨yA,yn,yc,vA⟩:=Jg y;have S7:=Zh vA;clear vA;have OC:Hi (siz y.nd<=n):=le_trans (JM (by simp:y∈[u,y,z])) HN.o;obtain⟨zA,zn,zc,xA⟩:=Jg z;have P5:=Zh xA;clear xA;have DB:Hi (siz z.nd<=n):=le_trans (JM (by simp:z∈[u,y,z])) HN.o
 have eA:ty=(ofN fs M0 y.nd).1/\es=QbF fs M0 1 u.nd++((ofN fs M0 y.nd).2++QbF fs M0 (ofN fs M0 y.nd).1 z.nd):=by
  simp[ndL]at hr;obtain⟨h1,h2⟩:=hr;refine⟨h1.symm,?_⟩;rw[<-h2];simp[QbF]
 have M6:=Zh eA;have G3:=B3;have Q1:=A0;clear hr eA B3 A0 HAD N4 HN;go_enter func114,ntmps114;go_upto_region 30 with fail;generalize World.alloc w _=w1 at*;generalize w.heap.size=cb at*;have cu:=JH fs rb M u M0 vv _ 1 _ (G3.o.kid zp u zq) λW2 F1=>IH u M0 vv _ W2 kA.o zo F1;rw[bA.o]at cu;have hat:=G3.o.at';unfold An.At at hat;have hcl:=(JW (i:=0) hat.2 rfl).1;rw[bA.o]at hcl;have c0:=hcl 0 _ rfl;have c1:=hcl 1 _ rfl;have c2:=hcl 2 _ rfl;have c3:=hcl 3 _ rfl;have c4:=hcl 4 _ rfl;simp only[zero_add,zero_mul,one_mul,Nat.reduceMul,Nat.reduceAdd,add_zero]at c0 c1 c2 c3 c4;have m4:=Ja Q1.o 4;simp only[zW]at m4;go_wp2_with fail;clear hat hcl c0 c1 c2 c3 c4;clear m4;refine cu.mono ?_;rintro e w2 ⟨rfl,C7,S1⟩;replace G3:=Zh (G3.o.chg S1 C7);replace Q1:=Zh (S1.heap_some (by simp;exact C3) Q1.o);replace U1:=Zh (U1.o.trans S1);clear cu C7 S1;have cy:=IH y M0 vv _ _ OC.o zo (G3.o.kid zp y zq);rw[S7.o]at cy;have hat:=G3.o.at';unfold An.At at hat;have hcl:=(JW (i:=1) hat.2 rfl).1;rw[S7.o]at hcl;have c0:=hcl 0 _ rfl;have c1:=hcl 1 _ rfl;have c2:=hcl 2 _ rfl;have c3:=hcl 3 _ rfl;have c4:=hcl 4 _ rfl;simp only[zero_add,zero_mul,one_mul,Nat.reduceMul,Nat.reduceAdd,add_zero]at c0 c1 c2 c3 c4;have m4:=Ja Q1.o 4;simp only[zW]at m4;go_wp2_with fail;clear hat hcl c0 c1 c2 c3 c4;clear m4;refine cy.mono ?_;rintro e w3 ⟨rfl,hA,B5⟩;replace G3:=Zh (G3.o.chg B5 hA);replace Q1:=Zh (B5.heap_some (by simp;exact C3) Q1.o);replace U1:=Zh (U1.o.trans B5);clear cy hA B5;have cz:=JH fs rb M z M0 vv _ (ofN fs M0 y.nd).1 _ (G3.o.kid zp z zq) λW2 F1=>IH z M0 vv _ W2 DB.o zo F1;rw[P5.o]at cz;have hat:=G3.o.at';unfold An.At at hat;have hcl:=(JW (i:=2) hat.2 rfl).1;rw[P5.o]at hcl;have c0:=hcl 0 _ rfl;have c1:=hcl 1 _ rfl;have c2:=hcl 2 _ rfl;have c3:=hcl 3 _ rfl;have c4:=hcl 4 _ rfl;simp only[zero_add,zero_mul,one_mul,Nat.reduceMul,Nat.reduceAdd,add_zero]at c0 c1 c2 c3 c4;have m4:=Ja Q1.o 4;simp only[zW]at m4;go_wp2_with fail;clear hat hcl c0 c1 c2 c3 c4;clear m4;refine cz.mono ?_;rintro e w4 ⟨rfl,iA,jA⟩;have CA:=Zh iA;replace U1:=Zh (U1.o.trans jA);clear cz iA jA;go_wp2;rw[HR.o,M6.o.1,M6.o.2];exact⟨rfl,by rw[Jw,Jw];exact CA.o,U1.o⟩
end
def Z3(g o n vc:Nat)(h:n<=vc)(W:World):(Instr.slice 29 (.slice (some ⟨g,o,none⟩) n vc) none (some (Iv n)) (some (Iv n))).run prog W=.ok (.slice (some ⟨g,o,none⟩) n n) W:=by
 rw[run_slice_hm W 29 (some ⟨g,o,none⟩) n vc (show prog.underlying 29=some (.slice (prog.elem 29)) by kernel_rfl) .i64 .i64 n n zo zo zo];rw[show (sizeOf (prog.elem 29)).run prog W=.ok 1 W by kernel_rfl];simp[Result.andThen,sliced,Addr.add]
def Z4(ad:Option Addr)(vc:Nat)(W:World):∃ad2,∀W:World,(Instr.slice 29 (.slice ad 0 vc) none (some (Iv 0)) (some (Iv 0))).run prog W=.ok (.slice ad2 0 0) W:=by
 refine⟨ad,λW=>?_⟩;rw[run_slice_hm W 29 ad 0 vc (show prog.underlying 29=some (.slice (prog.elem 29)) by kernel_rfl) .i64 .i64 0 0 zo zo zo];rw[show (sizeOf (prog.elem 29)).run prog W=.ok 1 W by kernel_rfl]
 cases ad<;>simp[Result.andThen,sliced,Addr.add]
def QeQ:(prog.info? 3).map (λi=>(i.zero,i.size,i.bytes))=some (some (Iv 0),1,8):=zk
def QjM{P:Prop}(h:P:=by
  simp only[ho,resolve,invoke,builtin,Sem.run_bind,Sem.run_pure,Result.andThen_ok,List.map_toArray,List.map_cons,List.map_nil,hs,hx,hr];refine h _ _ (P6 _ _ (grownCap_ge w 1 0 3) λi n hs=>?_) (i6 _);have:i=0:=by have:=(List.getElem?_eq_some_iff.1 hs).1;simp at this;exact this
  subst this;have hs':nm=n:=by simpa using hs
  subst hs';rw[Array.getElem?_append_left (by simp)]
  rfl):P:=h
def JQ{ops:Array Oper}{o:Oper}{ac:Act}{K:Act->World->Prop}{Q:Exit->Act->World->Prop}{E:Prop}(w:World)(hgd:o.guard=none)(s x:Operand)
  (ho:o.op=.call {callee:=.builtin .append,args:=#[s,x],argTypes:=#[29,29]}) (M0:List Int) (sv:Value) (QG:(M0=[]/\∃ad,sv=.slice ad 0 0)\/∃g o,sv=.slice (some ⟨g,o,none⟩) M0.length M0.length/\∀i n,M0[i]?=some n->w.cell? ⟨g,o+i,none⟩=some (Iv n)) (hs:ac.eval s=sv)
  (rr:Nat) (nm:Int) (hx:ac.eval x=.slice (some ⟨rr,0,none⟩) 1 1) (hrow:w.heap[rr]?=some (.cells #[Iv nm] 3 (0,0)))
  (hlen:M0.length<=1000000000) (rb:Nat) (fA:rb<w.heap.size)
  (h:∀w' cc,Qbo w' rb (.slice (some ⟨w.heap.size,0,none⟩) (M0.length+1) cc) (M0++[nm])->yr w w'->K (ac.put o.dst (.slice (some ⟨w.heap.size,0,none⟩) (M0.length+1) cc)) w'):
  if Region.wanted o (yielded ops ac.tmps)=true then Oper.wp prog o ac w K Q else E:=by
 have hw:Region.wanted o (yielded ops ac.tmps)=true:=by simp[Region.wanted,hgd]
 rw[if_pos hw];obtain⟨i0,hi,uA,yA,zA⟩:=info_parts QeQ
 have xA:∀j u,[Value.int .i64 nm][j]?=some u->w.cell? ((⟨rr,0,none⟩:Addr).add j)=some u:=λj u hj=>by
  rw[show (⟨rr,0,none⟩:Addr).add j=⟨rr,j,none⟩ by unfold Addr.add;split<;>simp_all];exact KP hrow hj
 have P6:∀(cs:Array Value)(cc:Nat),M0.length+1<=cc->(∀(i:Nat)(n:Int),(M0++[nm])[i]?=some n->cs[i]?=some (Value.int .i64 n))->Qbo (w.drew.alloc (.cells cs 3)) rb (.slice (some ⟨w.heap.size,0,none⟩) (M0.length+1) cc) (M0++[nm]):=by
  intro cs cc h1 h2;refine .inr ⟨w.heap.size,0,cc,by rw[List.length_append];rfl,by rw[List.length_append];exact h1,by omega,by simp,λi n hs=>?_⟩;rw[zero_add];exact(Ja (zQ w.drew (.cells cs 3)) i).trans (h2 i n hs)
 have i6:∀cs:Array Value,yr w (w.drew.alloc (.cells cs 3)):=λcs=>((Below.refl w.heap.size w).drew).alloc zP _
 unfold Oper.wp execOp
 rcases QG with⟨hv,ad,rfl⟩|⟨g,o',rfl,hc⟩
 ·subst hv
  cases ad with
  |some ad=>
   have hr:=run_append_grow (P:=prog) w 29 o.type 3 i0 _ underlying29 hi uA ad 0 0 [] (by rw[yA];rfl) (λj u hj=>by simp at hj) ⟨rr,0,none⟩ 1 1 [Iv nm] (by rw[yA];rfl) xA zo zo (growslice_fits zo (by rw[zA];omega));exact QjM
  |none=>
  have hr:=run_append_nil (P:=prog) w 29 o.type 3 i0 _ underlying29 hi uA ⟨rr,0,none⟩ 1 1 [Iv nm] (by rw[yA];rfl) xA zp zp (by rw[zA];decide);exact QjM
 ·have hr:=run_append_grow (P:=prog) w 29 o.type 3 i0 _ underlying29 hi uA ⟨g,o',none⟩ M0.length M0.length (M0.map λn=>Iv n) (by rw[yA];simp) (λj u hj=>by
   rw[show (⟨g,o',none⟩:Addr).add j=⟨g,o'+j,none⟩ by unfold Addr.add;split<;>simp_all];rw[List.getElem?_map]at hj;obtain⟨n,h1,rfl⟩:=Option.map_eq_some_iff.1 hj
   exact hc j n h1) ⟨rr,0,none⟩ 1 1 [Iv nm] (by rw[yA];rfl) xA zo zo (growslice_fits zo (by rw[zA];omega))
  simp only[ho,resolve,invoke,builtin,Sem.run_bind,Sem.run_pure,Result.andThen_ok,List.map_toArray,List.map_cons,List.map_nil,hs,hx,hr];refine h _ _ (P6 _ _ (grownCap_ge w (M0.length+1) M0.length 3) λi n hs=>?_) (i6 _);have hlt:=(List.getElem?_eq_some_iff.1 hs).1;rw[Array.getElem?_append_left (by simp at hlt |-;omega)];have e:(M0.map λn=>Value.int .i64 n).toArray++[Value.int .i64 nm].toArray=((M0++[nm]).map λn=>Value.int .i64 n).toArray:=zq;rw[e,List.getElem?_toArray,List.getElem?_map,hs];rfl
variable{W W':World}{rb base:Nat}{s:By}
def Qas.let1{fs:List QaN}{M:Value}{x:Option Int}{M0:List Int}{vv:Value}{nn:Int}{off:Int}{b c:Nat}{y z:An}(h:Qas fs rb M W x M0 vv (.mk 19 nn s off b c [y,z])):Qas fs rb M W x M0 vv y/\∀vars' vv',vars'.length=M0.length+1->Qbo W rb vv' vars'->Qas fs rb M W x vars' vv' z:=by
 have hat:=h.at';unfold An.At at hat;have yA:=h.rf;rw[KQ,if_neg zq]at yA;have zA:=h.ok;unfold An.nd QdK at zA;have xA:=zA.2.2;simp only[ndL,beq_self_eq_true]at xA;have hwf:=h.wf;unfold An.nd WfN at hwf;have uA:=hwf.2.2.2.2
 exact⟨⟨(JW (i:=0) hat.2 rfl).2,λhm=>yA (List.mem_cons_of_mem _ (JC zq _ hm)),h.flt,h.sigs,h.ints,xA.1,Jbx uA _ (by simp[ndL])⟩,
  λvars' vv' hl hi=>⟨(JW (i:=1) hat.2 rfl).2,λhm=>yA (List.mem_cons_of_mem _ (JC zq _ hm)),h.flt,h.sigs,hi,by rw[hl];exact xA.2,Jbx uA _ (by simp[ndL])⟩⟩
def zAl{P:Prop}(h:P:=by
  try simp only[zX]
  refine ZS 13 rfl λK hK=>?_;have xA:(M0=[]/\∃ad,(Value.slice sa sm sc)=.slice ad 0 0)\/∃g o,(Value.slice sa sm sc)=.slice (some ⟨g,o,none⟩) M0.length M0.length/\∀i n,M0[i]?=some n->(w3.alloc (.cells #[Iv ty1] 3)).cell? ⟨g,o+i,none⟩=some (Value.int .i64 n):=l8.o.imp id λ⟨g,o,h1,h2⟩=>⟨g,o,h1,h2 _ U7.o⟩
  (refine JQ (w3.alloc (.cells #[Iv ty1] 3)) zt (.tmp 118) (.tmp 120) zt M0 _ xA zt w3.heap.size ty1 zt R3.o hvl rb (Jb G3.o.flt) ?_;intro w5 cc5 MC I3)
  replace G3:=Zh (G3.o.up I3);replace Q1:=Zh ((I3.block _ (Jb Q1.o)).trans Q1.o);replace U1:=Zh (U1.o.trans (Chg.of_below I3 [rb]));have uA:=Zh MC;generalize (w3.alloc (.cells #[Iv ty1] 3)).heap.size=g5 at*;clear xA MC I3 R3 U7 l8;refine zU hK trivial λhH=>?_;clear hK K
  try simp only[zX]
  refine ZS 14 rfl λK hK=>?_;have N7:(M0++[ty1]).length=M0.length+1:=zq
  have cn:=IH z (M0++[ty1]) (.slice (some ⟨g5,0,none⟩) (M0.length+1) cc5) _ _ DB.o (by rw[N7];omega) (G3.o.let1.2 _ _ N7 uA.o);rw[P5.o]at cn
  (go_simp;go_at_call 114;refine cn.mono ?_;intro e w6 h6)
  obtain⟨n9,N8,O1⟩:=h6;subst n9;have MA:=Zh N8;replace U1:=Zh (U1.o.trans O1);clear N8 O1 cn N7;refine zU hK trivial λhH=>?_;clear hK K
  try simp only[zX]
  refine zK 15 ?_
  exact Qgq):P:=h
def zAk{P:Prop}(h:P:=by
  try simp only[zX]
  refine ZR (rs:=[4,13]) (AllReadyH.cons rfl (λK hK=>?_) (AllReadyH.cons rfl (λK hK=>?_) AllReadyH.nil))
  ·have hat:=G3.o.at';unfold An.At at hat;have hcl:=(JW (i:=1) hat.2 rfl).1;rw[P5.o]at hcl;have c0:=hcl 0 _ rfl;have c1:=hcl 1 _ rfl;have c2:=hcl 2 _ rfl;have c3:=hcl 3 _ rfl;have c4:=hcl 4 _ rfl;simp only[zero_add,zero_mul,one_mul,Nat.reduceMul,Nat.reduceAdd,add_zero]at c0 c1 c2 c3 c4;go_simp;clear hat hcl c0 c1 c2 c3 c4;refine zU hK trivial λhH=>?_;clear hK K
   exact zAl
  ·have xA:(M0=[]/\∃ad,(Value.slice sa sm sc)=.slice ad 0 0)\/∃g o,(Value.slice sa sm sc)=.slice (some ⟨g,o,none⟩) M0.length M0.length/\∀i n,M0[i]?=some n->(w3.alloc (.cells #[Iv ty1] 3)).cell? ⟨g,o+i,none⟩=some (Value.int .i64 n):=l8.o.imp id λ⟨g,o,h1,h2⟩=>⟨g,o,h1,h2 _ U7.o⟩
   (refine JQ (w3.alloc (.cells #[Iv ty1] 3)) zt (.tmp 118) (.tmp 120) zt M0 _ xA zt w3.heap.size ty1 zt R3.o hvl rb (Jb G3.o.flt) ?_;intro w5 cc5 MC I3)
   replace G3:=Zh (G3.o.up I3);replace Q1:=Zh ((I3.block _ (Jb Q1.o)).trans Q1.o);replace U1:=Zh (U1.o.trans (Chg.of_below I3 [rb]));have uA:=Zh MC;generalize (w3.alloc (.cells #[Iv ty1] 3)).heap.size=g5 at*;clear xA MC I3 R3 U7 l8;refine zU hK trivial λhH=>?_;clear hK K
   try simp only[zX]
   refine ZS 4 rfl λK hK=>?_;have hat:=G3.o.at';unfold An.At at hat;have hcl:=(JW (i:=1) hat.2 rfl).1;rw[P5.o]at hcl;have c0:=hcl 0 _ rfl;have c1:=hcl 1 _ rfl;have c2:=hcl 2 _ rfl;have c3:=hcl 3 _ rfl;have c4:=hcl 4 _ rfl;simp only[zero_add,zero_mul,one_mul,Nat.reduceMul,Nat.reduceAdd,add_zero]at c0 c1 c2 c3 c4;go_simp;clear hat hcl c0 c1 c2 c3 c4;refine zU hK trivial λhH=>?_;clear hK K
   try simp only[zX]
   refine ZS 14 rfl λK hK=>?_;have N7:(M0++[ty1]).length=M0.length+1:=zq
   have cn:=IH z (M0++[ty1]) (.slice (some ⟨g5,0,none⟩) (M0.length+1) cc5) _ _ DB.o (by rw[N7];omega) (G3.o.let1.2 _ _ N7 uA.o);rw[P5.o]at cn
   (go_simp;go_at_call 114;refine cn.mono ?_;intro e w6 h6)
   obtain⟨n9,N8,O1⟩:=h6;subst n9;have MA:=Zh N8;replace U1:=Zh (U1.o.trans O1);clear N8 O1 cn N7;refine zU hK trivial λhH=>?_;clear hK K
   try simp only[zX]
   refine zK 15 ?_
   exact Qgq):P:=h
def JoE(fs:List QaN)(rb:Nat)(M:Value)(hps:∀s∈fs,s.params.length<=1000000000)(n:Nat)(IH:QdS fs rb M n)(nn:Int)(s:By)(off:Int)(b c:Nat)(l:List An)(M0:List Int)(vv:Value)(x:Option Int)(w:World)(hn:Qbd (ndL l)<=n)(hb:n+1+M0.length<=1000000000)(hpre:Qas fs rb M w x M0 vv (.mk 19 nn s off b c l))  :
  Calls prog 114 #[Pt rb,.agg (Qaa (.mk 19 nn s off b c l)),vv] w (TyP w rb M x (ofN fs M0 (An.mk 19 nn s off b c l).nd).2 (Iv (ofN fs M0 (An.mk 19 nn s off b c l).nd).1)):=by
 obtain⟨r,hr⟩:=yt (ofN fs M0 (An.mk 19 nn s off b c l).nd)
 rw[hr];obtain⟨ty,es⟩:=r;dsimp only;obtain⟨R,hR⟩:=yt (TyP w rb M x es (Iv ty))
 rw[hR];have HR:Hi (R=TyP w rb M x es (Iv ty)):=hR.symm;rw[An.nd,Kv]at hr;have mA:l.length<=n:=by have:=Jy l;omega
 obtain⟨ad,cc,S3,hA⟩:=Jp b c l
 have bA:Qaa (.mk 19 nn s off b c l)=(za 19 nn s off ad l.length cc):=by
  exact zAm
 have eA:yr w (w.alloc (.cells (Qaa (.mk 19 nn s off b c l)) 127)):=zO.alloc zP _;have qA:=Jb hpre.flt;have C3:w.heap.size≠rb:=zo;have HP:=Zh (hpre.up eA);have U1:=Zh (Chg.of_below eA [rb]);have A0:=Zh (zQ w (.cells (Qaa (.mk 19 nn s off b c l)) 127));have HAD:=Zh hA;have N4:=Zh bA;have HN:=Zh hn;rw[bA]at U1 A0 |-;have B3:Hi (Qas fs rb M (w.alloc (.cells (za 19 nn s off ad l.length cc) 127)) x M0 vv (.mk 19 nn s off b c l)):=by rw[<-bA];exact HP.o
 clear hR eA S3 hA bA qA HP hpre hn
 obtain⟨y,z,kA⟩:∃y z,l=[y,z]:=by
  have hwf:=B3.o.wf;unfold An.nd WfN at hwf;have h2:=hwf.1 rfl;rw[Kk,List.length_map]at h2
  match l,h2 with
  |[y,z],_=>exact⟨y,z,rfl⟩
 subst kA;have X3:ad=some ⟨b,0,none⟩:=HAD.o zq;subst X3;obtain⟨yA,yn,yc,aA⟩:=Jg y;have S7:=Zh aA;clear aA;have OC:Hi (siz y.nd<=n):=Nat.le_trans (JM (by simp:y∈[y,z])) HN.o;obtain⟨zA,zn,zc,vA⟩:=Jg z;have P5:=Zh vA;clear vA;have DB:Hi (siz z.nd<=n):=Nat.le_trans (JM (by simp:z∈[y,z])) HN.o;obtain⟨ry,dA⟩:=yt (ofN fs M0 y.nd)
 obtain⟨ty1,jA⟩:=ry
 have gA:ty=(ofN fs (M0++[ty1]) z.nd).1/\es=jA++(ofN fs (M0++[ty1]) z.nd).2:=by
  simp[ndL,dA]at hr;exact⟨hr.1.symm,hr.2.symm⟩
 have M6:=Zh gA;have G3:=B3;have Q1:=A0;clear hr gA B3 A0 HAD N4 HN;go_enter func114,ntmps114;go_upto_region 35 with fail;generalize World.alloc w _=w1 at*;generalize w.heap.size=cb at*;have cy:=IH y M0 vv _ _ OC.o zo G3.o.let1.1;rw[S7.o,dA]at cy;dsimp only at cy;have hat:=G3.o.at';unfold An.At at hat;have hcl:=(JW (i:=0) hat.2 rfl).1;rw[S7.o]at hcl;have c0:=hcl 0 _ rfl;have c1:=hcl 1 _ rfl;have c2:=hcl 2 _ rfl;have c3:=hcl 3 _ rfl;have c4:=hcl 4 _ rfl;simp only[zero_add,zero_mul,one_mul,Nat.reduceMul,Nat.reduceAdd,add_zero]at c0 c1 c2 c3 c4;have m4:=Ja Q1.o 4;simp only[zW]at m4;go_wp2_with fail;clear hat hcl c0 c1 c2 c3 c4;clear m4 dA;refine cy.mono ?_;rintro e w2 ⟨rfl,C7,S1⟩;replace G3:=Zh (G3.o.chg S1 C7);replace Q1:=Zh (S1.heap_some (by simp;exact C3) Q1.o);replace U1:=Zh (U1.o.trans S1);clear cy C7 S1;go_upto_region 36 with fail
 obtain⟨sv,tA,cA⟩:∃sv,(∀W:World,(Instr.slice 29 vv none (some (Iv M0.length)) (some (Iv M0.length))).run prog W=.ok sv W)/\((M0=[]/\∃ad,sv=.slice ad 0 0)\/∃g o,sv=.slice (some ⟨g,o,none⟩) M0.length M0.length/\∀W',Below w2.drew.heap.size w2.drew W'->∀i n,M0[i]?=some n->W'.cell? ⟨g,o+i,none⟩=some (Iv n)):=by
  rcases G3.o.ints with⟨e1,ad,vc,e2⟩|⟨g,o,vc,e,h2,_,_,h5⟩
  ·subst e1 e2;obtain⟨iA,hz⟩:=Z4 ad vc w2;exact⟨_,hz,.inl ⟨rfl,iA,rfl⟩⟩
  ·subst e;exact⟨_,Z3 g o M0.length vc h2,.inr ⟨g,o,rfl,λW' hb i n hi=>(hb.cell (World.block_lt_of_cell? _ _ (h5 i n hi))).trans (h5 i n hi)⟩⟩
 have nA:∃a m c',vv=.slice a m c'/\m=M0.length:=by
  rcases G3.o.ints with⟨e1,ad,vc,e2⟩|⟨g,o,vc,e,_⟩
  ·exact⟨_,_,_,e2,by rw[e1];rfl⟩
  ·exact⟨_,_,_,e,rfl⟩
 obtain⟨va,vn,sA,rfl,pA⟩:=nA;subst pA;have l8:=Zh cA;have rA:∃a m c',sv=.slice a m c':=by rcases cA with⟨_,_,rfl⟩|⟨_,_,rfl,_⟩<;>exact⟨_,_,_,rfl⟩
 obtain⟨sa,sm,sc,rfl⟩:=rA;have hvl:M0.length<=1000000000:=zo;clear cA;refine wp_region_held_drew (S:=λ_=>True) zk (trivial) λhH=>?_;have hD:yr w2 w2.drew:=(Below.refl w2.heap.size w2).drew;replace G3:=Zh (G3.o.up hD);replace Q1:=Zh ((hD.block _ (Jb Q1.o)).trans Q1.o);replace U1:=Zh (U1.o.trans (Chg.of_below hD [rb]));clear hD;generalize w2.drew=w3 at*;refine zK 0 ?_
 refine zK 1 ?_;refine zK 5 ?_;refine zK 6 ?_;refine zK 7 ?_;refine zK 8 ?_;refine zK 9 ?_;refine zK 10 ?_;refine zK 11 ?_;try simp only[zX]
 refine ZR (rs:=[2,12]) (AllReadyH.cons rfl (λK hK=>?_) (AllReadyH.cons rfl (λK hK=>?_) AllReadyH.nil))
 ·have m4:=Ja Q1.o 4;simp only[zW]at m4;go_simp;clear m4;refine zU hK trivial λhH=>?_;clear hK K
  try simp only[zX]
  refine zK 3 ?_;try simp only[zX]
  refine ZR (rs:=[4,12]) (AllReadyH.cons rfl (λK hK=>?_) (AllReadyH.cons rfl (λK hK=>?_) AllReadyH.nil))
  ·have hat:=G3.o.at';unfold An.At at hat;have hcl:=(JW (i:=1) hat.2 rfl).1;rw[P5.o]at hcl;have c0:=hcl 0 _ rfl;have c1:=hcl 1 _ rfl;have c2:=hcl 2 _ rfl;have c3:=hcl 3 _ rfl;have c4:=hcl 4 _ rfl;simp only[zero_add,zero_mul,one_mul,Nat.reduceMul,Nat.reduceAdd,add_zero]at c0 c1 c2 c3 c4;go_simp;clear hat hcl c0 c1 c2 c3 c4;refine zU hK trivial λhH=>?_;clear hK K
   try simp only[zX]
   refine ZS 12 rfl λK hK=>?_;go_simp;refine zU hK trivial λhH=>?_;have M2:yr w3 (w3.alloc (.cells #[Iv ty1] 3)):=zO.alloc zP _;replace G3:=Zh (G3.o.up M2);replace Q1:=Zh ((M2.block _ (Jb Q1.o)).trans Q1.o);replace U1:=Zh (U1.o.trans (Chg.of_below M2 [rb]));have R3:=Zh (zQ w3 (.cells #[Iv ty1] 3));have U7:=Zh M2;clear M2;clear hK K
   exact zAl
  ·go_simp;refine zU hK trivial λhH=>?_;have M2:yr w3 (w3.alloc (.cells #[Iv ty1] 3)):=zO.alloc zP _;replace G3:=Zh (G3.o.up M2);replace Q1:=Zh ((M2.block _ (Jb Q1.o)).trans Q1.o);replace U1:=Zh (U1.o.trans (Chg.of_below M2 [rb]));have R3:=Zh (zQ w3 (.cells #[Iv ty1] 3));have U7:=Zh M2;clear M2;clear hK K
   exact zAk
 ·go_simp;refine zU hK trivial λhH=>?_;have M2:yr w3 (w3.alloc (.cells #[Iv ty1] 3)):=zO.alloc zP _;replace G3:=Zh (G3.o.up M2);replace Q1:=Zh ((M2.block _ (Jb Q1.o)).trans Q1.o);replace U1:=Zh (U1.o.trans (Chg.of_below M2 [rb]));have R3:=Zh (zQ w3 (.cells #[Iv ty1] 3));have U7:=Zh M2;clear M2;clear hK K
  try simp only[zX]
  refine ZR (rs:=[2,13]) (AllReadyH.cons rfl (λK hK=>?_) (AllReadyH.cons rfl (λK hK=>?_) AllReadyH.nil))
  ·have m4:=Ja Q1.o 4;simp only[zW]at m4;go_simp;clear m4;refine zU hK trivial λhH=>?_;clear hK K
   try simp only[zX]
   refine zK 3 ?_;exact zAk
  ·have xA:(M0=[]/\∃ad,(Value.slice sa sm sc)=.slice ad 0 0)\/∃g o,(Value.slice sa sm sc)=.slice (some ⟨g,o,none⟩) M0.length M0.length/\∀i n,M0[i]?=some n->(w3.alloc (.cells #[Iv ty1] 3)).cell? ⟨g,o+i,none⟩=some (Value.int .i64 n):=l8.o.imp id λ⟨g,o,h1,h2⟩=>⟨g,o,h1,h2 _ U7.o⟩
   (refine JQ (w3.alloc (.cells #[Iv ty1] 3)) zt (.tmp 118) (.tmp 120) zt M0 _ xA zt w3.heap.size ty1 zt R3.o hvl rb (Jb G3.o.flt) ?_;intro w5 cc5 MC I3)
   replace G3:=Zh (G3.o.up I3);replace Q1:=Zh ((I3.block _ (Jb Q1.o)).trans Q1.o);replace U1:=Zh (U1.o.trans (Chg.of_below I3 [rb]));have uA:=Zh MC;generalize (w3.alloc (.cells #[Iv ty1] 3)).heap.size=g5 at*;clear xA MC I3 R3 U7 l8;refine zU hK trivial λhH=>?_;clear hK K
   try simp only[zX]
   refine ZS 2 rfl λK hK=>?_;have m4:=Ja Q1.o 4;simp only[zW]at m4;go_simp;clear m4;refine zU hK trivial λhH=>?_;clear hK K
   try simp only[zX]
   refine zK 3 ?_;try simp only[zX]
   refine ZS 4 rfl λK hK=>?_;have hat:=G3.o.at';unfold An.At at hat;have hcl:=(JW (i:=1) hat.2 rfl).1;rw[P5.o]at hcl;have c0:=hcl 0 _ rfl;have c1:=hcl 1 _ rfl;have c2:=hcl 2 _ rfl;have c3:=hcl 3 _ rfl;have c4:=hcl 4 _ rfl;simp only[zero_add,zero_mul,one_mul,Nat.reduceMul,Nat.reduceAdd,add_zero]at c0 c1 c2 c3 c4;go_simp;clear hat hcl c0 c1 c2 c3 c4;refine zU hK trivial λhH=>?_;clear hK K
   try simp only[zX]
   refine ZS 14 rfl λK hK=>?_;have N7:(M0++[ty1]).length=M0.length+1:=zq
   have cn:=IH z (M0++[ty1]) (.slice (some ⟨g5,0,none⟩) (M0.length+1) cc5) _ _ DB.o (by rw[N7];omega) (G3.o.let1.2 _ _ N7 uA.o);rw[P5.o]at cn
   (go_simp;go_at_call 114;refine cn.mono ?_;intro e w6 h6)
   obtain⟨n9,N8,O1⟩:=h6;subst n9;have MA:=Zh N8;replace U1:=Zh (U1.o.trans O1);clear N8 O1 cn N7;refine zU hK trivial λhH=>?_;clear hK K
   try simp only[zX]
   refine zK 15 ?_
   exact Qgq
def JcC(fs:List QaN)(rb:Nat)(M:Value)(hps:∀s∈fs,s.params.length<=1000000000):∀n,QdS fs rb M n
 |0=>λa M0 vv x w hn=>by
  have:=Vh a.nd;omega
 |n+1=>λa M0 vv x w hn hb hpre=>by
  have IH:=JcC fs rb M hps n;obtain⟨k,nn,s,off,b,c,l⟩:=a;rw[ZV]at hn;have xA:Qbd (ndL l)<=n:=zo
  by_cases h1:k=1
  ·subst h1;exact QkE fs rb M hps n IH nn s off b c l M0 vv x w xA hb hpre
  by_cases h5:k=5
  ·subst h5;exact QkB fs rb M hps n IH nn s off b c l M0 vv x w xA hb hpre
  by_cases h2:k=2
  ·subst h2;exact QkD fs rb M hps n IH nn s off b c l M0 vv x w xA hb hpre
  by_cases h3:k=3
  ·subst h3;exact QkC fs rb M hps n IH nn s off b c l M0 vv x w xA hb hpre
  by_cases h6:k=6
  ·subst h6;exact QkA fs rb M hps n IH nn s off b c l M0 vv x w xA hb hpre
  by_cases h8:k=8
  ·subst h8;exact Qky fs rb M hps n IH nn s off b c l M0 vv x w xA hb hpre
  by_cases h9:k=9
  ·subst h9;exact Qkx fs rb M hps n IH nn s off b c l M0 vv x w xA hb hpre
  by_cases C2:k=10
  ·subst C2;exact Jou fs rb M hps n IH nn s off b c l M0 vv x w xA hb hpre
  by_cases h11:k=11
  ·subst h11;exact Jov fs rb M hps n IH nn s off b c l M0 vv x w xA hb hpre
  by_cases h12:k=12
  ·subst h12;exact Jow fs rb M hps n IH nn s off b c l M0 vv x w xA hb hpre
  by_cases m6:k=13
  ·subst m6;exact Jox fs rb M hps n IH nn s off b c l M0 vv x w xA hb hpre
  by_cases L8:k=14
  ·subst L8;exact Joy fs rb M hps n IH nn s off b c l M0 vv x w xA hb hpre
  by_cases E8:k=15
  ·subst E8;exact JoC fs rb M hps n IH nn s off b c l M0 vv x w xA hb hpre
  by_cases h7:k=7
  ·subst h7;exact Qkz fs rb M hps n IH nn s off b c l M0 vv x w xA hb hpre
  by_cases F7:k=16
  ·subst F7;exact Joz fs rb M hps n IH nn s off b c l M0 vv x w xA hb hpre
  by_cases H6:k=17
  ·subst H6;exact JoA fs rb M hps n IH nn s off b c l M0 vv x w xA hb hpre
  by_cases C6:k=18
  ·subst C6;exact JoD fs rb M hps n IH nn s off b c l M0 vv x w xA hb hpre
  by_cases M3:k=19
  ·subst M3;exact JoE fs rb M hps n IH nn s off b c l M0 vv x w xA hb hpre
  by_cases T3:k=20
  ·subst T3;exact JoB fs rb M hps n IH nn s off b c l M0 vv x w xA hb hpre
  exact JlY fs rb M hps n IH k nn s off b c l M0 vv x w xA hb hpre ⟨h1,h5,h2,h3,h6,h8,h9,C2,h11,h12,m6,L8,E8,h7,F7,H6,C6,M3,T3⟩
def Qgd(f:FnA):List Value:=[Em,f.tv,Iv f.result,Iv 0,Iv 0,Em,Nl]
def QeL(f:FnA):QaN:=⟨f.types,f.result⟩
def JdV(f:FnA):(Qgd f).length=7:=rfl
def Qde:(prog.info? 41).map (λi=>(i.zero,i.size,i.bytes))=some (some (.agg #[Em,Nl,Iv 0,Iv 0,Iv 0,Em,Nl]),7,104):=zk
variable{f:FnA}
def Jht(h:f.Ok W)(hr:f.hi<=rb):Qbo W rb f.tv f.types:=by
 obtain⟨m,m1,m2,m3,m4,m5⟩:=h.bmd;have ht:=h.town
 rcases ht.2 with⟨e,e0⟩|⟨g,cap,cur,e,e2,e3,e4,_⟩
 ·exact .inl ⟨List.eq_nil_of_length_eq_zero e0,none,0,e⟩
 ·have hg:=m4 g (by rw[e];rfl);have hw:=h.hle;refine .inr ⟨g,0,cap,e,e4,by omega,by omega,λi n hi=>?_⟩
  ·have hc:=J0 ht (j:=i) (u:=Iv n) (by unfold Qad;rw[List.getElem?_map,hi];rfl);rw[e]at hc;rw[Nat.zero_add];exact hc
variable{v:Value}
def JlZ{l:List FnA}(h:W.ownsRow base 41 7 v l.length (l.flatMap Qgd))(hv:∀f∈l,f.Ok W/\f.hi<=rb)(fA:v.ownBlock≠some rb):Qdh W rb v (l.map QeL):=by
 obtain⟨ad,cc,e,yA⟩:=Vr h;refine⟨ad,cc,by rw[List.length_map];exact e,λhne=>?_⟩
 have xA:0<l.length:=by
  rcases l with _|⟨a,l⟩
  ·exact absurd rfl hne
  ·exact Nat.succ_pos _
 have ha:=yA xA;subst ha;refine⟨Value.blk v,0,rfl,λhb=>fA (by rw[<-hb];exact Vz h xA),λi s hs=>?_⟩;rw[List.getElem?_map]at hs;obtain⟨f,hf,rfl⟩:=Option.map_eq_some_iff.1 hs;obtain⟨o1,o2⟩:=hv f (List.mem_of_getElem? hf);refine⟨⟨#[]⟩,f.tv,0,0,⟨#[]⟩,none,0,0,Jht o1 o2,λj u hj=>?_⟩;have:=J0 h (Kq JdV l i j f u hf hj);rw[Nat.zero_add];exact this
structure Ck(w W:World)(sb:Nat)(S:Qap)(rb:Nat)(x:Option Int)(M:Value):Prop where
 ok:QaH W sb S
 flt:QaW W rb 123 x M
 sigs:Qdh W rb M (S.funcs.map QeL)
 bel:yr w W
 num:w.heap.size<=rb
 his:∀iv∈S.ivs,iv.2<=w.heap.size
section
variable {w W W':World}{sb:Nat}{S:Qap}{rb:Nat}{x:Option Int}{M:Value}
def Ck.mk'(h:QaH w sb S)(hf:QaW W rb 123 x M)(hs:Qdh W rb M (S.funcs.map QeL))(hb:yr w W)(hn:w.heap.size<=rb):Ck w W sb S rb x M:=
 ⟨h.on (Chg.of_below hb []) zq,hf,hs,hb,hn,λiv hi=>(h.ivs iv hi).2.2⟩
def Ck.up(h:Ck w W sb S rb x M)(hb:yr W W'):Ck w W' sb S rb x M:=
 ⟨h.ok.on (Chg.of_below hb []) zq,(hb.block _ (Jb h.flt)).trans h.flt,h.sigs.chg (Chg.of_below hb [rb]),Kr h.bel hb.os hb.tape hb.output hb.size λk hk=>hb.block k (Nat.lt_of_lt_of_le hk h.bel.size),h.num,h.his⟩
def Ck.step(h0:QaH w sb S)(h:Ck w W sb S rb x M){errs:List Int}{e:Ending}(ht:TyP W rb M x errs v e W'):Ck w W' sb S rb (QaG x errs) M:=by
 obtain⟨_,hf,hc⟩:=ht;have hn:=h.num;exact Ck.mk' h0 hf (h.sigs.chg hc) (Kr h.bel hc.os hc.tape hc.output hc.size λk hk=>hc.block k (Nat.lt_of_lt_of_le hk h.bel.size) zr) hn
def Ck.preF(h:Ck w W sb S rb x M)(hf:f∈S.funcs)(hk:QdK S.funcs.length f.types.length f.body.nd)(hw:WfN f.body.nd):Qas (S.funcs.map QeL) rb M W x f.types f.tv f.body:=by
 obtain⟨fo,f1,f2⟩:=h.ok.fok f hf;have hi:=h.his (f.lo,f.hi) (List.mem_append_left _ (List.mem_map.2 ⟨f,hf,rfl⟩));have hn:=h.num;have hfo:=JbB fo;dsimp only at hi;exact⟨fo.bat,λhm=>by have:=hfo _ hm;omega,h.flt,h.sigs,Jht fo zo,by rw[List.length_map];exact hk,hw⟩
def Ck.preC{c:ClA}(h:Ck w W sb S rb x M)(hc:c∈S.clauses)(hk:QdK S.funcs.length 0 c.cond.nd)(hw:WfN c.cond.nd):Qas (S.funcs.map QeL) rb M W x [] Nl c.cond:=by
 obtain⟨co,c1⟩:=h.ok.cok c hc;have hi:=h.his (c.lo,c.hi) (List.mem_append_right _ (List.mem_map.2 ⟨c,hc,rfl⟩));have hn:=h.num;dsimp only at hi;exact⟨co.at',λhm=>by have:=(co.made.2 _ hm).2;omega,h.flt,h.sigs,.inl ⟨rfl,none,0,rfl⟩,by rw[List.length_map];exact hk,hw⟩
end
def ckF(S:Qap)(i:Nat):List Int:=((S.funcs.take i).map λf=>QbF (S.funcs.map QeL) f.types f.result f.body.nd).flatten
def ckC(S:Qap)(i:Nat):List Int:=((S.clauses.take i).map λc=>QbF (S.funcs.map QeL) [] 1 c.cond.nd).flatten
def JjW{S:Qap}{i:Nat}(h:S.funcs[i]?=some f):ckF S (i+1)=ckF S i++QbF (S.funcs.map QeL) f.types f.result f.body.nd:=by unfold ckF;rw[J1 h];simp
def JjX{S:Qap}{i:Nat}{c:ClA}(h:S.clauses[i]?=some c):ckC S (i+1)=ckC S i++QbF (S.funcs.map QeL) [] 1 c.cond.nd:=by unfold ckC;rw[J1 h];simp
def JnC(S:Qap):ckF S S.funcs.length++ckC S S.clauses.length=QbH S.src:=by
 unfold ckF ckC QbH;rw[List.take_length,List.take_length];unfold Qap.src;simp only[List.map_map];rfl
def Jhu(w:World)(sb:Nat)(S:Qap)(h:QaH w sb S)(h1:S.funcs.length<=100000000)(h2:S.clauses.length<=100000000)
  (h3:∀f∈S.funcs,WfN f.body.nd/\siz f.body.nd<=100000000/\f.types.length<=100000000/\QdK S.funcs.length f.types.length f.body.nd) (h4:∀c∈S.clauses,WfN c.cond.nd/\siz c.cond.nd<=100000000/\QdK S.funcs.length 0 c.cond.nd):
  Calls prog 37 #[Pt sb] w (Qgn w 15 (QaZ (QbH S.src))):=by
 obtain⟨R,hR⟩:=yt (Qgn w 15 (QaZ (QbH S.src)))
 rw[hR];have HR:Hi (R=Qgn w 15 (QaZ (QbH S.src))):=hR.symm;obtain⟨fa,fc,pA,sA⟩:=Vr h.fown;obtain⟨ca,cc,zB,tA⟩:=Vr h.cown;have aB:=Zh pA;have E6:=Zh zB;have nA:=Zh sA;have yB:=Zh tA;have H3:=Zh h3;have H4:=Zh h4;have HS:=Zh h;have b0:w.cell? ⟨sb,0,none⟩=some (.slice fa S.funcs.length fc):=by rw[Ja HS.o.box];rw[pA];rfl
 clear hR pA zB sA tA h h3 h4;go_enter func37,ntmps37;go_wp2_with fail;clear b0;go_loopg [2,15] S.funcs.length λg v2 v15 wr=>∃i:Nat,g+i=S.funcs.length/\v15=Iv i/\Hi (yr w wr)/\Hi (wr.ownsRow w.heap.size 41 7 v2 i ((S.funcs.take i).flatMap Qgd))
 case atStart=>exact⟨0,rfl,rfl,Zh zO,Zh ⟨rfl,.inl ⟨rfl,rfl⟩⟩⟩
 case round=>
 obtain⟨wl,rfl⟩:=zJ wr;obtain⟨i,hg,rfl,hb,ho⟩:=hrel
 by_cases hi:i<S.funcs.length
 ·have hil:(i:Int)<(S.funcs.length:Int):=zo;obtain⟨fn,xA⟩:∃fn,S.funcs[i]?=some fn:=⟨S.funcs[i],List.getElem?_eq_getElem hi⟩
  have bA:=nA.o zo;have jA:=HS.o.on (Chg.of_below hb.o []) zq;obtain⟨fo,_,_⟩:=jA.fok fn (List.mem_of_getElem? xA);have hcl:=Yv jA xA;have i7:Hi ((S.funcs.take (i+1)).flatMap Qgd=(S.funcs.take i).flatMap Qgd++Qgd fn):=by rw[Hi,J1 xA];simp
  obtain⟨nm,of,ps,ts,res,b,pv,tv,gB,eB⟩:=fn;obtain⟨pa,pn,pc,dA⟩:=Jk fo.pown;obtain⟨ta,tn,tc,cA⟩:=Jk fo.town;obtain⟨va,vn,vc,rA⟩:=Jk ho.o;dsimp only at dA cA;subst dA cA rA;obtain⟨yA,yn,yc,Q4⟩:=Jg b;simp only[FnA.cells,Q4,List.cons_append,List.nil_append]at hcl;have c0:=hcl 0 _ rfl;have c1:=hcl 1 _ rfl;have c2:=hcl 2 _ rfl;have c3:=hcl 3 _ rfl;have c4:=hcl 4 _ rfl;have c5:=hcl 5 _ rfl;have c6:=hcl 6 _ rfl;have c7:=hcl 7 _ rfl;have c8:=hcl 8 _ rfl;have c9:=hcl 9 _ rfl;simp only[Nat.add_zero]at c0;have wk:=zI i;have A0:=Zh (zQ wl (.cells ([Sv nm,Iv of,.slice pa pn pc,.slice ta tn tc,Iv res,Iv b.kind,Iv b.num,Sv b.name,Iv b.off,.slice yA yn yc]).toArray 147));have gA:Hi (yr w (wl.alloc (.cells ([Sv nm,Iv of,.slice pa pn pc,.slice ta tn tc,Iv res,Iv b.kind,Iv b.num,Sv b.name,Iv b.off,.slice yA yn yc]).toArray 147))):=hb.o.alloc hb.o.size _;have HOW:Hi ((wl.alloc (.cells ([Sv nm,Iv of,.slice pa pn pc,.slice ta tn tc,Iv res,Iv b.kind,Iv b.num,Sv b.name,Iv b.off,.slice yA yn yc]).toArray 147)).ownsRow w.heap.size 41 7 (.slice va vn vc) i ((S.funcs.take i).flatMap Qgd)):=ho.o.alloc _;have HG:=Zh hg;subst bA;clear hcl xA fo hg Q4 jA hb ho;go_upto_region 4 with fail;clear c0 c1 c2 c3 c4 c5 c6 c7 c8 c9;generalize World.alloc wl _=w1 at*;generalize wl.heap.size=cb at*;have n2:=Ja A0.o 2;have n3:=Ja A0.o 3;have n4:=Ja A0.o 4;simp only[zW]at n2 n3 n4;obtain⟨i0,xB,bB,dB,uB⟩:=info_parts Qde;have HI:=Zh xB;clear xB;go_wp2_with (at_builtin;refine wpList_append_own _ rfl _ _ 22 rfl w.heap.size 41 i0 (.agg #[Em,Nl,Iv 0,Iv 0,Iv 0,Em,Nl]) 7 104 underlying22 HI.o bB dB uB rfl zp _ _ _ rfl (HOW.o.alloc _) ⟨w1.heap.size,0,none⟩ 1 1 [Em,.slice ta tn tc,Iv res,Iv 0,Iv 0,Em,Nl] rfl rfl ?c1 ?c2 ?c3 ?c4 ?c5 ?_)
  case c2=>exact⟨rfl,rfl,rfl,rfl,rfl,rfl⟩
  case c3=>unfold maxLen;omega
  case c4=>omega
  case c5=>have:=gA.o.size;omega
  intro v' w' Q0 hgrow _;have jG:Hi (w'.ownsRow w.heap.size 41 7 v' (i+1) ((S.funcs.take (i+1)).flatMap Qgd)):=by rw[Hi,i7.o];exact Q0
  have T7:Hi (yr w w'):=by
   have hc:=JP hgrow;exact Kr gA.o hc.os hc.tape hc.output hc.size λk hk=>hc.block k (zu gA.o.size) λhm=>by have:=(HOW.o.lt k (by simpa using hm)).1;omega
  clear Q0 hgrow gA HOW n2 n3 n4 A0;go_wp2;go_roundg (S.funcs.length-(i+1))
  case measure=>have:=HG.o;omega
  case rel=>exact⟨i+1,by omega,by go_num,T7,jG⟩
 ·have hil:¬(i:Int)<(S.funcs.length:Int):=zo;obtain rfl:i=S.funcs.length:=zo;have eA:=ho.o;rw[List.take_length]at eA;obtain⟨va,vn,vc,rA⟩:=Jk eA;subst rA;have qA:yr w (wl.alloc (.cells (yo false 0 va vn vc) 123)):=hb.o.alloc hb.o.size _
  have zA:Hi (Ck w (wl.alloc (.cells (yo false 0 va vn vc) 123)) sb S wl.heap.size (QaG none (ckF S 0)) (.slice va vn vc)):=by
   have vB:=HS.o.on (Chg.of_below qA []) zq;refine Ck.mk' HS.o (zQ _ _) (JlZ (eA.alloc _) (λf hf=>⟨(vB.fok f hf).1,?_⟩) λe=>?_) qA hb.o.size
   ·have:=(HS.o.ivs (f.lo,f.hi) (List.mem_append_left _ (List.mem_map.2 ⟨f,hf,rfl⟩))).2.2;have:=hb.o.size;dsimp only at*;omega
   ·have:=(eA.lt _ e).2;omega
  have R0:=zA.o.ok.box;rw[aB.o]at R0;have b1:=Ja R0 0;simp only[zW]at b1;clear hi hg ho eA hb qA R0
  have L4:Hi (∀s∈S.funcs.map QeL,s.params.length<=1000000000):=λs hs=>by
   obtain⟨f,hf,rfl⟩:=List.mem_map.1 hs;have:=(H3.o f hf).2.2.1
   show f.types.length<=_
   omega
  go_wp2_with fail;clear b1;generalize World.alloc wl _=w2 at*;generalize wl.heap.size=rb at*;generalize Value.slice va vn vc=M at*;go_loopg [36] S.funcs.length λg v36 wr=>∃i:Nat,g+i=S.funcs.length/\v36=Iv i/\Hi (Ck w wr sb S rb (QaG none (ckF S i)) M)
  case atStart=>exact⟨0,rfl,rfl,zA⟩
  case round=>
  clear zA hil;obtain⟨wm,rfl⟩:=zJ wr;obtain⟨i,hg,rfl,hk⟩:=hrel
  by_cases hi:i<S.funcs.length
  ·have hil:(i:Int)<(S.funcs.length:Int):=zo;obtain⟨fn,xA⟩:∃fn,S.funcs[i]?=some fn:=⟨S.funcs[i],List.getElem?_eq_getElem hi⟩
   have hmem:=List.mem_of_getElem? xA;have bA:=nA.o zo;obtain⟨fo,_,_⟩:=hk.o.ok.fok fn hmem;have hcl:=Yv hk.o.ok xA;obtain⟨hwf,hsz,cB,aA⟩:=H3.o fn hmem;have vA:=Zh (JjW xA);have L1:yr wm (wm.alloc (.cells fn.cells.toArray 147)):=zO.alloc zP _;have cn:=JH (S.funcs.map QeL) rb M fn.body fn.types fn.tv (QaG none (ckF S i)) fn.result _ ((hk.o.up L1).preF hmem aA hwf) λW hp=>JcC _ rb M L4.o (siz fn.body.nd) fn.body fn.types fn.tv _ W zP zo hp;have uA:=Zh (hk.o.up L1);obtain⟨nm,of,ps,ts,res,b,pv,tv,gB,eB⟩:=fn;obtain⟨pa,pn,pc,dA⟩:=Jk fo.pown;obtain⟨ta,tn,tc,cA⟩:=Jk fo.town;dsimp only at dA cA cn vA;subst dA cA;obtain⟨yA,yn,yc,Q4⟩:=Jg b;obtain⟨E,hE⟩:=yt (QbF (S.funcs.map QeL) ts res b.nd)
   rw[hE]at cn vA;simp only[FnA.cells,Q4,List.cons_append,List.nil_append]at hcl cn uA;have c0:=hcl 0 _ rfl;have c1:=hcl 1 _ rfl;have c2:=hcl 2 _ rfl;have c3:=hcl 3 _ rfl;have c4:=hcl 4 _ rfl;have c5:=hcl 5 _ rfl;have c6:=hcl 6 _ rfl;have c7:=hcl 7 _ rfl;have c8:=hcl 8 _ rfl;have c9:=hcl 9 _ rfl;simp only[Nat.add_zero]at c0;have wk:=zI i;have HG:=Zh hg;subst bA;clear hcl xA fo hg Q4 hk L1 hE hwf hsz cB aA hmem;go_wp2_with fail;clear c0 c1 c2 c3 c4 c5 c6 c7 c8 c9;refine cn.mono ?_;intro e w8 hr
   have iA:Hi (Ck w w8 sb S rb (QaG none (ckF S (i+1))) M):=by
    rw[Hi,vA.o,Jw];exact uA.o.step HS.o hr
   obtain rfl:=hr.1;clear hr cn uA;go_wp2;go_roundg (S.funcs.length-(i+1))
   case measure=>have:=HG.o;omega
   case rel=>exact⟨i+1,by omega,by go_num,iA⟩
  ·have hil:¬(i:Int)<(S.funcs.length:Int):=zo;obtain rfl:i=S.funcs.length:=zo;obtain⟨X0,kA⟩:=yt (QaG none (ckF S S.funcs.length))
   rw[kA]at hk;have C4:=Zh kA;have zA:Hi (Ck w wm sb S rb (QaG X0 (ckC S 0)) M):=hk;have R0:=zA.o.ok.box;rw[E6.o]at R0;have b1:=Ja R0 1;simp only[zW]at b1;clear hi hg hk kA R0 H3 nA;go_wp2_with fail;clear b1;go_loopg [54] S.clauses.length λg v54 wr=>∃i:Nat,g+i=S.clauses.length/\v54=Iv i/\Hi (Ck w wr sb S rb (QaG X0 (ckC S i)) M)
   case atStart=>exact⟨0,rfl,rfl,zA⟩
   case round=>
   clear zA hil;obtain⟨wc,rfl⟩:=zJ wr;obtain⟨i,hg,rfl,hk⟩:=hrel
   by_cases hi:i<S.clauses.length
   ·have hil:(i:Int)<(S.clauses.length:Int):=zo;obtain⟨c,hA⟩:∃c,S.clauses[i]?=some c:=⟨S.clauses[i],List.getElem?_eq_getElem hi⟩
    have hmem:=List.mem_of_getElem? hA;have bA:=yB.o zo;have hcl:=JeU hk.o.ok hA;obtain⟨hwf,hsz,aA⟩:=H4.o c hmem;have vA:=Zh (JjX hA);have L1:yr wc (wc.alloc (.cells c.cells.toArray 151)):=zO.alloc zP _;have cn:=JH (S.funcs.map QeL) rb M c.cond [] Nl (QaG X0 (ckC S i)) 1 _ ((hk.o.up L1).preC hmem aA hwf) λW hp=>JcC _ rb M L4.o (siz c.cond.nd) c.cond [] Nl _ W zP zr hp;have uA:=Zh (hk.o.up L1);obtain⟨b,ac,rs,iB,hB⟩:=c;obtain⟨yA,yn,yc,Q4⟩:=Jg b;obtain⟨E,hE⟩:=yt (QbF (S.funcs.map QeL) [] 1 b.nd)
    dsimp only at cn vA;rw[hE]at cn vA;simp only[ClA.cells,Q4,List.cons_append,List.nil_append]at hcl cn uA;have c0:=hcl 0 _ rfl;have c1:=hcl 1 _ rfl;have c2:=hcl 2 _ rfl;have c3:=hcl 3 _ rfl;have c4:=hcl 4 _ rfl;have c5:=hcl 5 _ rfl;have c6:=hcl 6 _ rfl;simp only[Nat.add_zero]at c0;have wk:=zI i;have HG:=Zh hg;subst bA;clear hcl hA hg Q4 hk L1 hE hwf hsz aA hmem;go_wp2_with fail;clear c0 c1 c2 c3 c4 c5 c6;refine cn.mono ?_;intro e w8 hr
    have iA:Hi (Ck w w8 sb S rb (QaG X0 (ckC S (i+1))) M):=by
     rw[Hi,vA.o,Jw];exact uA.o.step HS.o hr
    obtain rfl:=hr.1;clear hr cn uA;go_wp2;go_roundg (S.clauses.length-(i+1))
    case measure=>have:=HG.o;omega
    case rel=>exact⟨i+1,by omega,by go_num,iA⟩
   ·have hil:¬(i:Int)<(S.clauses.length:Int):=zo;obtain rfl:i=S.clauses.length:=zo;have mA:=hk.o;rw[<-C4.o,<-Jw,JnC,JaJ]at mA;have HK:=Zh mA;have r0:=Ja HK.o.flt 0;have r1:=Ja HK.o.flt 1;simp only[zW]at r0 r1;clear hi hg hk mA C4 yB H4 L4
    cases hL:QaZ (QbH S.src) with
    |none=>
     rw[hL]at r0 r1;simp only[Option.isSome,Option.getD]at r0 r1;have HL:=Zh hL;clear hL;go_wp2;go_end0;rw[HR.o];unfold Qgn;rw[HL.o];exact⟨rfl,HK.o.bel⟩
    |some er=>
     rw[hL]at r0 r1;simp only[Option.isSome,Option.getD]at r0 r1;have HL:=Zh hL;clear hL;go_wp2;refine⟨rfl,?_⟩;rw[HR.o];unfold Qgn;rw[HL.o];exact⟨rfl,HK.o.bel⟩
mutual
def XAt(W:World)(P:Nat->Prop):Exp->Array Value->Prop
 |.mk k n s l,c=>∃ad cc xs,c=(zg k n s ad l.length cc)/\l.length<=cc/\QcR W P l xs/\
   (l=[]\/∃b o,ad=some ⟨b,o,none⟩/\P b/\∀j u,xs[j]?=some u->W.cell? ⟨b,o+j,none⟩=some u)
def QcR(W:World)(P:Nat->Prop):List Exp->List Value->Prop
 |[],xs=>xs=[]
 |e::l,xs=>∃c r,XAt W P e c/\xs=c.toList++r/\QcR W P l r
end
def Qhz{P:Prop}(h:P:=by
  rintro⟨b,o,h5,h6,h7⟩
  exact⟨b,o,h5,hq b h6,λj u hj=>(World.cell?_of_block (a:=⟨b,o+j,none⟩) (hk b h6)).trans (h7 j u hj)⟩):P:=h
mutual
def XAt.keep{W W':World}{P Q:Nat->Prop}(hk:∀b,P b->W'.heap[b]?=W.heap[b]?)(hq:∀b,P b->Q b):∀(e:Exp)(c:Array Value),XAt W P e c->XAt W' Q e c
 |.mk k n s l,c,h=>by
  unfold XAt at*;obtain⟨ad,cc,xs,h1,h2,h3,h4⟩:=h;refine⟨ad,cc,xs,h1,h2,QcR.keep hk hq l xs h3,h4.imp id ?_⟩;exact Qhz
def QcR.keep{W W':World}{P Q:Nat->Prop}(hk:∀b,P b->W'.heap[b]?=W.heap[b]?)(hq:∀b,P b->Q b):∀(l:List Exp)(xs:List Value),QcR W P l xs->QcR W' Q l xs
 |[],xs,h=>by unfold QcR at*;exact h
 |e::l,xs,h=>by
  unfold QcR at*;obtain⟨c,r,h1,h2,h3⟩:=h;exact⟨c,r,XAt.keep hk hq e c h1,h2,QcR.keep hk hq l r h3⟩
end
variable{Q P:Nat->Prop}{c:Array Value}{e:Exp}
def XAt.form(h:XAt W P e c):∃ad cc,c=(zg e.kind e.num e.name ad e.kids.length cc)/\e.kids.length<=cc:=by
 cases e
 unfold XAt at h;obtain⟨ad,cc,xs,h1,h2,_⟩:=h;exact⟨ad,cc,h1,h2⟩
def XAt.size(h:XAt W P e c):c.size=4:=by
 obtain⟨ad,cc,rfl,_⟩:=h.form;rfl
def QcR.snoc{W:World}{P:Nat->Prop}{e:Exp}{c:Array Value}(he:XAt W P e c):∀{l:List Exp}{xs:List Value},QcR W P l xs->QcR W P (l++[e]) (xs++c.toList)
 |[],xs,h=>by
  unfold QcR at h;subst h
  show QcR W P [e] _
  unfold QcR;exact⟨c,[],he,by simp,by unfold QcR;rfl⟩
 |a::l,xs,h=>by
  unfold QcR at h;obtain⟨c',r,h1,rfl,h3⟩:=h
  show QcR W P (a::(l++[e])) _
  unfold QcR;exact⟨c',r++c.toList,h1,by simp,h3.snoc he⟩
def QcR.get{W:World}{P:Nat->Prop}:∀{l:List Exp}{xs:List Value}{i:Nat}{e:Exp},QcR W P l xs->l[i]?=some e->∃c,XAt W P e c/\∀j u,c[j]?=some u->xs[i*4+j]?=some u
 |[],xs,i,e,h,hi=>by cases hi
 |a::l,xs,0,e,h,hi=>by
  unfold QcR at h;obtain⟨c,r,h1,rfl,h3⟩:=h;obtain rfl:a=e:=by simpa using hi
  refine⟨c,h1,λj u hj=>?_⟩;have hl:j<c.toList.length:=by rw[Array.length_toList];exact(Array.getElem?_eq_some_iff.1 hj).1
  rw[Nat.zero_mul,Nat.zero_add,List.getElem?_append_left hl,Array.getElem?_toList];exact hj
 |a::l,xs,i+1,e,h,hi=>by
  unfold QcR at h;obtain⟨c,r,h1,rfl,h3⟩:=h;obtain⟨c',g1,g2⟩:=h3.get (i:=i) (by simpa using hi);refine⟨c',g1,λj u hj=>?_⟩;have hl:c.toList.length=4:=by rw[Array.length_toList,h1.size]
  rw[List.getElem?_append_right zo,hl,show (i+1)*4+j-4=i*4+j by omega];exact g2 j u hj
def XAt.kid{k n:Int}{l:List Exp}(h:XAt W P (.mk k n s l) c):∃ad cc,c=(zg k n s ad l.length cc)/\l.length<=cc/\
  (l≠[]->∃b o,ad=some ⟨b,o,none⟩/\P b/\∀i e,l[i]?=some e->∃d,XAt W P e d/\∀j u,d[j]?=some u->W.cell? ⟨b,o+i*4+j,none⟩=some u):=by
 unfold XAt at h;obtain⟨ad,cc,xs,h1,h2,h3,h4⟩:=h;refine⟨ad,cc,h1,h2,λhne=>?_⟩
 rcases h4 with h4|⟨b,o,h5,h6,h7⟩
 ·exact absurd h4 hne
 ·refine⟨b,o,h5,h6,λi e hi=>?_⟩;obtain⟨d,g1,g2⟩:=h3.get hi;exact⟨d,g1,λj u hj=>by rw[Nat.add_assoc];exact h7 _ u (g2 j u hj)⟩
def QbR(W:World)(P:Nat->Prop)(l:List Int)(v:Value):Prop:=∃ad cc,v=.slice ad l.length cc/\l.length<=cc/\(l=[]\/∃b o,ad=some ⟨b,o,none⟩/\P b/\∀i n,l[i]?=some n->W.cell? ⟨b,o+i,none⟩=some (Iv n))
def QbR.keep{l:List Int}(hk:∀b,P b->W'.heap[b]?=W.heap[b]?)(hq:∀b,P b->Q b)(h:QbR W P l v):QbR W' Q l v:=by
 obtain⟨ad,cc,h1,h2,h3⟩:=h;refine⟨ad,cc,h1,h2,h3.imp id ?_⟩;rintro⟨b,o,h4,h5,h6⟩;exact⟨b,o,h4,hq b h5,λi n hi=>(World.cell?_of_block (a:=⟨b,o+i,none⟩) (hk b h5)).trans (h6 i n hi)⟩
def FnX(W:World)(P:Nat->Prop)(f:FnM)(c:List Value):Prop:=∃v d,QbR W P f.params v/\XAt W P f.body d/\c=[Sv f.name,v,Iv f.result]++d.toList
def ClX(W:World)(P:Nat->Prop)(m:ClM)(c:List Value):Prop:=∃d,XAt W P m.cond d/\c=d.toList++[Iv m.action,Sv m.reason]
def QbM{α:Type}(R:α->List Value->Prop):List α->List Value->Prop
 |[],xs=>xs=[]
 |e::l,xs=>∃c r,R e c/\xs=c++r/\QbM R l r
def QbM.imp{α:Type}{R R':α->List Value->Prop}(h:∀a c,R a c->R' a c):∀{l:List α}{xs:List Value},QbM R l xs->QbM R' l xs
 |[],xs,hh=>hh
 |e::l,xs,⟨c,r,h1,h2,h3⟩=>⟨c,r,h e c h1,h2,QbM.imp h h3⟩
def QbM.snoc{α:Type}{R:α->List Value->Prop}{e:α}{c:List Value}(he:R e c):∀{l:List α}{xs:List Value},QbM R l xs->QbM R (l++[e]) (xs++c)
 |[],xs,h=>by
  obtain rfl:xs=[]:=h;exact⟨c,[],he,by simp,rfl⟩
 |a::l,xs,⟨c',r,h1,h2,h3⟩=>⟨c',r++c,h1,by rw[h2,List.append_assoc],QbM.snoc he h3⟩
def QbM.get{α:Type}{R:α->List Value->Prop}{m:Nat}(hR:∀a c,R a c->c.length=m):∀{l:List α}{xs:List Value}{i:Nat}{e:α},QbM R l xs->l[i]?=some e->∃c,R e c/\∀j u,c[j]?=some u->xs[i*m+j]?=some u
 |[],xs,i,e,h,hi=>by cases hi
 |a::l,xs,0,e,⟨c,r,h1,h2,h3⟩,hi=>by
  obtain rfl:a=e:=by simpa using hi
  refine⟨c,h1,λj u hj=>?_⟩;rw[h2,Nat.zero_mul,Nat.zero_add,List.getElem?_append_left (List.getElem?_eq_some_iff.1 hj).1];exact hj
 |a::l,xs,i+1,e,⟨c,r,h1,h2,h3⟩,hi=>by
  obtain⟨c',g1,g2⟩:=QbM.get hR h3 (i:=i) (by simpa using hi);refine⟨c',g1,λj u hj=>?_⟩;have hl:=hR _ _ h1;rw[h2,List.getElem?_append_right (by rw[hl,Nat.add_mul];omega),hl,show (i+1)*m+j-m=i*m+j by rw[Nat.add_mul];omega];exact g2 j u hj
def FnX.len(f:FnM)(c:List Value)(h:FnX W P f c):c.length=7:=by
 obtain⟨v,d,_,h2,rfl⟩:=h;have:=h2.size;simp[this]
def ClX.len(f:ClM)(c:List Value)(h:ClX W P f c):c.length=6:=by
 obtain⟨d,h2,rfl⟩:=h;have:=h2.size;simp[this]
def FnX.keep(hk:∀b,P b->W'.heap[b]?=W.heap[b]?)(hq:∀b,P b->Q b)(f:FnM)(c:List Value)(h:FnX W P f c):FnX W' Q f c:=by
 obtain⟨v,d,h1,h2,h3⟩:=h;exact⟨v,d,h1.keep hk hq,h2.keep hk hq,h3⟩
def ClX.keep(hk:∀b,P b->W'.heap[b]?=W.heap[b]?)(hq:∀b,P b->Q b)(f:ClM)(c:List Value)(h:ClX W P f c):ClX W' Q f c:=by
 obtain⟨d,h2,h3⟩:=h;exact⟨d,h2.keep hk hq,h3⟩
variable{α:Type}
def Qan(W:World)(P:Nat->Prop)(R:α->List Value->Prop)(l:List α)(v:Value):Prop:=
 ∃ad cc xs,v=.slice ad l.length cc/\l.length<=cc/\QbM R l xs/\(l=[]\/∃b o,ad=some ⟨b,o,none⟩/\P b/\∀j u,xs[j]?=some u->W.cell? ⟨b,o+j,none⟩=some u)
def Qan.keep{R R':α->List Value->Prop}{l:List α}(hk:∀b,P b->W'.heap[b]?=W.heap[b]?)(hq:∀b,P b->Q b)(hR:∀a c,R a c->R' a c)(h:Qan W P R l v):Qan W' Q R' l v:=by
 obtain⟨ad,cc,xs,h1,h2,h3,h4⟩:=h;refine⟨ad,cc,xs,h1,h2,h3.imp hR,h4.imp id ?_⟩;exact Qhz
def Qan.get{R:α->List Value->Prop}{m:Nat}(hR:∀a c,R a c->c.length=m){l:List α}(h:Qan W P R l v):∃ad cc,v=.slice ad l.length cc/\l.length<=cc/\
  (l≠[]->∃b o,ad=some ⟨b,o,none⟩/\P b/\∀i e,l[i]?=some e->∃c,R e c/\∀j u,c[j]?=some u->W.cell? ⟨b,o+i*m+j,none⟩=some u):=by
 obtain⟨ad,cc,xs,h1,h2,h3,h4⟩:=h;refine⟨ad,cc,h1,h2,λhne=>?_⟩
 rcases h4 with h4|⟨b,o,h5,h6,h7⟩
 ·exact absurd h4 hne
 ·refine⟨b,o,h5,h6,λi e hi=>?_⟩;obtain⟨d,g1,g2⟩:=QbM.get hR h3 hi;exact⟨d,g1,λj u hj=>by rw[Nat.add_assoc];exact h7 _ u (g2 j u hj)⟩
def QaV(W:World)(P:Nat->Prop)(r:Qah)(c:Array Value):Prop:=∃fv cv,c=#[fv,cv,Iv r.action]/\Qan W P (FnX W P) r.funcs fv/\Qan W P (ClX W P) r.clauses cv
def QaV.keep{r:Qah}(hk:∀b,P b->W'.heap[b]?=W.heap[b]?)(hq:∀b,P b->Q b)(h:QaV W P r c):QaV W' Q r c:=by
 obtain⟨fv,cv,h1,h2,h3⟩:=h;exact⟨fv,cv,h1,h2.keep hk hq (FnX.keep hk hq),h3.keep hk hq (ClX.keep hk hq)⟩
def QjP{P:Prop}(h:P:=by
  rcases h.2 with⟨rfl,h0⟩|⟨g,cap,cur,rfl,h1,h2,h3,h4,h5,h6⟩
  ·have:l=[]:=List.eq_nil_of_length_eq_zero h0;subst this;exact⟨none,0,xs,rfl,Nat.le_refl _,hr,.inl rfl⟩
  ·refine⟨_,cap,xs,rfl,h3,hr,.inr ⟨g,0,rfl,hP g rfl,λj u hj=>?_⟩⟩;have:=h.cells (g:=g) rfl j u hj;have hadd:(⟨g,0,none⟩:Addr).add j=⟨g,j,none⟩:=by unfold Addr.add;split<;>simp_all
   rw[hadd]at this;rw[Nat.zero_add]
   exact this):P:=h
def Qan.own{R:α->List Value->Prop}{l:List α}{e size:Nat}{xs:List Value}(h:W.ownsRow base e size v l.length xs)(hr:QbM R l xs)(hP:∀g,v.ownBlock=some g->P g):Qan W P R l v:=by
 exact QjP
def XAt.own{k n:Int}{l:List Exp}{e size:Nat}{xs:List Value}(h:W.ownsRow base e size v l.length xs)(hr:QcR W P l xs)(hP:∀g,v.ownBlock=some g->P g):XAt W P (.mk k n s l) (yp k n s v):=by
 unfold XAt;exact QjP
def zj{P:Prop}(h:P:=by exact ⟨hb.os.trans h.bel.os,hb.tape.trans h.bel.tape,hb.output.trans h.bel.output,le_trans h.bel.size hb.size,λq hq=>(hb.block q (Nat.lt_of_lt_of_le hq h.bel.size)).trans (h.bel.block q hq)⟩):P:=h
def Qfw:(prog.info? 37).map (λi=>(i.zero,i.size,i.bytes))=some (some (.agg #[Iv 0,Iv 0,Em,Nl]),4,56):=zk
def QfX:(prog.info? 37).map (·.size)=some 4:=zk
def Qfj(w W:World)(b:Nat):Prop:=w.heap.size<=b/\b<W.heap.size
structure TrI(w:World)(rs bx lo:Nat)(k n:Int)(s:By)(W:World)(l:List Exp)(V:Value)(xs:List Value):Prop where
 own:W.ownsRow lo 37 4 V l.length xs
 row:QcR W (λb=>lo<=b/\b<W.heap.size/\V.ownBlock≠some b) l xs
 box:W.heap[bx]?=some (.cells (yp k n s V) 37 (0,0))
 res:W.heap[rs]?=some (.cells #[Iv 0,Iv 0,Em,Nl] 37 (0,0))
 bel:yr w W
 low:w.heap.size<=rs/\rs<bx/\bx<lo/\lo<=W.heap.size
section
variable {w:World}{rs bx lo:Nat}{k n:Int}{s:By}{W W':World}{l:List Exp}{V:Value}{xs:List Value}
def TrI.up(h:TrI w rs bx lo k n s W l V xs)(hb:yr W W'):TrI w rs bx lo k n s W' l V xs:=by
 obtain⟨l1,l2,l3,l4⟩:=h.low;have hc:=Chg.of_below hb []
 exact⟨JA h.own hc zq,QcR.keep (λb hP=>hb.block b hP.2.1) (λb hP=>⟨hP.1,Nat.lt_of_lt_of_le hP.2.1 hb.size,hP.2.2⟩) _ _ h.row,(hb.block _ (Jb h.box)).trans h.box,(hb.block _ (Jb h.res)).trans h.res,
  zj,l1,l2,l3,le_trans l4 hb.size⟩
def QjC{P:Prop}(h:P:=by
  exact⟨hst.os.trans (I4.os.trans h6.bel.os),hst.tape.trans (I4.tape.trans h6.bel.tape),hst.output.trans (I4.output.trans h6.bel.output),by omega,λq hq=>(F4 q (by omega) (λe1=>by have h1:=(hrow _ e1).1;omega) (by omega)).trans (h6.bel.block q hq)⟩):P:=h
def TrI.step{w1 w6 w7:World}{V':Value}{X:Obj}(h:TrI w rs bx lo k n s w1 l V xs)(hb:yr w1 w6)(hx:XAt w6 (Qfj w1 w6) e c)
  (hown:w7.ownsRow lo 37 4 V' (l.length+1) (xs++c.toList)) (hgr:(w6.alloc X).grownBy w7 V.ownBlock) (O0:V'.ownBlock=V.ownBlock\/V'.ownBlock=some (w6.alloc X).heap.size):
  TrI w rs bx lo k n s (w7.setCell ⟨bx,3,none⟩ V') (l++[e]) V' (xs++c.toList)/\w7.heap[bx]?=some (.cells (yp k n s V) 37 (0,0)):=by
 have h6:=h.up hb;obtain⟨l1,l2,l3,l4⟩:=h6.low;have hrow:∀g,V.ownBlock=some g->lo<=g/\g<w1.heap.size:=λg hg=>h.own.lt g hg
 have I4:=JP hgr;have X4:w7.heap[bx]?=some (.cells (yp k n s V) 37 (0,0)):=I4.heap_some (λhm=>by have:=(hrow bx (by simpa using hm)).1;omega) h6.box;have hst:Chg [bx] w7 (w7.setCell ⟨bx,3,none⟩ V'):=(Chg.refl _ _).setCell (.inl (by simp:bx∈[bx])) (p:=⟨bx,3,none⟩) V';have F4:∀q,q<w6.heap.size->V.ownBlock≠some q->q≠bx->(w7.setCell ⟨bx,3,none⟩ V').heap[q]?=w6.heap[q]?:=λq hq hn hne=>(hst.block q (Nat.lt_of_lt_of_le hq I4.size) (by simpa using hne)).trans (I4.block q hq (by simpa using hn))
 have hsz:w6.heap.size<=(w7.setCell ⟨bx,3,none⟩ V').heap.size:=le_trans I4.size hst.size
 have xA:∀b,b<w6.heap.size->V.ownBlock≠some b->V'.ownBlock≠some b:=by
  intro b L1 I0 e1
  rcases O0 with e2|e2
  ·exact I0 (e2.symm.trans e1)
  ·rw[e2]at e1;simp at e1;omega
 have yA:=hb.size;refine⟨⟨?_,QcR.snoc ?_ ?_,?_,?_,?_,l1,l2,l3,le_trans l4 hsz⟩,X4⟩
 ·rw[List.length_append];exact JA hown hst zr
 ·refine XAt.keep (P:=Qfj w1 w6) (λb hP=>?_) (λb hP=>?_) _ _ hx
  ·exact F4 b hP.2 (λe1=>by have h1:=(hrow b e1).2;have h2:=hP.1;omega) (by have h2:=hP.1;have:=h.low;omega)
  ·have h2:=hP.1;have h3:=hP.2;have:=h.low;exact⟨by omega,by omega,xA b h3 λe1=>by have h1:=(hrow b e1).2;omega⟩
 ·exact QcR.keep (λb hP=>F4 b hP.2.1 hP.2.2 (zu hP.1)) (λb hP=>⟨hP.1,by have:=hP.2.1;omega,xA b hP.2.1 hP.2.2⟩) _ _ h6.row
 ·exact Jm X4 3 V'
 ·exact(F4 _ (Jb h6.res) (λe1=>by have h1:=(hrow _ e1).1;omega) zo).trans h6.res
 ·have zA:w.heap.size<=w6.heap.size:=h6.bel.size;exact QjC
def TrI.fin(h:TrI w rs bx lo k n s W l V xs):let W':=(((W.setCell ⟨rs,0,none⟩ (Iv k)).setCell ⟨rs,1,none⟩ (Iv n)).setCell ⟨rs,2,none⟩ (Sv s)).setCell ⟨rs,3,none⟩ V
  XAt W' (Qfj w W') (.mk k n s l) (yp k n s V)/\yr w W':=by
 intro W';obtain⟨l1,l2,l3,l4⟩:=h.low;have hst:Chg [rs] W W':=((((Chg.refl _ _).setCell (.inl zq) _).setCell (.inl zq) _).setCell (.inl zq) _).setCell (.inl zq) _;have hsz:=hst.size;refine⟨XAt.own (JA h.own hst zr) (QcR.keep (λb hP=>hst.block b hP.2.1 (by have:=hP.1;simp;omega)) (λb hP=>⟨by have:=hP.1;omega,by have:=hP.2.1;omega⟩) _ _ h.row) λg hg=>?_,QiU _ _ _ _ h.bel l1⟩;have:=h.own.lt g hg;exact⟨by omega,by omega⟩
end
def Jhv(l:List Nd)(a:Nd):QaJ (l++[a])=QaJ l++[Qab a]:=by
 induction l with
 |nil=>simp[QaJ]
 |cons x r ih=>simp[QaJ,ih]
def TrP(w:World)(x:Exp)(e:Ending)(w':World):Prop:=∃c,e=.returned (.agg c)/\XAt w' (Qfj w w') x c/\yr w w'
def Jhw(n:Nat)(IH:∀(a:An)(w:World),siz a.nd<=n->a.At w->Calls prog 99 #[.agg (Qaa a)] w (TrP w (Qab a.nd)))(k nn:Int)(s:By)(off:Int)(b c:Nat)(l:List An)(w:World)(hn:Qbd (ndL l)<=n)(hb:n<=100000000)(hat:(An.mk k nn s off b c l).At w):
  Calls prog 99 #[.agg (Qaa (.mk k nn s off b c l))] w (TrP w (.mk k nn s (QaJ (ndL l)))):=by
 obtain⟨R,hR⟩:=yt (TrP w (.mk k nn s (QaJ (ndL l))))
 rw[hR];have HR:Hi (R=TrP w (.mk k nn s (QaJ (ndL l)))):=hR.symm;obtain⟨ad,cc,S3,gA⟩:=Jp b c l
 have iA:Qaa (.mk k nn s off b c l)=(za k nn s off ad l.length cc):=by
  exact zAm
 have hA:yr w (((w.alloc (.cells (za k nn s off ad l.length cc) 127)).alloc (.cells #[Iv 0,Iv 0,Em,Nl] 37)).alloc (.cells (yp k nn s Nl) 37)):=((zO.alloc (Nat.le_refl _) _).alloc zq _).alloc zr _
 have dA:Hi (TrI w (w.heap.size+1) (w.heap.size+1+1) (w.heap.size+1+1+1) k nn s (((w.alloc (.cells (za k nn s off ad l.length cc) 127)).alloc (.cells #[Iv 0,Iv 0,Em,Nl] 37)).alloc (.cells (yp k nn s Nl) 37)) [] Nl []):=by
  have e1:=zQ (w.alloc (.cells (za k nn s off ad l.length cc) 127)) (.cells #[Iv 0,Iv 0,Em,Nl] 37);have e2:=zQ ((w.alloc (.cells (za k nn s off ad l.length cc) 127)).alloc (.cells #[Iv 0,Iv 0,Em,Nl] 37)) (.cells (yp k nn s Nl) 37);simp only[World.size_alloc]at e1 e2;exact⟨⟨rfl,.inl ⟨rfl,rfl⟩⟩,by unfold QcR;rfl,e2,Jf e1,hA,by omega,by omega,by omega,by simp⟩
 have T2:Hi ((((w.alloc (.cells (za k nn s off ad l.length cc) 127)).alloc (.cells #[Iv 0,Iv 0,Em,Nl] 37)).alloc (.cells (yp k nn s Nl) 37)).heap[w.heap.size]?=some (.cells (za k nn s off ad l.length cc) 127 (0,0))):=Jf (Jf (zQ _ _));have nA:=Zh hat;have HAD:=Zh gA;have mA:=Zh IH;have tA:l.length<=100000000:=by have:=Jy l;omega
 have Q6:=Zh hn;rw[iA];clear hR hA S3 gA iA IH hat hn;go_enter func99,ntmps99;go_wp2_with fail;generalize World.alloc (World.alloc (World.alloc w _) _) _=w1 at*;generalize w.heap.size+1+1+1=lo at*;generalize w.heap.size+1+1=bx at*;generalize w.heap.size+1=rs at*;have xB:Hi (w.heap.size<w1.heap.size):=Jb T2.o;have n4:=Ja T2.o 4;simp only[zW]at n4;go_wp2_with fail;clear n4;go_loopg [16] l.length λg v16 wr=>∃i:Nat,g+i=l.length/\v16=Iv i/\Hi (∃V xs,TrI w rs bx lo k nn s wr (QaJ (ndL (l.take i))) V xs)/\Hi (yr w wr)
 case atStart=>exact⟨0,rfl,rfl,⟨_,_,dA.o⟩,dA.o.bel⟩
 case round=>
 clear dA T2;obtain⟨wl,rfl⟩:=zJ wr;obtain⟨i,hg,rfl,xA,G1⟩:=hrel;obtain⟨V,xs,xA⟩:=xA.o;obtain⟨va,vn,vc,rfl⟩:=Jk xA.own
 by_cases hi:i<l.length
 ·have hil:(i:Int)<(l.length:Int):=zo;obtain⟨y,hy⟩:∃y,l[i]?=some y:=⟨l[i],List.getElem?_eq_getElem hi⟩
  have hmem:=List.mem_of_getElem? hy;have X3:ad=some ⟨b,0,none⟩:=HAD.o (List.ne_nil_of_mem hmem);have hat:=nA.o;have uA:(An.mk k nn s off b c l).At wl:=JK _ hat λq hq=>G1.o.block q (Jcs _ hat q hq)
  unfold An.At at uA;obtain⟨hcl,bA⟩:=JW uA.2 hy;rw[Nat.zero_add]at hcl;obtain⟨yA,yn,yc,T1⟩:=Jg y;rw[T1]at hcl;have c0:=hcl 0 _ rfl;have c1:=hcl 1 _ rfl;have c2:=hcl 2 _ rfl;have c3:=hcl 3 _ rfl;have c4:=hcl 4 _ rfl;simp only[Nat.add_zero]at c0;have wk:=zI i;have I0:yr wl (wl.alloc (.cells (za y.kind y.num y.name y.off yA yn yc) 127)):=zO.alloc (Nat.le_refl _) _;have zA:=Zh (xA.up I0);have vA:=Zh (JK y bA λq hq=>I0.block q (Jcs y bA q hq));have A0:=Zh (zQ wl (.cells (za y.kind y.num y.name y.off yA yn yc) 127));have i7:Hi (QaJ (ndL (l.take (i+1)))=QaJ (ndL (l.take i))++[Qab y.nd]):=by rw[Hi,List.take_add_one,hy];show QaJ (ndL (_++[y]))=_;rw[Vf,Jhv]
  have kA:Hi ((QaJ (ndL (l.take i))).length<=100000000):=by
   have e1:∀q:List Nd,(QaJ q).length=q.length:=λq=>by induction q with
    |nil=>rfl
    |cons x r ih=>simp[QaJ,ih]
   have e2:∀q:List An,(ndL q).length=q.length:=λq=>by rw[Kk,List.length_map]
   rw[Hi,e1,e2,List.length_take];omega
  have pA:Hi (siz y.nd<=n):=by have:=JM hmem;have:=Q6.o;rw[Hi];omega
  have qA:=Zh T1;have HG:=Zh hg;subst X3;clear hat uA hcl T1 I0 xA hy hmem HAD hg bA G1;go_upto_region 5 with fail;clear c0 c1 c2 c3 c4;generalize World.alloc wl _=wk0 at*;generalize wl.heap.size=cb at*;have hD:yr wk0 wk0.drew:=(Below.refl wk0.heap.size wk0).drew;replace zA:=Zh (zA.o.up hD);replace vA:=Zh (JK y vA.o λq hq=>hD.block q (Jcs y vA.o q hq));replace A0:=Zh ((hD.block _ (Jb A0.o)).trans A0.o);clear hD;have b3:=Ja zA.o.box 3;simp only[zW]at b3;refine LB (λW=>W.cell? ⟨bx,3,none⟩=some (.slice va vn vc)) 7 (b3) λhH=>?_
  generalize wk0.drew=wk1 at*;refine LK 0 rfl ?_;refine LK 1 rfl ?_;refine LO 2 rfl λK hK=>?_
  have R0:=A0.o;have p0:=Ja R0 0;have p1:=Ja R0 1;have p2:=Ja R0 2;have p3:=Ja R0 3;have p4:=Ja R0 4;simp only[zW]at p0 p1 p2 p3 p4;go_simp;clear p0 p1 p2 p3 p4 R0;refine zU hK (b3) λhH=>?_
  clear hK K;refine LO 3 rfl λK hK=>?_
  have ci:=mA.o y _ pA.o vA.o;rw[qA.o]at ci
  (go_simp;go_at_call 99;refine ci.mono ?_;intro e w6 h6)
  clear ci;obtain⟨cy,rfl,aA,M2⟩:=h6;obtain⟨ca,cm,cA,jA⟩:=aA.form;have sA:=Zh aA;have U7:=Zh M2;have rA:=Zh cA;replace A0:=Zh ((M2.block _ (Jb A0.o)).trans A0.o);have eA:=Zh (zA.o.up M2);have HOW:Hi ((w6.alloc (.cells cy 37)).ownsRow lo 37 4 (.slice va vn vc) (QaJ (ndL (l.take i))).length xs):=eA.o.own.alloc _;have R3:Hi ((w6.alloc (.cells cy 37)).heap[w6.heap.size]?=some (.cells cy.toList.toArray 37 (0,0))):=zQ _ _;have Q2:lo<=(w6.alloc (.cells cy 37)).heap.size:=by have:=eA.o.low;rw[World.size_alloc];omega
  replace b3:=Ja eA.o.box 3;simp only[zW]at b3;rw[cA]at HOW R3 Q2 |-;clear aA M2 cA jA;refine zU hK (b3) λhH=>?_
  clear hK K;refine LO 4 rfl λK hK=>?_
  go_simp;refine zU hK (by simp[*,World.cell?_alloc_some]) λhH=>?_
  clear hK K;refine LO 5 rfl λK hK=>?_
  (refine Jq (w6.alloc (.cells (zg (Qab y.nd).kind (Qab y.nd).num (Qab y.nd).name ca (Qab y.nd).kids.length cm) 37)) zt (.tmp 21) (.tmp 24) 35 37 _ 4 56 zt underlying35 Qfw rfl zp lo (.slice va vn vc) (QaJ (ndL (l.take i))).length xs [Iv (Qab y.nd).kind,Iv (Qab y.nd).num,Sv (Qab y.nd).name,.slice ca (Qab y.nd).kids.length cm] zt HOW.o w6.heap.size zt R3.o rfl (by intro u hu;simp at hu;rcases hu with rfl|rfl|rfl|rfl<;>rfl) kA.o zp Q2 ?_;intro v7 w7 N1 P3 O3)
  obtain⟨a7,m7,c7,rfl⟩:=Jk N1;have hst:=TrI.step (V':=.slice a7 m7 c7) zA.o U7.o sA.o (by rw[rA.o];exact N1) P3 O3;replace b3:=Ja hst.2 3;simp only[zW]at b3;have f3:=Jc hst.2 3;have T9:=Jb hst.2;have D2:=Zh hst.1;clear N1 P3 O3 hst HOW R3 Q2;refine zU hK (b3) λhH=>?_
  clear hK K;refine LK 6 rfl ?_;refine LZ 7 rfl λK hK=>?_
  go_simp;clear b3 f3 T9;refine hK.out _ _ ?_;clear hK K;have T7:Hi (yr w (w7.setCell ⟨bx,3,none⟩ (.slice a7 m7 c7))):=D2.o.bel;go_wp2;go_roundg (l.length-(i+1))
  case measure=>have:=HG.o;omega
  case rel=>exact⟨i+1,by omega,by go_num,⟨_,_,by rw[i7.o];exact D2.o⟩,T7⟩
 ·have hil:¬(i:Int)<(l.length:Int):=zo;obtain rfl:i=l.length:=zo;rw[List.take_length]at xA;have zA:=Zh xA;have R0:=xA.box;have M1:=xA.res;have b0:=Ja R0 0;have b1:=Ja R0 1;have b2:=Ja R0 2;have b3:=Ja R0 3;have z0:=Ja M1 0;have z1:=Ja M1 1;have z2:=Ja M1 2;have z3:=Ja M1 3;simp only[zW]at b0 b1 b2 b3 z0 z1 z2 z3;have y0:=Jc M1 0;have y1:=Jc M1 1;have y2:=Jc M1 2;have y3:=Jc M1 3;clear hi hg xA R0 M1;go_wp2;refine bodyPost_ret (v:=.agg (zg k nn s va vn vc)) (results_cell_row rfl _ _ rs 37 _ (0,0) _ rfl (Qjk _ _ _ _ zA.o.res) underlying37 rfl QfX) rfl ?_;rw[HR.o];obtain⟨e1,e2⟩:=zA.o.fin;exact⟨_,rfl,e1,e2⟩
def Yw:∀n,n<=100000000->∀(a:An)(w:World),siz a.nd<=n->a.At w->Calls prog 99 #[.agg (Qaa a)] w (TrP w (Qab a.nd))
 |0,_,a,w,h,_=>by have:=Vh a.nd;omega
 |n+1,hn,.mk k nn s off b c l,w,h,hat=>by
  rw[ZV]at h;have e:Qab (An.mk k nn s off b c l).nd=.mk k nn s (QaJ (ndL l)):=by unfold An.nd;rw[Qab]
  rw[e];exact Jhw n (λa w h1 h2=>Yw n zo a w h1 h2) k nn s off b c l w zo zo hat
end Go.Proofs.YtfafpklefknomaaGreatDoor



