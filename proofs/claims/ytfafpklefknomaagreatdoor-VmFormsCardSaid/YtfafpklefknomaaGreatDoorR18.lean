import Derived.Test.YtfafpklefknomaaGreatDoorR17
open Nat(le_refl le_trans)
namespace Go.Proofs.YtfafpklefknomaaGreatDoor
open Go.ChangeShapes Go.WideShapes Go.ChangeAt Go.RowKit Go.Lib
open _root_.Go.Proofs.Tryz
set_option linter.all false
set_option maxRecDepth 100000
set_option maxHeartbeats 32000000
def Kv(fs:List QaN)(vars:List Int)(k n:Int)(s:By)(o:Int)(l:List Nd):ofN fs vars (.mk k n s o l) =
  if k=1\/k=5 then (1,[])
  else if k=2 then (vars.getD n.toNat 0,[])
  else if k=3 then ((QaU s).getD 0,[])
  else if k=6\/(8<=k/\k<=12) then (0,Qbp fs vars 0 l)
  else if k=13\/k=14 then (1,Qbp fs vars 0 l)
  else if k=15 then
   match l with
   |[a,b]=>(1,(ofN fs vars a).2++(ofN fs vars b).2++if (ofN fs vars b).1≠(ofN fs vars a).1 then [b.off] else [])
   |_=>(1,[])
  else if k=7\/k=16\/k=17 then (1,Qbp fs vars 1 l)
  else if k=18 then
   match l with
   |[c,a,b]=>((ofN fs vars a).1,(ofN fs vars c).2++(if (ofN fs vars c).1≠1 then [c.off] else [])++(ofN fs vars a).2++(ofN fs vars b).2++if (ofN fs vars b).1≠(ofN fs vars a).1 then [b.off] else [])
   |_=>(0,[])
  else if k=19 then
   match l with
   |[a,b]=>((ofN fs (vars++[(ofN fs vars a).1]) b).1,(ofN fs vars a).2++(ofN fs (vars++[(ofN fs vars a).1]) b).2)
   |_=>(0,[])
  else if k=20 then ((fs.getD n.toNat ⟨[],0⟩).result,QgI fs vars n o l)
  else (0,[]):=by
 conv=>lhs;unfold ofN
 rfl
def QdS(fs:List QaN)(rb:Nat)(M:Value)(n:Nat):Prop:=∀(a:An) (vars:List Int) (vv:Value) (x:Option Int) (w:World),siz a.nd<=n->n+vars.length<=1000000000->Qas fs rb M w x vars vv a->Calls prog 114 #[Pt rb,.agg (Qaa a),vv] w (TyP w rb M x (ofN fs vars a.nd).2 (Iv (ofN fs vars a.nd).1))
theorem QiG{P:Prop}(h:P:=by
  go_enter func114,ntmps114;go_wp2;rw[HR.o];obtain⟨rfl,rfl⟩:=HRV.o
  exact⟨rfl,HP2.o.flt,HBA.o⟩):P:=h
section
variable (fs:List QaN)(rb:Nat)(M:Value)(hps:∀s∈fs,s.params.length<=1000000000)(n:Nat)(IH:QdS fs rb M n)(nn:Int)(s:By)(off:Int)(b c:Nat)(l:List An)(vars:List Int)(vv:Value)(x:Option Int)(w:World)(hn:Qbd (ndL l)<=n)(hb:n+1+vars.length<=1000000000)
include fs rb M hps n IH nn s off b c l vars vv x w hn hb
theorem QkE(hpre:Qas fs rb M w x vars vv (.mk 1 nn s off b c l))  :
  Calls prog 114 #[Pt rb,.agg (Qaa (.mk 1 nn s off b c l)),vv] w (TyP w rb M x (ofN fs vars (An.mk 1 nn s off b c l).nd).2 (Iv (ofN fs vars (An.mk 1 nn s off b c l).nd).1)):=by
 obtain⟨r,hr⟩:∃r,ofN fs vars (An.mk 1 nn s off b c l).nd=r:=⟨_,rfl⟩
 rw[hr];obtain⟨ty,es⟩:=r;dsimp only;obtain⟨R,hR⟩:∃R,TyP w rb M x es (Iv ty)=R:=⟨_,rfl⟩
 rw[hR];have HR:Hi (R=TyP w rb M x es (Iv ty)):=hR.symm;rw[An.nd,Kv]at hr;have vA:l.length<=n:=by have:=Jy l;omega
 obtain⟨ad,cc,hkv,zA⟩:=Jp b c l
 have xA:Qaa (.mk 1 nn s off b c l)=#[Iv 1,Iv nn,Sv s,Iv off,.slice ad l.length cc]:=by
  show #[_,_,_,_,Qaz b c l]=_
  rw[hkv]
 have yA:Below w.heap.size w (w.alloc (.cells (Qaa (.mk 1 nn s off b c l)) 127)):=zO.alloc zP _;have uA:=Jb hpre.flt;have hcb:w.heap.size≠rb:=zo;have HP:=Zh (hpre.up yA);have HBA:=Zh (Chg.of_below yA [rb]);have HCP:=Zh (zQ w (.cells (Qaa (.mk 1 nn s off b c l)) 127));have HAD:=Zh zA;have HCS:=Zh xA;have HN:=Zh hn;rw[xA]at HBA HCP |-;have HP2:Hi (Qas fs rb M (w.alloc (.cells #[Iv 1,Iv nn,Sv s,Iv off,.slice ad l.length cc] 127)) x vars vv (.mk 1 nn s off b c l)):=by rw[<- xA];exact HP.o
 clear hR yA hkv zA xA uA HP hpre hn;simp at hr;have HRV:=Zh hr;clear hr;exact QiG
theorem QkB(hpre:Qas fs rb M w x vars vv (.mk 5 nn s off b c l))  :
  Calls prog 114 #[Pt rb,.agg (Qaa (.mk 5 nn s off b c l)),vv] w (TyP w rb M x (ofN fs vars (An.mk 5 nn s off b c l).nd).2 (Iv (ofN fs vars (An.mk 5 nn s off b c l).nd).1)):=by
 obtain⟨r,hr⟩:∃r,ofN fs vars (An.mk 5 nn s off b c l).nd=r:=⟨_,rfl⟩
 rw[hr];obtain⟨ty,es⟩:=r;dsimp only;obtain⟨R,hR⟩:∃R,TyP w rb M x es (Iv ty)=R:=⟨_,rfl⟩
 rw[hR];have HR:Hi (R=TyP w rb M x es (Iv ty)):=hR.symm;rw[An.nd,Kv]at hr;have vA:l.length<=n:=by have:=Jy l;omega
 obtain⟨ad,cc,hkv,zA⟩:=Jp b c l
 have xA:Qaa (.mk 5 nn s off b c l)=#[Iv 5,Iv nn,Sv s,Iv off,.slice ad l.length cc]:=by
  show #[_,_,_,_,Qaz b c l]=_
  rw[hkv]
 have yA:Below w.heap.size w (w.alloc (.cells (Qaa (.mk 5 nn s off b c l)) 127)):=zO.alloc zP _;have uA:=Jb hpre.flt;have hcb:w.heap.size≠rb:=zo;have HP:=Zh (hpre.up yA);have HBA:=Zh (Chg.of_below yA [rb]);have HCP:=Zh (zQ w (.cells (Qaa (.mk 5 nn s off b c l)) 127));have HAD:=Zh zA;have HCS:=Zh xA;have HN:=Zh hn;rw[xA]at HBA HCP |-;have HP2:Hi (Qas fs rb M (w.alloc (.cells #[Iv 5,Iv nn,Sv s,Iv off,.slice ad l.length cc] 127)) x vars vv (.mk 5 nn s off b c l)):=by rw[<- xA];exact HP.o
 clear hR yA hkv zA xA uA HP hpre hn;simp at hr;have HRV:=Zh hr;clear hr;exact QiG
theorem QkD(hpre:Qas fs rb M w x vars vv (.mk 2 nn s off b c l))  :
  Calls prog 114 #[Pt rb,.agg (Qaa (.mk 2 nn s off b c l)),vv] w (TyP w rb M x (ofN fs vars (An.mk 2 nn s off b c l).nd).2 (Iv (ofN fs vars (An.mk 2 nn s off b c l).nd).1)):=by
 obtain⟨r,hr⟩:∃r,ofN fs vars (An.mk 2 nn s off b c l).nd=r:=⟨_,rfl⟩
 rw[hr];obtain⟨ty,es⟩:=r;dsimp only;obtain⟨R,hR⟩:∃R,TyP w rb M x es (Iv ty)=R:=⟨_,rfl⟩
 rw[hR];have HR:Hi (R=TyP w rb M x es (Iv ty)):=hR.symm;rw[An.nd,Kv]at hr;have bA:l.length<=n:=by have:=Jy l;omega
 obtain⟨ad,cc,hkv,aA⟩:=Jp b c l
 have xA:Qaa (.mk 2 nn s off b c l)=#[Iv 2,Iv nn,Sv s,Iv off,.slice ad l.length cc]:=by
  show #[_,_,_,_,Qaz b c l]=_
  rw[hkv]
 have zA:Below w.heap.size w (w.alloc (.cells (Qaa (.mk 2 nn s off b c l)) 127)):=zO.alloc zP _;have cA:=Jb hpre.flt;have hcb:w.heap.size≠rb:=zo;have HP:=Zh (hpre.up zA);have HBA:=Zh (Chg.of_below zA [rb]);have HCP:=Zh (zQ w (.cells (Qaa (.mk 2 nn s off b c l)) 127));have HAD:=Zh aA;have HCS:=Zh xA;have HN:=Zh hn;rw[xA]at HBA HCP |-;have HP2:Hi (Qas fs rb M (w.alloc (.cells #[Iv 2,Iv nn,Sv s,Iv off,.slice ad l.length cc] 127)) x vars vv (.mk 2 nn s off b c l)):=by rw[<- xA];exact HP.o
 clear hR zA hkv aA xA cA HP hpre hn;have uA:=HP2.o.ok;unfold An.nd QdK at uA;obtain⟨h0,h1⟩:=uA.1 rfl;obtain⟨ix,rfl⟩:∃ix:Nat,nn=(ix:Int):=⟨nn.toNat,by omega⟩
 have yA:ix<vars.length:=zo;have eA:(ix:Int)<(vars.length:Int):=zo;simp at hr;have HRV:=Zh hr;obtain⟨u,hu⟩:∃u,vars[ix]?=some u:=⟨vars[ix],List.getElem?_eq_getElem yA⟩
 have HU:=Zh hu
 obtain⟨g,o,dA,vA⟩:∃g o,(∃vc,vv=.slice (some ⟨g,o,none⟩) vars.length vc)/\(w.alloc (.cells #[Iv 2,Iv (ix:Nat),Sv s,Iv off,.slice ad l.length cc] 127)).cell? ⟨g,o+ix,none⟩=some (Iv u):=by
  rcases HP2.o.ints with⟨e,_⟩|⟨g,o,vc,e,_,_,_,e5⟩
  ·rw[e]at yA;exact absurd yA zq
  ·exact⟨g,o,⟨vc,e⟩,e5 ix u hu⟩
 obtain⟨vc,rfl⟩:=dA;clear hr uA h0 h1 hu;go_enter func114,ntmps114;go_wp2;rw[HR.o];obtain⟨h1,rfl⟩:=HRV.o;rw[HU.o]at h1;simp at h1;subst h1;exact⟨rfl,HP2.o.flt,HBA.o⟩
theorem QkC(hpre:Qas fs rb M w x vars vv (.mk 3 nn s off b c l))  :
  Calls prog 114 #[Pt rb,.agg (Qaa (.mk 3 nn s off b c l)),vv] w (TyP w rb M x (ofN fs vars (An.mk 3 nn s off b c l).nd).2 (Iv (ofN fs vars (An.mk 3 nn s off b c l).nd).1)):=by
 obtain⟨r,hr⟩:∃r,ofN fs vars (An.mk 3 nn s off b c l).nd=r:=⟨_,rfl⟩
 rw[hr];obtain⟨ty,es⟩:=r;dsimp only;obtain⟨R,hR⟩:∃R,TyP w rb M x es (Iv ty)=R:=⟨_,rfl⟩
 rw[hR];have HR:Hi (R=TyP w rb M x es (Iv ty)):=hR.symm;rw[An.nd,Kv]at hr;have vA:l.length<=n:=by have:=Jy l;omega
 obtain⟨ad,cc,hkv,zA⟩:=Jp b c l
 have xA:Qaa (.mk 3 nn s off b c l)=#[Iv 3,Iv nn,Sv s,Iv off,.slice ad l.length cc]:=by
  show #[_,_,_,_,Qaz b c l]=_
  rw[hkv]
 have yA:Below w.heap.size w (w.alloc (.cells (Qaa (.mk 3 nn s off b c l)) 127)):=zO.alloc zP _;have uA:=Jb hpre.flt;have hcb:w.heap.size≠rb:=zo;have HP:=Zh (hpre.up yA);have HBA:=Zh (Chg.of_below yA [rb]);have HCP:=Zh (zQ w (.cells (Qaa (.mk 3 nn s off b c l)) 127));have HAD:=Zh zA;have HCS:=Zh xA;have HN:=Zh hn;rw[xA]at HBA HCP |-;have HP2:Hi (Qas fs rb M (w.alloc (.cells #[Iv 3,Iv nn,Sv s,Iv off,.slice ad l.length cc] 127)) x vars vv (.mk 3 nn s off b c l)):=by rw[<- xA];exact HP.o
 clear hR yA hkv zA xA uA HP hpre hn;simp at hr;have HRV:=Zh hr;clear hr;go_enter func114,ntmps114;go_wp2_with fail;refine(Zi s _).mono ?_;rintro e w2 ⟨rfl,rfl⟩;go_wp2;rw[HR.o];obtain⟨rfl,rfl⟩:=HRV.o;exact⟨rfl,HP2.o.flt,HBA.o⟩
end
theorem Qfq{P:Prop}(h:P:=by
  rw[HCS.o]at ca;clear hr IH;go_enter func114,ntmps114;go_wp2_with fail;refine ca.mono ?_;rintro e w2 ⟨rfl,hf2,hc2⟩;have HF2:=Zh hf2;have HC2:=Zh hc2;clear ca hf2 hc2;go_wp2;rw[HR.o];obtain⟨rfl,rfl⟩:=HRV.o
  exact⟨rfl,HF2.o,HBA.o.trans HC2.o⟩):P:=h
section
variable (fs:List QaN)(rb:Nat)(M:Value)(hps:∀s∈fs,s.params.length<=1000000000)(n:Nat)(IH:QdS fs rb M n)(nn:Int)(s:By)(off:Int)(b c:Nat)(l:List An)(vars:List Int)(vv:Value)(x:Option Int)(w:World)(hn:Qbd (ndL l)<=n)(hb:n+1+vars.length<=1000000000)
include fs rb M hps n IH nn s off b c l vars vv x w hn hb
theorem QkA(hpre:Qas fs rb M w x vars vv (.mk 6 nn s off b c l))  :
  Calls prog 114 #[Pt rb,.agg (Qaa (.mk 6 nn s off b c l)),vv] w (TyP w rb M x (ofN fs vars (An.mk 6 nn s off b c l).nd).2 (Iv (ofN fs vars (An.mk 6 nn s off b c l).nd).1)):=by
 obtain⟨r,hr⟩:∃r,ofN fs vars (An.mk 6 nn s off b c l).nd=r:=⟨_,rfl⟩
 rw[hr];obtain⟨ty,es⟩:=r;dsimp only;obtain⟨R,hR⟩:∃R,TyP w rb M x es (Iv ty)=R:=⟨_,rfl⟩
 rw[hR];have HR:Hi (R=TyP w rb M x es (Iv ty)):=hR.symm;rw[An.nd,Kv]at hr;have vA:l.length<=n:=by have:=Jy l;omega
 obtain⟨ad,cc,hkv,zA⟩:=Jp b c l
 have xA:Qaa (.mk 6 nn s off b c l)=#[Iv 6,Iv nn,Sv s,Iv off,.slice ad l.length cc]:=by
  show #[_,_,_,_,Qaz b c l]=_
  rw[hkv]
 have yA:Below w.heap.size w (w.alloc (.cells (Qaa (.mk 6 nn s off b c l)) 127)):=zO.alloc zP _;have uA:=Jb hpre.flt;have hcb:w.heap.size≠rb:=zo;have HP:=Zh (hpre.up yA);have HBA:=Zh (Chg.of_below yA [rb]);have HCP:=Zh (zQ w (.cells (Qaa (.mk 6 nn s off b c l)) 127));have HAD:=Zh zA;have HCS:=Zh xA;have HN:=Zh hn;rw[xA]at HBA HCP |-;have HP2:Hi (Qas fs rb M (w.alloc (.cells #[Iv 6,Iv nn,Sv s,Iv off,.slice ad l.length cc] 127)) x vars vv (.mk 6 nn s off b c l)):=by rw[<- xA];exact HP.o
 clear hR yA hkv zA xA uA HP hpre hn;simp at hr;have HRV:=Zh hr;have ca:=Z2 fs rb M 6 nn s off b c l vars vv x 0 _ zp zo HP2.o λy hy W x' hp=>JH fs rb M y vars vv x' 0 W hp λW2 hp2=>IH y vars vv x' W2 (le_trans (JM hy) HN.o) zo hp2;exact Qfq
theorem Qky(hpre:Qas fs rb M w x vars vv (.mk 8 nn s off b c l))  :
  Calls prog 114 #[Pt rb,.agg (Qaa (.mk 8 nn s off b c l)),vv] w (TyP w rb M x (ofN fs vars (An.mk 8 nn s off b c l).nd).2 (Iv (ofN fs vars (An.mk 8 nn s off b c l).nd).1)):=by
 obtain⟨r,hr⟩:∃r,ofN fs vars (An.mk 8 nn s off b c l).nd=r:=⟨_,rfl⟩
 rw[hr];obtain⟨ty,es⟩:=r;dsimp only;obtain⟨R,hR⟩:∃R,TyP w rb M x es (Iv ty)=R:=⟨_,rfl⟩
 rw[hR];have HR:Hi (R=TyP w rb M x es (Iv ty)):=hR.symm;rw[An.nd,Kv]at hr;have vA:l.length<=n:=by have:=Jy l;omega
 obtain⟨ad,cc,hkv,zA⟩:=Jp b c l
 have xA:Qaa (.mk 8 nn s off b c l)=#[Iv 8,Iv nn,Sv s,Iv off,.slice ad l.length cc]:=by
  show #[_,_,_,_,Qaz b c l]=_
  rw[hkv]
 have yA:Below w.heap.size w (w.alloc (.cells (Qaa (.mk 8 nn s off b c l)) 127)):=zO.alloc zP _;have uA:=Jb hpre.flt;have hcb:w.heap.size≠rb:=zo;have HP:=Zh (hpre.up yA);have HBA:=Zh (Chg.of_below yA [rb]);have HCP:=Zh (zQ w (.cells (Qaa (.mk 8 nn s off b c l)) 127));have HAD:=Zh zA;have HCS:=Zh xA;have HN:=Zh hn;rw[xA]at HBA HCP |-;have HP2:Hi (Qas fs rb M (w.alloc (.cells #[Iv 8,Iv nn,Sv s,Iv off,.slice ad l.length cc] 127)) x vars vv (.mk 8 nn s off b c l)):=by rw[<- xA];exact HP.o
 clear hR yA hkv zA xA uA HP hpre hn;simp at hr;have HRV:=Zh hr;have ca:=Z2 fs rb M 8 nn s off b c l vars vv x 0 _ zp zo HP2.o λy hy W x' hp=>JH fs rb M y vars vv x' 0 W hp λW2 hp2=>IH y vars vv x' W2 (le_trans (JM hy) HN.o) zo hp2;exact Qfq
theorem Qkx(hpre:Qas fs rb M w x vars vv (.mk 9 nn s off b c l))  :
  Calls prog 114 #[Pt rb,.agg (Qaa (.mk 9 nn s off b c l)),vv] w (TyP w rb M x (ofN fs vars (An.mk 9 nn s off b c l).nd).2 (Iv (ofN fs vars (An.mk 9 nn s off b c l).nd).1)):=by
 obtain⟨r,hr⟩:∃r,ofN fs vars (An.mk 9 nn s off b c l).nd=r:=⟨_,rfl⟩
 rw[hr];obtain⟨ty,es⟩:=r;dsimp only;obtain⟨R,hR⟩:∃R,TyP w rb M x es (Iv ty)=R:=⟨_,rfl⟩
 rw[hR];have HR:Hi (R=TyP w rb M x es (Iv ty)):=hR.symm;rw[An.nd,Kv]at hr;have vA:l.length<=n:=by have:=Jy l;omega
 obtain⟨ad,cc,hkv,zA⟩:=Jp b c l
 have xA:Qaa (.mk 9 nn s off b c l)=#[Iv 9,Iv nn,Sv s,Iv off,.slice ad l.length cc]:=by
  show #[_,_,_,_,Qaz b c l]=_
  rw[hkv]
 have yA:Below w.heap.size w (w.alloc (.cells (Qaa (.mk 9 nn s off b c l)) 127)):=zO.alloc zP _;have uA:=Jb hpre.flt;have hcb:w.heap.size≠rb:=zo;have HP:=Zh (hpre.up yA);have HBA:=Zh (Chg.of_below yA [rb]);have HCP:=Zh (zQ w (.cells (Qaa (.mk 9 nn s off b c l)) 127));have HAD:=Zh zA;have HCS:=Zh xA;have HN:=Zh hn;rw[xA]at HBA HCP |-;have HP2:Hi (Qas fs rb M (w.alloc (.cells #[Iv 9,Iv nn,Sv s,Iv off,.slice ad l.length cc] 127)) x vars vv (.mk 9 nn s off b c l)):=by rw[<- xA];exact HP.o
 clear hR yA hkv zA xA uA HP hpre hn;simp at hr;have HRV:=Zh hr;have ca:=Z2 fs rb M 9 nn s off b c l vars vv x 0 _ zp zo HP2.o λy hy W x' hp=>JH fs rb M y vars vv x' 0 W hp λW2 hp2=>IH y vars vv x' W2 (le_trans (JM hy) HN.o) zo hp2;exact Qfq
theorem Jou(hpre:Qas fs rb M w x vars vv (.mk 10 nn s off b c l))  :
  Calls prog 114 #[Pt rb,.agg (Qaa (.mk 10 nn s off b c l)),vv] w (TyP w rb M x (ofN fs vars (An.mk 10 nn s off b c l).nd).2 (Iv (ofN fs vars (An.mk 10 nn s off b c l).nd).1)):=by
 obtain⟨r,hr⟩:∃r,ofN fs vars (An.mk 10 nn s off b c l).nd=r:=⟨_,rfl⟩
 rw[hr];obtain⟨ty,es⟩:=r;dsimp only;obtain⟨R,hR⟩:∃R,TyP w rb M x es (Iv ty)=R:=⟨_,rfl⟩
 rw[hR];have HR:Hi (R=TyP w rb M x es (Iv ty)):=hR.symm;rw[An.nd,Kv]at hr;have vA:l.length<=n:=by have:=Jy l;omega
 obtain⟨ad,cc,hkv,zA⟩:=Jp b c l
 have xA:Qaa (.mk 10 nn s off b c l)=#[Iv 10,Iv nn,Sv s,Iv off,.slice ad l.length cc]:=by
  show #[_,_,_,_,Qaz b c l]=_
  rw[hkv]
 have yA:Below w.heap.size w (w.alloc (.cells (Qaa (.mk 10 nn s off b c l)) 127)):=zO.alloc zP _;have uA:=Jb hpre.flt;have hcb:w.heap.size≠rb:=zo;have HP:=Zh (hpre.up yA);have HBA:=Zh (Chg.of_below yA [rb]);have HCP:=Zh (zQ w (.cells (Qaa (.mk 10 nn s off b c l)) 127));have HAD:=Zh zA;have HCS:=Zh xA;have HN:=Zh hn;rw[xA]at HBA HCP |-;have HP2:Hi (Qas fs rb M (w.alloc (.cells #[Iv 10,Iv nn,Sv s,Iv off,.slice ad l.length cc] 127)) x vars vv (.mk 10 nn s off b c l)):=by rw[<- xA];exact HP.o
 clear hR yA hkv zA xA uA HP hpre hn;simp at hr;have HRV:=Zh hr;have ca:=Z2 fs rb M 10 nn s off b c l vars vv x 0 _ zp zo HP2.o λy hy W x' hp=>JH fs rb M y vars vv x' 0 W hp λW2 hp2=>IH y vars vv x' W2 (le_trans (JM hy) HN.o) zo hp2;exact Qfq
theorem Jov(hpre:Qas fs rb M w x vars vv (.mk 11 nn s off b c l))  :
  Calls prog 114 #[Pt rb,.agg (Qaa (.mk 11 nn s off b c l)),vv] w (TyP w rb M x (ofN fs vars (An.mk 11 nn s off b c l).nd).2 (Iv (ofN fs vars (An.mk 11 nn s off b c l).nd).1)):=by
 obtain⟨r,hr⟩:∃r,ofN fs vars (An.mk 11 nn s off b c l).nd=r:=⟨_,rfl⟩
 rw[hr];obtain⟨ty,es⟩:=r;dsimp only;obtain⟨R,hR⟩:∃R,TyP w rb M x es (Iv ty)=R:=⟨_,rfl⟩
 rw[hR];have HR:Hi (R=TyP w rb M x es (Iv ty)):=hR.symm;rw[An.nd,Kv]at hr;have vA:l.length<=n:=by have:=Jy l;omega
 obtain⟨ad,cc,hkv,zA⟩:=Jp b c l
 have xA:Qaa (.mk 11 nn s off b c l)=#[Iv 11,Iv nn,Sv s,Iv off,.slice ad l.length cc]:=by
  show #[_,_,_,_,Qaz b c l]=_
  rw[hkv]
 have yA:Below w.heap.size w (w.alloc (.cells (Qaa (.mk 11 nn s off b c l)) 127)):=zO.alloc zP _;have uA:=Jb hpre.flt;have hcb:w.heap.size≠rb:=zo;have HP:=Zh (hpre.up yA);have HBA:=Zh (Chg.of_below yA [rb]);have HCP:=Zh (zQ w (.cells (Qaa (.mk 11 nn s off b c l)) 127));have HAD:=Zh zA;have HCS:=Zh xA;have HN:=Zh hn;rw[xA]at HBA HCP |-;have HP2:Hi (Qas fs rb M (w.alloc (.cells #[Iv 11,Iv nn,Sv s,Iv off,.slice ad l.length cc] 127)) x vars vv (.mk 11 nn s off b c l)):=by rw[<- xA];exact HP.o
 clear hR yA hkv zA xA uA HP hpre hn;simp at hr;have HRV:=Zh hr;have ca:=Z2 fs rb M 11 nn s off b c l vars vv x 0 _ zp zo HP2.o λy hy W x' hp=>JH fs rb M y vars vv x' 0 W hp λW2 hp2=>IH y vars vv x' W2 (le_trans (JM hy) HN.o) zo hp2;exact Qfq
theorem Jow(hpre:Qas fs rb M w x vars vv (.mk 12 nn s off b c l))  :
  Calls prog 114 #[Pt rb,.agg (Qaa (.mk 12 nn s off b c l)),vv] w (TyP w rb M x (ofN fs vars (An.mk 12 nn s off b c l).nd).2 (Iv (ofN fs vars (An.mk 12 nn s off b c l).nd).1)):=by
 obtain⟨r,hr⟩:∃r,ofN fs vars (An.mk 12 nn s off b c l).nd=r:=⟨_,rfl⟩
 rw[hr];obtain⟨ty,es⟩:=r;dsimp only;obtain⟨R,hR⟩:∃R,TyP w rb M x es (Iv ty)=R:=⟨_,rfl⟩
 rw[hR];have HR:Hi (R=TyP w rb M x es (Iv ty)):=hR.symm;rw[An.nd,Kv]at hr;have vA:l.length<=n:=by have:=Jy l;omega
 obtain⟨ad,cc,hkv,zA⟩:=Jp b c l
 have xA:Qaa (.mk 12 nn s off b c l)=#[Iv 12,Iv nn,Sv s,Iv off,.slice ad l.length cc]:=by
  show #[_,_,_,_,Qaz b c l]=_
  rw[hkv]
 have yA:Below w.heap.size w (w.alloc (.cells (Qaa (.mk 12 nn s off b c l)) 127)):=zO.alloc zP _;have uA:=Jb hpre.flt;have hcb:w.heap.size≠rb:=zo;have HP:=Zh (hpre.up yA);have HBA:=Zh (Chg.of_below yA [rb]);have HCP:=Zh (zQ w (.cells (Qaa (.mk 12 nn s off b c l)) 127));have HAD:=Zh zA;have HCS:=Zh xA;have HN:=Zh hn;rw[xA]at HBA HCP |-;have HP2:Hi (Qas fs rb M (w.alloc (.cells #[Iv 12,Iv nn,Sv s,Iv off,.slice ad l.length cc] 127)) x vars vv (.mk 12 nn s off b c l)):=by rw[<- xA];exact HP.o
 clear hR yA hkv zA xA uA HP hpre hn;simp at hr;have HRV:=Zh hr;have ca:=Z2 fs rb M 12 nn s off b c l vars vv x 0 _ zp zo HP2.o λy hy W x' hp=>JH fs rb M y vars vv x' 0 W hp λW2 hp2=>IH y vars vv x' W2 (le_trans (JM hy) HN.o) zo hp2;exact Qfq
theorem Jox(hpre:Qas fs rb M w x vars vv (.mk 13 nn s off b c l))  :
  Calls prog 114 #[Pt rb,.agg (Qaa (.mk 13 nn s off b c l)),vv] w (TyP w rb M x (ofN fs vars (An.mk 13 nn s off b c l).nd).2 (Iv (ofN fs vars (An.mk 13 nn s off b c l).nd).1)):=by
 obtain⟨r,hr⟩:∃r,ofN fs vars (An.mk 13 nn s off b c l).nd=r:=⟨_,rfl⟩
 rw[hr];obtain⟨ty,es⟩:=r;dsimp only;obtain⟨R,hR⟩:∃R,TyP w rb M x es (Iv ty)=R:=⟨_,rfl⟩
 rw[hR];have HR:Hi (R=TyP w rb M x es (Iv ty)):=hR.symm;rw[An.nd,Kv]at hr;have vA:l.length<=n:=by have:=Jy l;omega
 obtain⟨ad,cc,hkv,zA⟩:=Jp b c l
 have xA:Qaa (.mk 13 nn s off b c l)=#[Iv 13,Iv nn,Sv s,Iv off,.slice ad l.length cc]:=by
  show #[_,_,_,_,Qaz b c l]=_
  rw[hkv]
 have yA:Below w.heap.size w (w.alloc (.cells (Qaa (.mk 13 nn s off b c l)) 127)):=zO.alloc zP _;have uA:=Jb hpre.flt;have hcb:w.heap.size≠rb:=zo;have HP:=Zh (hpre.up yA);have HBA:=Zh (Chg.of_below yA [rb]);have HCP:=Zh (zQ w (.cells (Qaa (.mk 13 nn s off b c l)) 127));have HAD:=Zh zA;have HCS:=Zh xA;have HN:=Zh hn;rw[xA]at HBA HCP |-;have HP2:Hi (Qas fs rb M (w.alloc (.cells #[Iv 13,Iv nn,Sv s,Iv off,.slice ad l.length cc] 127)) x vars vv (.mk 13 nn s off b c l)):=by rw[<- xA];exact HP.o
 clear hR yA hkv zA xA uA HP hpre hn;simp at hr;have HRV:=Zh hr;have ca:=Z2 fs rb M 13 nn s off b c l vars vv x 0 _ zp zo HP2.o λy hy W x' hp=>JH fs rb M y vars vv x' 0 W hp λW2 hp2=>IH y vars vv x' W2 (le_trans (JM hy) HN.o) zo hp2;exact Qfq
theorem Joy(hpre:Qas fs rb M w x vars vv (.mk 14 nn s off b c l))  :
  Calls prog 114 #[Pt rb,.agg (Qaa (.mk 14 nn s off b c l)),vv] w (TyP w rb M x (ofN fs vars (An.mk 14 nn s off b c l).nd).2 (Iv (ofN fs vars (An.mk 14 nn s off b c l).nd).1)):=by
 obtain⟨r,hr⟩:∃r,ofN fs vars (An.mk 14 nn s off b c l).nd=r:=⟨_,rfl⟩
 rw[hr];obtain⟨ty,es⟩:=r;dsimp only;obtain⟨R,hR⟩:∃R,TyP w rb M x es (Iv ty)=R:=⟨_,rfl⟩
 rw[hR];have HR:Hi (R=TyP w rb M x es (Iv ty)):=hR.symm;rw[An.nd,Kv]at hr;have vA:l.length<=n:=by have:=Jy l;omega
 obtain⟨ad,cc,hkv,zA⟩:=Jp b c l
 have xA:Qaa (.mk 14 nn s off b c l)=#[Iv 14,Iv nn,Sv s,Iv off,.slice ad l.length cc]:=by
  show #[_,_,_,_,Qaz b c l]=_
  rw[hkv]
 have yA:Below w.heap.size w (w.alloc (.cells (Qaa (.mk 14 nn s off b c l)) 127)):=zO.alloc zP _;have uA:=Jb hpre.flt;have hcb:w.heap.size≠rb:=zo;have HP:=Zh (hpre.up yA);have HBA:=Zh (Chg.of_below yA [rb]);have HCP:=Zh (zQ w (.cells (Qaa (.mk 14 nn s off b c l)) 127));have HAD:=Zh zA;have HCS:=Zh xA;have HN:=Zh hn;rw[xA]at HBA HCP |-;have HP2:Hi (Qas fs rb M (w.alloc (.cells #[Iv 14,Iv nn,Sv s,Iv off,.slice ad l.length cc] 127)) x vars vv (.mk 14 nn s off b c l)):=by rw[<- xA];exact HP.o
 clear hR yA hkv zA xA uA HP hpre hn;simp at hr;have HRV:=Zh hr;have ca:=Z2 fs rb M 14 nn s off b c l vars vv x 0 _ zp zo HP2.o λy hy W x' hp=>JH fs rb M y vars vv x' 0 W hp λW2 hp2=>IH y vars vv x' W2 (le_trans (JM hy) HN.o) zo hp2;exact Qfq
theorem Qkz(hpre:Qas fs rb M w x vars vv (.mk 7 nn s off b c l))  :
  Calls prog 114 #[Pt rb,.agg (Qaa (.mk 7 nn s off b c l)),vv] w (TyP w rb M x (ofN fs vars (An.mk 7 nn s off b c l).nd).2 (Iv (ofN fs vars (An.mk 7 nn s off b c l).nd).1)):=by
 obtain⟨r,hr⟩:∃r,ofN fs vars (An.mk 7 nn s off b c l).nd=r:=⟨_,rfl⟩
 rw[hr];obtain⟨ty,es⟩:=r;dsimp only;obtain⟨R,hR⟩:∃R,TyP w rb M x es (Iv ty)=R:=⟨_,rfl⟩
 rw[hR];have HR:Hi (R=TyP w rb M x es (Iv ty)):=hR.symm;rw[An.nd,Kv]at hr;have vA:l.length<=n:=by have:=Jy l;omega
 obtain⟨ad,cc,hkv,zA⟩:=Jp b c l
 have xA:Qaa (.mk 7 nn s off b c l)=#[Iv 7,Iv nn,Sv s,Iv off,.slice ad l.length cc]:=by
  show #[_,_,_,_,Qaz b c l]=_
  rw[hkv]
 have yA:Below w.heap.size w (w.alloc (.cells (Qaa (.mk 7 nn s off b c l)) 127)):=zO.alloc zP _;have uA:=Jb hpre.flt;have hcb:w.heap.size≠rb:=zo;have HP:=Zh (hpre.up yA);have HBA:=Zh (Chg.of_below yA [rb]);have HCP:=Zh (zQ w (.cells (Qaa (.mk 7 nn s off b c l)) 127));have HAD:=Zh zA;have HCS:=Zh xA;have HN:=Zh hn;rw[xA]at HBA HCP |-;have HP2:Hi (Qas fs rb M (w.alloc (.cells #[Iv 7,Iv nn,Sv s,Iv off,.slice ad l.length cc] 127)) x vars vv (.mk 7 nn s off b c l)):=by rw[<- xA];exact HP.o
 clear hR yA hkv zA xA uA HP hpre hn;simp at hr;have HRV:=Zh hr;have ca:=Z2 fs rb M 7 nn s off b c l vars vv x 1 _ zp zo HP2.o λy hy W x' hp=>JH fs rb M y vars vv x' 1 W hp λW2 hp2=>IH y vars vv x' W2 (le_trans (JM hy) HN.o) zo hp2;exact Qfq
theorem Joz(hpre:Qas fs rb M w x vars vv (.mk 16 nn s off b c l))  :
  Calls prog 114 #[Pt rb,.agg (Qaa (.mk 16 nn s off b c l)),vv] w (TyP w rb M x (ofN fs vars (An.mk 16 nn s off b c l).nd).2 (Iv (ofN fs vars (An.mk 16 nn s off b c l).nd).1)):=by
 obtain⟨r,hr⟩:∃r,ofN fs vars (An.mk 16 nn s off b c l).nd=r:=⟨_,rfl⟩
 rw[hr];obtain⟨ty,es⟩:=r;dsimp only;obtain⟨R,hR⟩:∃R,TyP w rb M x es (Iv ty)=R:=⟨_,rfl⟩
 rw[hR];have HR:Hi (R=TyP w rb M x es (Iv ty)):=hR.symm;rw[An.nd,Kv]at hr;have vA:l.length<=n:=by have:=Jy l;omega
 obtain⟨ad,cc,hkv,zA⟩:=Jp b c l
 have xA:Qaa (.mk 16 nn s off b c l)=#[Iv 16,Iv nn,Sv s,Iv off,.slice ad l.length cc]:=by
  show #[_,_,_,_,Qaz b c l]=_
  rw[hkv]
 have yA:Below w.heap.size w (w.alloc (.cells (Qaa (.mk 16 nn s off b c l)) 127)):=zO.alloc zP _;have uA:=Jb hpre.flt;have hcb:w.heap.size≠rb:=zo;have HP:=Zh (hpre.up yA);have HBA:=Zh (Chg.of_below yA [rb]);have HCP:=Zh (zQ w (.cells (Qaa (.mk 16 nn s off b c l)) 127));have HAD:=Zh zA;have HCS:=Zh xA;have HN:=Zh hn;rw[xA]at HBA HCP |-;have HP2:Hi (Qas fs rb M (w.alloc (.cells #[Iv 16,Iv nn,Sv s,Iv off,.slice ad l.length cc] 127)) x vars vv (.mk 16 nn s off b c l)):=by rw[<- xA];exact HP.o
 clear hR yA hkv zA xA uA HP hpre hn;simp at hr;have HRV:=Zh hr;have ca:=Z2 fs rb M 16 nn s off b c l vars vv x 1 _ zp zo HP2.o λy hy W x' hp=>JH fs rb M y vars vv x' 1 W hp λW2 hp2=>IH y vars vv x' W2 (le_trans (JM hy) HN.o) zo hp2;exact Qfq
theorem JoA(hpre:Qas fs rb M w x vars vv (.mk 17 nn s off b c l))  :
  Calls prog 114 #[Pt rb,.agg (Qaa (.mk 17 nn s off b c l)),vv] w (TyP w rb M x (ofN fs vars (An.mk 17 nn s off b c l).nd).2 (Iv (ofN fs vars (An.mk 17 nn s off b c l).nd).1)):=by
 obtain⟨r,hr⟩:∃r,ofN fs vars (An.mk 17 nn s off b c l).nd=r:=⟨_,rfl⟩
 rw[hr];obtain⟨ty,es⟩:=r;dsimp only;obtain⟨R,hR⟩:∃R,TyP w rb M x es (Iv ty)=R:=⟨_,rfl⟩
 rw[hR];have HR:Hi (R=TyP w rb M x es (Iv ty)):=hR.symm;rw[An.nd,Kv]at hr;have vA:l.length<=n:=by have:=Jy l;omega
 obtain⟨ad,cc,hkv,zA⟩:=Jp b c l
 have xA:Qaa (.mk 17 nn s off b c l)=#[Iv 17,Iv nn,Sv s,Iv off,.slice ad l.length cc]:=by
  show #[_,_,_,_,Qaz b c l]=_
  rw[hkv]
 have yA:Below w.heap.size w (w.alloc (.cells (Qaa (.mk 17 nn s off b c l)) 127)):=zO.alloc zP _;have uA:=Jb hpre.flt;have hcb:w.heap.size≠rb:=zo;have HP:=Zh (hpre.up yA);have HBA:=Zh (Chg.of_below yA [rb]);have HCP:=Zh (zQ w (.cells (Qaa (.mk 17 nn s off b c l)) 127));have HAD:=Zh zA;have HCS:=Zh xA;have HN:=Zh hn;rw[xA]at HBA HCP |-;have HP2:Hi (Qas fs rb M (w.alloc (.cells #[Iv 17,Iv nn,Sv s,Iv off,.slice ad l.length cc] 127)) x vars vv (.mk 17 nn s off b c l)):=by rw[<- xA];exact HP.o
 clear hR yA hkv zA xA uA HP hpre hn;simp at hr;have HRV:=Zh hr;have ca:=Z2 fs rb M 17 nn s off b c l vars vv x 1 _ zp zo HP2.o λy hy W x' hp=>JH fs rb M y vars vv x' 1 W hp λW2 hp2=>IH y vars vv x' W2 (le_trans (JM hy) HN.o) zo hp2;exact Qfq
theorem JoB(hpre:Qas fs rb M w x vars vv (.mk 20 nn s off b c l))  :
  Calls prog 114 #[Pt rb,.agg (Qaa (.mk 20 nn s off b c l)),vv] w (TyP w rb M x (ofN fs vars (An.mk 20 nn s off b c l).nd).2 (Iv (ofN fs vars (An.mk 20 nn s off b c l).nd).1)):=by
 obtain⟨r,hr⟩:∃r,ofN fs vars (An.mk 20 nn s off b c l).nd=r:=⟨_,rfl⟩
 rw[hr];obtain⟨ty,es⟩:=r;dsimp only;obtain⟨R,hR⟩:∃R,TyP w rb M x es (Iv ty)=R:=⟨_,rfl⟩
 rw[hR];have HR:Hi (R=TyP w rb M x es (Iv ty)):=hR.symm;rw[An.nd,Kv]at hr;have vA:l.length<=n:=by have:=Jy l;omega
 obtain⟨ad,cc,hkv,zA⟩:=Jp b c l
 have xA:Qaa (.mk 20 nn s off b c l)=#[Iv 20,Iv nn,Sv s,Iv off,.slice ad l.length cc]:=by
  show #[_,_,_,_,Qaz b c l]=_
  rw[hkv]
 have yA:Below w.heap.size w (w.alloc (.cells (Qaa (.mk 20 nn s off b c l)) 127)):=zO.alloc zP _;have uA:=Jb hpre.flt;have hcb:w.heap.size≠rb:=zo;have HP:=Zh (hpre.up yA);have HBA:=Zh (Chg.of_below yA [rb]);have HCP:=Zh (zQ w (.cells (Qaa (.mk 20 nn s off b c l)) 127));have HAD:=Zh zA;have HCS:=Zh xA;have HN:=Zh hn;rw[xA]at HBA HCP |-;have HP2:Hi (Qas fs rb M (w.alloc (.cells #[Iv 20,Iv nn,Sv s,Iv off,.slice ad l.length cc] 127)) x vars vv (.mk 20 nn s off b c l)):=by rw[<- xA];exact HP.o
 clear hR yA hkv zA xA uA HP hpre hn;simp at hr;have HRV:=Zh hr;have ca:=Jhs fs rb M nn s off b c l vars vv x _ zo HP2.o hps λy hy W x' hp2=>IH y vars vv x' W (le_trans (JM hy) HN.o) zo hp2;rw[HCS.o]at ca;clear hr IH;go_enter func114,ntmps114;go_wp2_with fail;refine ca.mono ?_;rintro e w2 ⟨rfl,hf2,hc2⟩;have HF2:=Zh hf2;have HC2:=Zh hc2;clear ca hf2 hc2;go_wp2;rw[HR.o];obtain⟨h1,rfl⟩:=HRV.o;refine⟨?_,HF2.o,HBA.o.trans HC2.o⟩;rw[<- h1];simp
end
def JlY(fs:List QaN)(rb:Nat)(M:Value)(hps:∀s∈fs,s.params.length<=1000000000)(n:Nat)(IH:QdS fs rb M n)(k nn:Int)(s:By)(off:Int)(b c:Nat)(l:List An)(vars:List Int)(vv:Value)(x:Option Int)(w:World)(hn:Qbd (ndL l)<=n)(hb:n+1+vars.length<=1000000000)(hpre:Qas fs rb M w x vars vv (.mk k nn s off b c l))(hk:k≠1/\k≠5/\k≠2/\k≠3/\k≠6/\k≠8/\k≠9/\k≠10/\k≠11/\k≠12/\k≠13/\k≠14/\k≠15/\k≠7/\k≠16/\k≠17/\k≠18/\k≠19/\k≠20) :
  Calls prog 114 #[Pt rb,.agg (Qaa (.mk k nn s off b c l)),vv] w (TyP w rb M x (ofN fs vars (An.mk k nn s off b c l).nd).2 (Iv (ofN fs vars (An.mk k nn s off b c l).nd).1)):=by
 obtain⟨r,hr⟩:∃r,ofN fs vars (An.mk k nn s off b c l).nd=r:=⟨_,rfl⟩
 rw[hr];obtain⟨ty,es⟩:=r;dsimp only;obtain⟨R,hR⟩:∃R,TyP w rb M x es (Iv ty)=R:=⟨_,rfl⟩
 rw[hR];have HR:Hi (R=TyP w rb M x es (Iv ty)):=hR.symm;rw[An.nd,Kv]at hr;have uA:l.length<=n:=by have:=Jy l;omega
 obtain⟨ad,cc,hkv,zA⟩:=Jp b c l
 have xA:Qaa (.mk k nn s off b c l)=#[Iv k,Iv nn,Sv s,Iv off,.slice ad l.length cc]:=by
  show #[_,_,_,_,Qaz b c l]=_
  rw[hkv]
 have yA:Below w.heap.size w (w.alloc (.cells (Qaa (.mk k nn s off b c l)) 127)):=zO.alloc zP _;have vA:=Jb hpre.flt;have hcb:w.heap.size≠rb:=zo;have HP:=Zh (hpre.up yA);have HBA:=Zh (Chg.of_below yA [rb]);have HCP:=Zh (zQ w (.cells (Qaa (.mk k nn s off b c l)) 127));have HAD:=Zh zA;have HCS:=Zh xA;have HN:=Zh hn;rw[xA]at HBA HCP |-;have HP2:Hi (Qas fs rb M (w.alloc (.cells #[Iv k,Iv nn,Sv s,Iv off,.slice ad l.length cc] 127)) x vars vv (.mk k nn s off b c l)):=by rw[<- xA];exact HP.o
 clear hR yA hkv zA xA vA HP hpre hn;have q1:(k==1)=false:=zM hk.1;have q5:(k==5)=false:=zM hk.2.1;have q2:(k==2)=false:=zM hk.2.2.1;have q3:(k==3)=false:=zM hk.2.2.2.1;have q6:(k==6)=false:=zM hk.2.2.2.2.1;have q8:(k==8)=false:=zM hk.2.2.2.2.2.1;have q9:(k==9)=false:=zM hk.2.2.2.2.2.2.1;have gA:(k==10)=false:=zM hk.2.2.2.2.2.2.2.1;have jA:(k==11)=false:=zM hk.2.2.2.2.2.2.2.2.1;have hA:(k==12)=false:=zM hk.2.2.2.2.2.2.2.2.2.1;have cA:(k==13)=false:=zM hk.2.2.2.2.2.2.2.2.2.2.1;have dA:(k==14)=false:=zM hk.2.2.2.2.2.2.2.2.2.2.2.1;have aA:(k==15)=false:=zM hk.2.2.2.2.2.2.2.2.2.2.2.2.1;have q7:(k==7)=false:=zM hk.2.2.2.2.2.2.2.2.2.2.2.2.2.1;have mA:(k==16)=false:=zM hk.2.2.2.2.2.2.2.2.2.2.2.2.2.2.1;have iA:(k==17)=false:=zM hk.2.2.2.2.2.2.2.2.2.2.2.2.2.2.2.1;have eA:(k==18)=false:=zM hk.2.2.2.2.2.2.2.2.2.2.2.2.2.2.2.2.1;have kA:(k==19)=false:=zM hk.2.2.2.2.2.2.2.2.2.2.2.2.2.2.2.2.2.1;have bA:(k==20)=false:=zM hk.2.2.2.2.2.2.2.2.2.2.2.2.2.2.2.2.2.2;rw[if_neg zo,if_neg zo,if_neg zo,if_neg zo,if_neg zo,if_neg zo,if_neg zo,if_neg zo,if_neg zo,if_neg zo]at hr;simp at hr;have HRV:=Zh hr;clear hr hk;exact QiG
end Go.Proofs.YtfafpklefknomaaGreatDoor
