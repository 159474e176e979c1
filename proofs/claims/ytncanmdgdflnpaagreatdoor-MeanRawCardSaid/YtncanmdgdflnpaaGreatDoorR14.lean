import Derived.Deep.DeepCutAuto
import Derived.Deep.RegionHeld3
import Derived.Test.YtncanmdgdflnpaaGreatDoorR13
import Derived.Test.YtncanmdgdflnpaaGreatDoorR10
import Derived.Test.YtncanmdgdflnpaaGreatDoorR12
import Derived.Test.YtncanmdgdflnpaaGreatDoorR11
open List(all_cons getElem?_cons_succ getElem?_cons_zero getElem?_eq_getElem getElem?_toArray mem_of_getElem? setIfInBounds_toArray set_cons_succ set_cons_zero)
open Nat(le_refl)
namespace Go.Proofs.YtncanmdgdflnpaaGreatDoor
open Go Go.Lib
open Go.ChangeShapes Go.WideShapes Go.ChangeAt Go.RowKit Go.Lib
open Go.ChangeShapes Go.WideShapes Go.RowKit Go.Deep
open Go.Joins
open _root_.Go.Proofs.Tryz
set_option linter.all false
set_option maxRecDepth 100000
set_option maxHeartbeats 32000000
theorem zBl{P:Prop}(h:P:=by
  intro W hW;have hh:=(hW.block _ S3.o).trans S0.o;refine⟨?_,?_,?_⟩<;>(rw[Ja hh];rfl)):P:=h
def Qgn(fs:List FnM)(fa:Option Addr)(fc:Nat)(M0:List Int)(va:Option Addr)(vc:Nat)(k:Int)(nn:Int)(s:By)(l:List Exp)(ad:Option Addr)(cc:Nat)(w:World)(hI:RfI fs fa fc M0 (.slice va M0.length vc) (.mk k nn s l) #[Iv k,Iv nn,Sv s,.slice ad l.length cc] w)(hK:QbC w ad l)(i:Nat)(hi:i<l.length)(hk:0<=k/\k<21)(h:QbT k=true):
  Calls prog 138 #[.slice fa fs.length fc,.slice va M0.length vc,.agg #[Iv k,Iv nn,Sv s,.slice ad l.length cc],Iv i] w (λe w'=>e=.returned (.tuple #[Iv (QaB (fs.map Qas) M0 k nn l i),.bool true])/\Bel w w'):=by
 have A0:Below w.heap.size w (w.alloc (.cells #[Iv k,Iv nn,Sv s,.slice ad l.length cc] 50)):=zzb.alloc zzl _;have S0:=Zh (zzw w (.cells #[Iv k,Iv nn,Sv s,.slice ad l.length cc] 50));have B0:Hi (∀W,Below (w.alloc (.cells #[Iv k,Iv nn,Sv s,.slice ad l.length cc] 50)).heap.size (w.alloc (.cells #[Iv k,Iv nn,Sv s,.slice ad l.length cc] 50)) W->Bel w W):=λW hW=>Je A0 hW
 have HI:=Zh hI;have zA:=Zh hK;have yA:=Zh hi;clear A0 hI hK;have ci:=λW=>QbF k hk W
 rw[h]at ci;have hw:QaB (fs.map Qas) M0 k nn l i=0:=by unfold QaB;rw[if_pos h]
 rw[hw];clear h hw hk;go_enter func138,ntmps138;go_upto_region 1 with fail;have S3:Hi (w.heap.size<(w.alloc (.cells #[Iv k,Iv nn,Sv s,.slice ad l.length cc] 50)).heap.size):=Jb S0.o;generalize World.alloc w _=w1 at*;generalize w.heap.size=eb at*
 have FF:Hi (∀W,Below w1.heap.size w1 W->W.cell? ⟨eb,0,none⟩=some (Iv k)/\W.cell? ⟨eb,1,none⟩=some (Iv nn)/\W.cell? ⟨eb,3,none⟩=some (.slice ad l.length cc)):=by
  exact zBl
 have xA:Hi (Below w1.heap.size w1 w1):=zzb;obtain⟨b0,b1,b3⟩:=FF.o _ xA.o;go_wp2_with fail;refine(ci _).mono ?_;rintro e w9 ⟨rfl,rfl⟩;go_wp2;go_ret2;exact⟨rfl,B0.o _ xA.o⟩
theorem zBk{P:Prop}(h:P:=by
  have xA:Hi (Below w1.heap.size w1 w1):=zzb;obtain⟨b0,b1,b3⟩:=FF.o _ xA.o;go_wp2_with fail;refine(ci _).mono ?_;rintro e w9 ⟨rfl,rfl⟩;go_wp2_with fail;refine(cb _).mono ?_;rintro e w9 ⟨rfl,rfl⟩;go_wp2;go_ret2;exact⟨rfl,B0.o _ xA.o⟩):P:=h
def QfC(fs:List FnM)(fa:Option Addr)(fc:Nat)(M0:List Int)(va:Option Addr)(vc:Nat)(k:Int)(nn:Int)(s:By)(l:List Exp)(ad:Option Addr)(cc:Nat)(w:World)(hI:RfI fs fa fc M0 (.slice va M0.length vc) (.mk k nn s l) #[Iv k,Iv nn,Sv s,.slice ad l.length cc] w)(hK:QbC w ad l)(i:Nat)(hi:i<l.length)(hk:0<=k/\k<21)(h0:QbT k=false)(h:Qbe k=true):
  Calls prog 138 #[.slice fa fs.length fc,.slice va M0.length vc,.agg #[Iv k,Iv nn,Sv s,.slice ad l.length cc],Iv i] w (λe w'=>e=.returned (.tuple #[Iv (QaB (fs.map Qas) M0 k nn l i),.bool true])/\Bel w w'):=by
 have A0:Below w.heap.size w (w.alloc (.cells #[Iv k,Iv nn,Sv s,.slice ad l.length cc] 50)):=zzb.alloc zzl _;have S0:=Zh (zzw w (.cells #[Iv k,Iv nn,Sv s,.slice ad l.length cc] 50));have B0:Hi (∀W,Below (w.alloc (.cells #[Iv k,Iv nn,Sv s,.slice ad l.length cc] 50)).heap.size (w.alloc (.cells #[Iv k,Iv nn,Sv s,.slice ad l.length cc] 50)) W->Bel w W):=λW hW=>Je A0 hW
 have HI:=Zh hI;have zA:=Zh hK;have yA:=Zh hi;clear A0 hI hK;have ci:=λW=>QbF k hk W
 have cb:=λW=>QbA k hk W
 rw[h0]at ci;rw[h]at cb;have hw:QaB (fs.map Qas) M0 k nn l i=1:=by unfold QaB;rw[if_neg (by rw[h0];decide),if_pos (.inl h)]
 rw[hw];clear h h0 hw hk;go_enter func138,ntmps138;go_upto_region 1 with fail;have S3:Hi (w.heap.size<(w.alloc (.cells #[Iv k,Iv nn,Sv s,.slice ad l.length cc] 50)).heap.size):=Jb S0.o;generalize World.alloc w _=w1 at*;generalize w.heap.size=eb at*
 have FF:Hi (∀W,Below w1.heap.size w1 W->W.cell? ⟨eb,0,none⟩=some (Iv k)/\W.cell? ⟨eb,1,none⟩=some (Iv nn)/\W.cell? ⟨eb,3,none⟩=some (.slice ad l.length cc)):=by
  exact zBl
 exact zBk
def QhA(fs:List FnM)(fa:Option Addr)(fc:Nat)(M0:List Int)(va:Option Addr)(vc:Nat)(nn:Int)(s:By)(l:List Exp)(ad:Option Addr)(cc:Nat)(w:World)(hI:RfI fs fa fc M0 (.slice va M0.length vc) (.mk 15 nn s l) #[Iv 15,Iv nn,Sv s,.slice ad l.length cc] w)(hK:QbC w ad l)(i:Nat)(hi:i<l.length)(h:i=0):
  Calls prog 138 #[.slice fa fs.length fc,.slice va M0.length vc,.agg #[Iv 15,Iv nn,Sv s,.slice ad l.length cc],Iv i] w (λe w'=>e=.returned (.tuple #[Iv (QaB (fs.map Qas) M0 15 nn l i),.bool true])/\Bel w w'):=by
 have A0:Below w.heap.size w (w.alloc (.cells #[Iv 15,Iv nn,Sv s,.slice ad l.length cc] 50)):=zzb.alloc zzl _;have S0:=Zh (zzw w (.cells #[Iv 15,Iv nn,Sv s,.slice ad l.length cc] 50));have B0:Hi (∀W,Below (w.alloc (.cells #[Iv 15,Iv nn,Sv s,.slice ad l.length cc] 50)).heap.size (w.alloc (.cells #[Iv 15,Iv nn,Sv s,.slice ad l.length cc] 50)) W->Bel w W):=λW hW=>Je A0 hW
 have HI:=Zh hI;have vA:=Zh hK;have uA:=Zh hi;clear A0 hI hK;have ci:=λW=>QbF 15 zd W
 have cb:=λW=>QbA 15 zd W
 rw[show QbT 15=false from rfl]at ci;rw[show Qbe 15=false from rfl]at cb;have zA:((i:Int)==1)=false:=zzq zo;have yA:(i==1)=false:=zzq zo;have hw:QaB (fs.map Qas) M0 15 nn l i = -1:=by unfold QaB;simp[show QbT 15=false from rfl,show Qbe 15=false from rfl,h]
 rw[hw];clear h hw;go_enter func138,ntmps138;go_upto_region 1 with fail;have S3:Hi (w.heap.size<(w.alloc (.cells #[Iv 15,Iv nn,Sv s,.slice ad l.length cc] 50)).heap.size):=Jb S0.o;generalize World.alloc w _=w1 at*;generalize w.heap.size=eb at*
 have FF:Hi (∀W,Below w1.heap.size w1 W->W.cell? ⟨eb,0,none⟩=some (Iv 15)/\W.cell? ⟨eb,1,none⟩=some (Iv nn)/\W.cell? ⟨eb,3,none⟩=some (.slice ad l.length cc)):=by
  exact zBl
 exact zBk
theorem zBn{P:Prop}(h:P:=by
  rw[hw];clear h hw;go_enter func138,ntmps138;go_upto_region 1 with fail;have S3:Hi (w.heap.size<(w.alloc (.cells #[Iv 18,Iv nn,Sv s,.slice ad l.length cc] 50)).heap.size):=Jb S0.o;generalize World.alloc w _=w1 at*;generalize w.heap.size=eb at*
  have FF:Hi (∀W,Below w1.heap.size w1 W->W.cell? ⟨eb,0,none⟩=some (Iv 18)/\W.cell? ⟨eb,1,none⟩=some (Iv nn)/\W.cell? ⟨eb,3,none⟩=some (.slice ad l.length cc)):=by
   exact zBl
  exact zBk):P:=h
def Qhy(fs:List FnM)(fa:Option Addr)(fc:Nat)(M0:List Int)(va:Option Addr)(vc:Nat)(nn:Int)(s:By)(l:List Exp)(ad:Option Addr)(cc:Nat)(w:World)(hI:RfI fs fa fc M0 (.slice va M0.length vc) (.mk 18 nn s l) #[Iv 18,Iv nn,Sv s,.slice ad l.length cc] w)(hK:QbC w ad l)(i:Nat)(hi:i<l.length)(h:i=0):
  Calls prog 138 #[.slice fa fs.length fc,.slice va M0.length vc,.agg #[Iv 18,Iv nn,Sv s,.slice ad l.length cc],Iv i] w (λe w'=>e=.returned (.tuple #[Iv (QaB (fs.map Qas) M0 18 nn l i),.bool true])/\Bel w w'):=by
 have A0:Below w.heap.size w (w.alloc (.cells #[Iv 18,Iv nn,Sv s,.slice ad l.length cc] 50)):=zzb.alloc zzl _;have S0:=Zh (zzw w (.cells #[Iv 18,Iv nn,Sv s,.slice ad l.length cc] 50));have B0:Hi (∀W,Below (w.alloc (.cells #[Iv 18,Iv nn,Sv s,.slice ad l.length cc] 50)).heap.size (w.alloc (.cells #[Iv 18,Iv nn,Sv s,.slice ad l.length cc] 50)) W->Bel w W):=λW hW=>Je A0 hW
 have HI:=Zh hI;have uA:=Zh hK;have zA:=Zh hi;clear A0 hI hK;have ci:=λW=>QbF 18 zd W
 have cb:=λW=>QbA 18 zd W
 rw[show QbT 18=false from rfl]at ci;rw[show Qbe 18=false from rfl]at cb;have vA:((i:Int)==0)=true:=beq_iff_eq.2 zo;have yA:(i==0)=true:=beq_iff_eq.2 zo;have hw:QaB (fs.map Qas) M0 18 nn l i=1:=by unfold QaB;simp[show QbT 18=false from rfl,show Qbe 18=false from rfl,h]
 exact zBn
def Qhx(fs:List FnM)(fa:Option Addr)(fc:Nat)(M0:List Int)(va:Option Addr)(vc:Nat)(nn:Int)(s:By)(l:List Exp)(ad:Option Addr)(cc:Nat)(w:World)(hI:RfI fs fa fc M0 (.slice va M0.length vc) (.mk 18 nn s l) #[Iv 18,Iv nn,Sv s,.slice ad l.length cc] w)(hK:QbC w ad l)(i:Nat)(hi:i<l.length)(h:i=1):
  Calls prog 138 #[.slice fa fs.length fc,.slice va M0.length vc,.agg #[Iv 18,Iv nn,Sv s,.slice ad l.length cc],Iv i] w (λe w'=>e=.returned (.tuple #[Iv (QaB (fs.map Qas) M0 18 nn l i),.bool true])/\Bel w w'):=by
 have A0:Below w.heap.size w (w.alloc (.cells #[Iv 18,Iv nn,Sv s,.slice ad l.length cc] 50)):=zzb.alloc zzl _;have S0:=Zh (zzw w (.cells #[Iv 18,Iv nn,Sv s,.slice ad l.length cc] 50));have B0:Hi (∀W,Below (w.alloc (.cells #[Iv 18,Iv nn,Sv s,.slice ad l.length cc] 50)).heap.size (w.alloc (.cells #[Iv 18,Iv nn,Sv s,.slice ad l.length cc] 50)) W->Bel w W):=λW hW=>Je A0 hW
 have HI:=Zh hI;have vA:=Zh hK;have uA:=Zh hi;clear A0 hI hK;have ci:=λW=>QbF 18 zd W
 have cb:=λW=>QbA 18 zd W
 rw[show QbT 18=false from rfl]at ci;rw[show Qbe 18=false from rfl]at cb;have aA:((i:Int)==0)=false:=zzq zo;have yA:(i==0)=false:=zzq zo;have bA:((i:Int)==2)=false:=zzq zo;have zA:(i==2)=false:=zzq zo;have hw:QaB (fs.map Qas) M0 18 nn l i = -1:=by unfold QaB;simp[show QbT 18=false from rfl,show Qbe 18=false from rfl,h]
 exact zBn
def Qhv(fs:List FnM)(fa:Option Addr)(fc:Nat)(M0:List Int)(va:Option Addr)(vc:Nat)(nn:Int)(s:By)(l:List Exp)(ad:Option Addr)(cc:Nat)(w:World)(hI:RfI fs fa fc M0 (.slice va M0.length vc) (.mk 19 nn s l) #[Iv 19,Iv nn,Sv s,.slice ad l.length cc] w)(hK:QbC w ad l)(i:Nat)(hi:i<l.length):
  Calls prog 138 #[.slice fa fs.length fc,.slice va M0.length vc,.agg #[Iv 19,Iv nn,Sv s,.slice ad l.length cc],Iv i] w (λe w'=>e=.returned (.tuple #[Iv (QaB (fs.map Qas) M0 19 nn l i),.bool true])/\Bel w w'):=by
 have A0:Below w.heap.size w (w.alloc (.cells #[Iv 19,Iv nn,Sv s,.slice ad l.length cc] 50)):=zzb.alloc zzl _;have S0:=Zh (zzw w (.cells #[Iv 19,Iv nn,Sv s,.slice ad l.length cc] 50));have B0:Hi (∀W,Below (w.alloc (.cells #[Iv 19,Iv nn,Sv s,.slice ad l.length cc] 50)).heap.size (w.alloc (.cells #[Iv 19,Iv nn,Sv s,.slice ad l.length cc] 50)) W->Bel w W):=λW hW=>Je A0 hW
 have HI:=Zh hI;have zA:=Zh hK;have yA:=Zh hi;clear A0 hI hK;have ci:=λW=>QbF 19 zd W
 have cb:=λW=>QbA 19 zd W
 rw[show QbT 19=false from rfl]at ci;rw[show Qbe 19=false from rfl]at cb;have hw:QaB (fs.map Qas) M0 19 nn l i = -1:=by unfold QaB;simp[show QbT 19=false from rfl,show Qbe 19=false from rfl]
 rw[hw];clear hw;go_enter func138,ntmps138;go_upto_region 1 with fail;have S3:Hi (w.heap.size<(w.alloc (.cells #[Iv 19,Iv nn,Sv s,.slice ad l.length cc] 50)).heap.size):=Jb S0.o;generalize World.alloc w _=w1 at*;generalize w.heap.size=eb at*
 have FF:Hi (∀W,Below w1.heap.size w1 W->W.cell? ⟨eb,0,none⟩=some (Iv 19)/\W.cell? ⟨eb,1,none⟩=some (Iv nn)/\W.cell? ⟨eb,3,none⟩=some (.slice ad l.length cc)):=by
  exact zBl
 exact zBk
theorem zBu{P:Prop}(h:P:=by
  go_wp2_with fail;refine ct.mono ?_;rintro e w8 ⟨rfl,Q3⟩;have L8:=Zh (Je (B0.o _ xA.o) Q3);go_wp2;go_ret2;exact⟨rfl,L8.o⟩):P:=h
def Qhz(fs:List FnM)(fa:Option Addr)(fc:Nat)(M0:List Int)(va:Option Addr)(vc:Nat)(nn:Int)(s:By)(l:List Exp)(ad:Option Addr)(cc:Nat)(w:World)(hI:RfI fs fa fc M0 (.slice va M0.length vc) (.mk 15 nn s l) #[Iv 15,Iv nn,Sv s,.slice ad l.length cc] w)(hK:QbC w ad l)(i:Nat)(hi:i<l.length)(h:i=1):
  Calls prog 138 #[.slice fa fs.length fc,.slice va M0.length vc,.agg #[Iv 15,Iv nn,Sv s,.slice ad l.length cc],Iv i] w (λe w'=>e=.returned (.tuple #[Iv (QaB (fs.map Qas) M0 15 nn l i),.bool true])/\Bel w w'):=by
 have A0:Below w.heap.size w (w.alloc (.cells #[Iv 15,Iv nn,Sv s,.slice ad l.length cc] 50)):=zzb.alloc zzl _;have S0:=Zh (zzw w (.cells #[Iv 15,Iv nn,Sv s,.slice ad l.length cc] 50));have B0:Hi (∀W,Below (w.alloc (.cells #[Iv 15,Iv nn,Sv s,.slice ad l.length cc] 50)).heap.size (w.alloc (.cells #[Iv 15,Iv nn,Sv s,.slice ad l.length cc] 50)) W->Bel w W):=λW hW=>Je A0 hW
 have HI:=Zh hI;have vA:=Zh hK;have ci:=λW=>QbF 15 zd W
 have cb:=λW=>QbA 15 zd W
 rw[show QbT 15=false from rfl]at ci;rw[show Qbe 15=false from rfl]at cb;obtain⟨a,ha⟩:∃a,l[0]?=some a:=⟨l[0]'(by omega),getElem?_eq_getElem _⟩
 have zA:l.getD 0 Qgg=a:=by rw[List.getD_eq_getElem?_getD,ha];rfl
 obtain⟨ty,yA⟩:∃t,tyE fs M0 a=t:=⟨_,rfl⟩
 have hw:QaB (fs.map Qas) M0 15 nn l i=ty:=by unfold QaB;rw[<-yA];unfold tyE;rw[<-zA];simp[show QbT 15=false from rfl,show Qbe 15=false from rfl,h]
 rw[hw]
 have HA:=Zh ha;have bA:=Zh yA;go_enter func138,ntmps138;go_upto_region 1 with fail;have S3:Hi (w.heap.size<(w.alloc (.cells #[Iv 15,Iv nn,Sv s,.slice ad l.length cc] 50)).heap.size):=Jb S0.o;generalize World.alloc w _=w1 at*;generalize w.heap.size=eb at*
 have FF:Hi (∀W,Below w1.heap.size w1 W->W.cell? ⟨eb,0,none⟩=some (Iv 15)/\W.cell? ⟨eb,1,none⟩=some (Iv nn)/\W.cell? ⟨eb,3,none⟩=some (.slice ad l.length cc)):=by
  exact zBl
 have xA:Hi (Below w1.heap.size w1 w1):=zzb;obtain⟨b0,b1,b3⟩:=FF.o _ xA.o;go_wp2_with fail;refine(ci _).mono ?_;rintro e w9 ⟨rfl,rfl⟩;go_wp2_with fail;refine(cb _).mono ?_;rintro e w9 ⟨rfl,rfl⟩;obtain⟨ba,oa,da,ca,cA,aA,k0,k1,k2,k3⟩:=vA.o.at' (B0.o _ xA.o) HA.o;simp only[Nat.one_mul,Nat.zero_mul,Nat.add_zero]at k0 k1 k2 k3;have ct:=QcG fs fa fc _ M0 _ a _ w1 zzl ((HI.o.up (B0.o _ xA.o)).kid zd HA.o aA);rw[bA.o]at ct;subst cA;exact zBu
def Qhw(fs:List FnM)(fa:Option Addr)(fc:Nat)(M0:List Int)(va:Option Addr)(vc:Nat)(nn:Int)(s:By)(l:List Exp)(ad:Option Addr)(cc:Nat)(w:World)(hI:RfI fs fa fc M0 (.slice va M0.length vc) (.mk 18 nn s l) #[Iv 18,Iv nn,Sv s,.slice ad l.length cc] w)(hK:QbC w ad l)(i:Nat)(hi:i<l.length)(h:i=2):
  Calls prog 138 #[.slice fa fs.length fc,.slice va M0.length vc,.agg #[Iv 18,Iv nn,Sv s,.slice ad l.length cc],Iv i] w (λe w'=>e=.returned (.tuple #[Iv (QaB (fs.map Qas) M0 18 nn l i),.bool true])/\Bel w w'):=by
 have A0:Below w.heap.size w (w.alloc (.cells #[Iv 18,Iv nn,Sv s,.slice ad l.length cc] 50)):=zzb.alloc zzl _;have S0:=Zh (zzw w (.cells #[Iv 18,Iv nn,Sv s,.slice ad l.length cc] 50));have B0:Hi (∀W,Below (w.alloc (.cells #[Iv 18,Iv nn,Sv s,.slice ad l.length cc] 50)).heap.size (w.alloc (.cells #[Iv 18,Iv nn,Sv s,.slice ad l.length cc] 50)) W->Bel w W):=λW hW=>Je A0 hW
 have HI:=Zh hI;have uA:=Zh hK;have ci:=λW=>QbF 18 zd W
 have cb:=λW=>QbA 18 zd W
 rw[show QbT 18=false from rfl]at ci;rw[show Qbe 18=false from rfl]at cb;obtain⟨a,ha⟩:∃a,l[1]?=some a:=⟨l[1]'(by omega),getElem?_eq_getElem _⟩
 have zA:l.getD 1 Qgg=a:=by rw[List.getD_eq_getElem?_getD,ha];rfl
 obtain⟨ty,yA⟩:∃t,tyE fs M0 a=t:=⟨_,rfl⟩
 have hw:QaB (fs.map Qas) M0 18 nn l i=ty:=by unfold QaB;rw[<-yA];unfold tyE;rw[<-zA];simp[show QbT 18=false from rfl,show Qbe 18=false from rfl,h]
 rw[hw]
 have HA:=Zh ha;have aA:=Zh yA;go_enter func138,ntmps138;go_upto_region 1 with fail;have S3:Hi (w.heap.size<(w.alloc (.cells #[Iv 18,Iv nn,Sv s,.slice ad l.length cc] 50)).heap.size):=Jb S0.o;generalize World.alloc w _=w1 at*;generalize w.heap.size=eb at*
 have FF:Hi (∀W,Below w1.heap.size w1 W->W.cell? ⟨eb,0,none⟩=some (Iv 18)/\W.cell? ⟨eb,1,none⟩=some (Iv nn)/\W.cell? ⟨eb,3,none⟩=some (.slice ad l.length cc)):=by
  exact zBl
 have xA:Hi (Below w1.heap.size w1 w1):=zzb;obtain⟨b0,b1,b3⟩:=FF.o _ xA.o;go_wp2_with fail;refine(ci _).mono ?_;rintro e w9 ⟨rfl,rfl⟩;go_wp2_with fail;refine(cb _).mono ?_;rintro e w9 ⟨rfl,rfl⟩;obtain⟨ba,oa,da,ca,dA,vA,k0,k1,k2,k3⟩:=uA.o.at' (B0.o _ xA.o) HA.o;simp only[Nat.one_mul,Nat.zero_mul,Nat.add_zero]at k0 k1 k2 k3;have ct:=QcG fs fa fc _ M0 _ a _ w1 zzl ((HI.o.up (B0.o _ xA.o)).kid zd HA.o vA);rw[aA.o]at ct;subst dA;exact zBu
def Qgo(fs:List FnM)(fa:Option Addr)(fc:Nat)(M0:List Int)(va:Option Addr)(vc:Nat)(nn:Int)(s:By)(l:List Exp)(ad:Option Addr)(cc:Nat)(w:World)(hI:RfI fs fa fc M0 (.slice va M0.length vc) (.mk 20 nn s l) #[Iv 20,Iv nn,Sv s,.slice ad l.length cc] w)(hK:QbC w ad l)(i:Nat)(hi:i<l.length)(h:l.length=((fs.map Qas).getD nn.toNat ⟨[],0⟩).params.length):
  Calls prog 138 #[.slice fa fs.length fc,.slice va M0.length vc,.agg #[Iv 20,Iv nn,Sv s,.slice ad l.length cc],Iv i] w (λe w'=>e=.returned (.tuple #[Iv (QaB (fs.map Qas) M0 20 nn l i),.bool true])/\Bel w w'):=by
 have A0:Below w.heap.size w (w.alloc (.cells #[Iv 20,Iv nn,Sv s,.slice ad l.length cc] 50)):=zzb.alloc zzl _;have S0:=Zh (zzw w (.cells #[Iv 20,Iv nn,Sv s,.slice ad l.length cc] 50));have B0:Hi (∀W,Below (w.alloc (.cells #[Iv 20,Iv nn,Sv s,.slice ad l.length cc] 50)).heap.size (w.alloc (.cells #[Iv 20,Iv nn,Sv s,.slice ad l.length cc] 50)) W->Bel w W):=λW hW=>Je A0 hW
 have HI:=Zh hI;have ci:=λW=>QbF 20 zd W
 have cb:=λW=>QbA 20 zd W
 rw[show QbT 20=false from rfl]at ci;rw[show Qbe 20=false from rfl]at cb
 have zA:0<=nn/\nn<(fs.length:Int):=by
  obtain⟨hf,_⟩:=QaS HI.o.sh;unfold Qab at hf;simp at hf;exact⟨hf.1.1,by omega⟩
 obtain⟨m,rfl⟩:∃m:Nat,nn=m:=⟨nn.toNat,by omega⟩
 have jA:(m:Int)<(fs.length:Int):=zA.2
 obtain⟨g,hg⟩:∃g,fs[m]?=some g:=⟨fs[m],getElem?_eq_getElem _⟩
 have yA:((fs.map Qas).getD (m:Int).toNat ⟨[],0⟩)=Qas g:=by
  rw[Int.toNat_natCast,List.getD_eq_getElem?_getD,List.getElem?_map,hg];rfl
 rw[yA]at h;have hl:l.length=g.params.length:=h
 have dA:i<g.params.length:=zo
 obtain⟨t,ht⟩:∃t,g.params[i]?=some t:=⟨g.params[i],getElem?_eq_getElem _⟩
 have hw:QaB (fs.map Qas) M0 20 m l i=t:=by
  unfold QaB;rw[yA];simp only[show QbT 20=false from rfl,show Qbe 20=false from rfl];simp[Qas,ht]
 rw[hw];have en:((l.length:Int)==(g.params.length:Int))=true:=beq_iff_eq.2 zo;have bA:(l.length==g.params.length)=true:=beq_iff_eq.2 hl;have iA:((l.length:Int) !=(g.params.length:Int))=false:=by rw[bne,en];rfl
 have uA:(l.length !=g.params.length)=false:=by rw[bne,bA];rfl
 have HG:=Zh hg;have HT:=Zh ht;clear zA hg yA h hw ht hl hi;go_enter func138,ntmps138;go_upto_region 1 with fail;have S3:Hi (w.heap.size<(w.alloc (.cells #[Iv 20,Iv (m:Int),Sv s,.slice ad l.length cc] 50)).heap.size):=Jb S0.o;generalize World.alloc w _=w1 at*;generalize w.heap.size=eb at*
 have FF:Hi (∀W,Below w1.heap.size w1 W->W.cell? ⟨eb,0,none⟩=some (Iv 20)/\W.cell? ⟨eb,1,none⟩=some (Iv (m:Int))/\W.cell? ⟨eb,3,none⟩=some (.slice ad l.length cc)):=by
  exact zBl
 have xA:Hi (Below w1.heap.size w1 w1):=zzb;obtain⟨b0,b1,b3⟩:=FF.o _ xA.o;go_wp2_with fail;refine(ci _).mono ?_;rintro e w9 ⟨rfl,rfl⟩;go_wp2_with fail;refine(cb _).mono ?_;rintro e w9 ⟨rfl,rfl⟩;obtain⟨bf,of,pa,pc,da,dc,G3,hfc⟩:=((HI.o.up (B0.o _ xA.o)).fns).get HG.o;have c1:=hfc.c1;obtain⟨bp,op,cA,_,eA⟩:=hfc.nums.get HT.o;subst G3;subst cA;clear hfc;have vA:Hi (Bel w w1.drew):=B0.o _ xA.o.drew;go_upto_region 10 with fail;go_region;go_wp2;go_ret2;exact⟨rfl,vA.o⟩
def QhB(fs:List FnM)(fa:Option Addr)(fc:Nat)(M0:List Int)(va:Option Addr)(vc:Nat)(k nn:Int)(s:By)(l:List Exp)(ad:Option Addr)(cc:Nat)(w:World)(hI:RfI fs fa fc M0 (.slice va M0.length vc) (.mk k nn s l) #[Iv k,Iv nn,Sv s,.slice ad l.length cc] w)(hK:QbC w ad l)(i:Nat)(hi:i<l.length)(O2:k=20->l.length=((fs.map Qas).getD nn.toNat ⟨[],0⟩).params.length):
  Calls prog 138 #[.slice fa fs.length fc,.slice va M0.length vc,.agg #[Iv k,Iv nn,Sv s,.slice ad l.length cc],Iv i] w (λe w'=>e=.returned (.tuple #[Iv (QaB (fs.map Qas) M0 k nn l i),.bool true])/\Bel w w'):=by
 obtain⟨_,hk,xA,_⟩:=QaS hI.sh
 cases h1:QbT k with
 |true=>exact Qgn fs fa fc M0 va vc k nn s l ad cc w hI hK i hi hk h1
 |false=>
 cases h2:Qbe k with
 |true=>exact QfC fs fa fc M0 va vc k nn s l ad cc w hI hK i hi hk h1 h2
 |false=>
 have h5:5<k:=by
  by_cases h:5<k
  ·exact h
  ·replace h:k<=5:=zo
   have h0:l.length=0:=by rw[xA zo];unfold ar0;rw[if_pos h]
   omega
 have:k=15\/k=18\/k=19\/k=20:=by
  have a1:¬(k=6\/(8<=k/\k<=12)\/k=13\/k=14):=λh=>by
   have:QbT k=true:=by
    unfold QbT;simp only[Bool.or_eq_true,Bool.and_eq_true,beq_iff_eq,decide_eq_true_eq];omega
   rw[h1]at this;cases this
  have a2:¬(k=7\/k=16\/k=17):=λh=>by
   have:Qbe k=true:=by
    unfold Qbe;simp only[Bool.or_eq_true,beq_iff_eq];omega
   rw[h2]at this;cases this
  omega
 rcases this with rfl|rfl|rfl|rfl
 ·have yA:l.length=2:=by rw[xA zd];rfl
  by_cases h:i=0
  ·exact QhA fs fa fc M0 va vc nn s l ad cc w hI hK i hi h
  ·exact Qhz fs fa fc M0 va vc nn s l ad cc w hI hK i hi zo
 ·have zA:l.length=3:=by rw[xA zd];rfl
  by_cases h:i=0
  ·exact Qhy fs fa fc M0 va vc nn s l ad cc w hI hK i hi h
  ·by_cases h':i=1
   ·exact Qhx fs fa fc M0 va vc nn s l ad cc w hI hK i hi h'
   ·exact Qhw fs fa fc M0 va vc nn s l ad cc w hI hK i hi zo
 ·exact Qhv fs fa fc M0 va vc nn s l ad cc w hI hK i hi
 ·exact Qgo fs fa fc M0 va vc nn s l ad cc w hI hK i hi (O2 rfl)
def QbC.up_{w W:World}{ad:Option Addr}{l:List Exp}(h:QbC w ad l)(hb:Bel w W):QbC W ad l:=λhne=>by
 obtain⟨b,o,h1,h2,h3⟩:=h hne;refine⟨b,o,h1,Nat.lt_of_lt_of_le h2 hb.size,λi e hi=>?_⟩;obtain⟨d,h4,h5⟩:=h3 i e hi;exact⟨d,XAt.keep (λq hq=>hb.block q hq) (λq hq=>In.up hb hq) _ _ h4,λj u hu=>(hb.cell (p:=⟨b,o+i*4+j,none⟩) h2).trans (h5 j u hu)⟩
def QlX(fs:List FnM)(fa:Option Addr)(fc:Nat)(n:Nat):Prop:=∀(M0:List Int)(vv:Value)(e:Exp)(c:Array Value)(W:World),siz (utN e)<=n->RfI fs fa fc M0 vv e c W->NnT fs M0->
 Calls prog 114 #[.slice fa fs.length fc,vv,.agg c] W (QbL W (.bool (decide ((ofN (fs.map Qas) M0 (utN e)).2=[]))))
theorem zBr{P:Prop}(h:P:=by
  have O0:q=false:=by
   cases q with
   |false=>rfl
   |true=>have:=(vA.o.1 ((HQ.o.1 rfl).2 i y HY.o)).2;cases this
  subst O0;have E0:Hi (Bel w w6):=B0.o _ (C4.o _ (Je bA.o eA.o));go_wp2;go_ret;exact⟨rfl,E0.o⟩):P:=h
theorem zBs{P:Prop}(h:P:=by
  have I3:Hi (Below w1.heap.size w1 w6):=C4.o _ (Je bA.o eA.o);go_wp2;go_roundg (l.length-(i+1))
  case measure=>have:=HG.o;omega
  case rel=>exact⟨i+1,by have:=HG.o;omega,by go_num,I3.o,R3.o⟩):P:=h
theorem zBv{P:Prop}(h:P:=by
  intro W hW;have hh:=(hW.block _ S3.o).trans S0.o;refine⟨?_,?_,?_,?_⟩<;>(rw[Ja hh];rfl)):P:=h
def Qgq(fs:List FnM)(fa:Option Addr)(fc n:Nat)(IH:QlX fs fa fc n)(M0:List Int)(va:Option Addr)(vc:Nat)(k nn:Int)(s:By)(l:List Exp)(ad:Option Addr)(cc:Nat)(w:World)(hn:Qaz (utL l)<=n)(hI:RfI fs fa fc M0 (.slice va M0.length vc) (.mk k nn s l) #[Iv k,Iv nn,Sv s,.slice ad l.length cc] w)(hK:QbC w ad l)(hT:NnT fs M0):
  Calls prog 114 #[.slice fa fs.length fc,.slice va M0.length vc,.agg #[Iv k,Iv nn,Sv s,.slice ad l.length cc]] w (QbL w (.bool (decide ((ofN (fs.map Qas) M0 (utN (.mk k nn s l))).2=[])))):=by
 obtain⟨q,hq⟩:∃q,decide ((ofN (fs.map Qas) M0 (utN (.mk k nn s l))).2=[])=q:=⟨_,rfl⟩
 rw[hq]
 have hQ:q=true↔(k=20->l.length=((fs.map Qas).getD nn.toNat ⟨[],0⟩).params.length)/\∀(i:Nat)(y:Exp),l[i]?=some y->Qfn (fs.map Qas) M0 k nn l i y:=by
  rw[<-hq,decide_eq_true_eq];exact QhV hT.fns hT.vars (by rw[List.length_map];exact hI.sh)
 have HQ:=Zh hQ;have A0:Below w.heap.size w (w.alloc (.cells #[Iv k,Iv nn,Sv s,.slice ad l.length cc] 50)):=zzb.alloc zzl _;have S0:=Zh (zzw w (.cells #[Iv k,Iv nn,Sv s,.slice ad l.length cc] 50));have B0:Hi (∀W,Below (w.alloc (.cells #[Iv k,Iv nn,Sv s,.slice ad l.length cc] 50)).heap.size (w.alloc (.cells #[Iv k,Iv nn,Sv s,.slice ad l.length cc] 50)) W->Bel w W):=λW hW=>Je A0 hW
 have HI:=Zh hI;have bB:=Zh hK;have gB:=Zh IH;have HN:=Zh hn;have HT:=Zh hT;have uC:l.length<=2000000:=by have h1:=JjH (le_refl (Qaz (utL l)));have h2:=hI.sz;rw[utN,JA]at h2;omega
 clear A0 hI hK IH hn hT hQ hq;go_enter func114,ntmps114;go_upto_region 1 with fail;have S3:Hi (w.heap.size<(w.alloc (.cells #[Iv k,Iv nn,Sv s,.slice ad l.length cc] 50)).heap.size):=Jb S0.o;generalize World.alloc w _=w1 at*;generalize w.heap.size=eb at*
 have FF:Hi (∀W,Below w1.heap.size w1 W->W.cell? ⟨eb,0,none⟩=some (Iv k)/\W.cell? ⟨eb,1,none⟩=some (Iv nn)/\W.cell? ⟨eb,2,none⟩=some (Sv s)/\W.cell? ⟨eb,3,none⟩=some (.slice ad l.length cc)):=by
  exact zBv
 have kA:Hi (Below w1.heap.size w1 w1):=zzb;obtain⟨b0,b1,b2,b3⟩:=FF.o _ kA.o;obtain⟨iA,jA⟩:∃b,decide (k=20/\l.length≠((fs.map Qas).getD nn.toNat ⟨[],0⟩).params.length)=b:=⟨_,rfl⟩
 have xA:=Zh jA;clear jA;go_cut [26] λv wx=>v=.bool iA/\Below w1.heap.size w1 wx
 case first=>
  by_cases O2:k=20
  ·have aC:(k==20)=true:=beq_iff_eq.2 O2
   have cB:0<=nn/\nn<(fs.length:Int):=by
    obtain⟨hf,_⟩:=QaS HI.o.sh;rw[O2]at hf;unfold Qab at hf;simp at hf;exact⟨hf.1.1,by omega⟩
   have i6:decide (0<=nn)=true:=zE cB.1;have G8:nn<(fs.length:Int):=cB.2;have pC:nn.toNat<fs.length:=zo
   obtain⟨m,hm⟩:∃m:Nat,nn=m:=⟨nn.toNat,by omega⟩
   obtain⟨g,hg⟩:∃g,fs[m]?=some g:=⟨fs[m]'(by omega),getElem?_eq_getElem _⟩
   have qA:((fs.map Qas).getD nn.toNat ⟨[],0⟩)=Qas g:=by
    rw[hm,Int.toNat_natCast,List.getD_eq_getElem?_getD,List.getElem?_map,hg];rfl
   have tC:(m:Int)<(fs.length:Int):=zo
   obtain⟨bf,of,pa,pc,da,dc,G3,hfc⟩:=((HI.o.up (B0.o _ kA.o)).fns).get hg;have c1:=hfc.c1;subst G3;subst hm;clear hfc hg i6 G8 pC cB
   by_cases hl:l.length=g.params.length
   ·have en:((l.length:Int)==(g.params.length:Int))=true:=beq_iff_eq.2 zo;have uB:(l.length==g.params.length)=true:=beq_iff_eq.2 hl;have nC:((l.length:Int) !=(g.params.length:Int))=false:=by rw[bne,en];rfl
    have xB:(l.length !=g.params.length)=false:=by rw[bne,uB];rfl
    have hb:iA=false:=by rw[<-xA.o];refine zF λh=>h.2 ?_;rw[qA];exact hl
    subst hb;clear hl qA O2 xA HQ;go_region;go_wp2;go_meet;exact⟨rfl,kA.o.drew⟩
   ·have en:((l.length:Int)==(g.params.length:Int))=false:=zzq zo;have uB:(l.length==g.params.length)=false:=zzq hl;have nC:((l.length:Int) !=(g.params.length:Int))=true:=by rw[bne,en];rfl
    have xB:(l.length !=g.params.length)=true:=by rw[bne,uB];rfl
    have hb:iA=true:=by rw[<-xA.o];refine zE ⟨O2,?_⟩;rw[qA];exact hl
    subst hb;clear hl qA O2 xA HQ;go_region;go_wp2;go_meet;exact⟨rfl,kA.o.drew⟩
  ·have aC:(k==20)=false:=zzq O2;have hb:iA=false:=by rw[<-xA.o];exact zF λh=>O2 h.1
   subst hb;clear O2 xA HQ;go_region;go_wp2;go_meet;exact⟨rfl,kA.o.drew⟩
 case rest=>
 obtain⟨rfl,I0⟩:=hcut;obtain⟨w2,rfl⟩:=zG wc
 have yB:=Zh I0;clear I0 b0 b1 b2 b3
 cases iA with
 |true=>
  have hb:=of_decide_eq_true xA.o
  have O0:q=false:=by
   cases q with
   |false=>rfl
   |true=>exact absurd ((HQ.o.1 rfl).1 hb.1) hb.2
  subst O0;clear HQ xA hb;go_wp2;go_ret;exact⟨rfl,B0.o _ yB.o⟩
 |false=>
 have hB:Hi (k=20->l.length=((fs.map Qas).getD nn.toNat ⟨[],0⟩).params.length):=λh=>by
  have hb:=of_decide_eq_false xA.o;exact Decidable.not_not.1 λh2=>hb ⟨h,h2⟩
 clear xA;go_wp2_with fail;go_loopg [7] l.length λg v7 wr=>∃i:Nat,g+i=l.length/\v7=Iv i/\Hi (Below w1.heap.size w1 wr/\∀j,j<i->∀y,l[j]?=some y->Qfn (fs.map Qas) M0 k nn l j y)
 case atStart=>exact⟨0,rfl,rfl,yB.o,λj hj=>absurd hj (Nat.not_lt_zero _)⟩
 case round=>
 clear yB;obtain⟨wl,rfl⟩:=zG wr
 obtain⟨i,hg,rfl,hz⟩:=hrel;have HB:=Zh hz.o.1;have HP:=Zh hz.o.2;clear hz;obtain⟨b0,b1,b2,b3⟩:=FF.o _ HB.o
 by_cases hi:i<l.length
 ·have hil:(i:Int)<(l.length:Int):=zo
  have dil:decide ((i:Int)<(l.length:Int))=true:=zE hil;have vB:decide (i<l.length)=true:=zE hi;have wk:=zI i;obtain⟨y,hy⟩:∃y,l[i]?=some y:=⟨l[i],getElem?_eq_getElem hi⟩
  obtain⟨sc,iB⟩:∃sc,Qcn (fs.map Qas) M0 k l i=sc:=⟨_,rfl⟩
  have uA:=Zh iB;have HY:=Zh hy;have HG:=Zh (And.intro hg hi);clear iB hg;obtain⟨mA,hA⟩:∃b,decide (k=19/\i=1)=b:=⟨_,rfl⟩
  have zA:=Zh hA;clear hA;go_upto_region 7 with fail;go_cut [41] λv wx=>v=.bool mA/\Below w1.heap.size w1 wx
  case first=>
   by_cases T4:k=19
   ·have hC:(k==19)=true:=beq_iff_eq.2 T4
    by_cases EA:i=1
    ·have ei:((i:Int)==1)=true:=beq_iff_eq.2 zo;have vC:(i==1)=true:=beq_iff_eq.2 EA;have hb:mA=true:=by rw[<-zA.o];exact zE ⟨T4,EA⟩
     subst hb;clear T4 EA zA uA HQ HP hy hi;go_wp2;go_meet;exact⟨rfl,HB.o⟩
    ·have ei:((i:Int)==1)=false:=zzq zo;have vC:(i==1)=false:=zzq EA;have hb:mA=false:=by rw[<-zA.o];exact zF λh=>EA h.2
     subst hb;clear T4 EA zA uA HQ HP hy hi;go_wp2;go_meet;exact⟨rfl,HB.o⟩
   ·have hC:(k==19)=false:=zzq T4;have hb:mA=false:=by rw[<-zA.o];exact zF λh=>T4 h.1
    subst hb;clear T4 zA uA HQ HP hy hi;go_wp2;go_meet;exact⟨rfl,HB.o⟩
  case rest=>
  obtain⟨rfl,E4⟩:=hcut;clear HB b0 b1 b2 b3;obtain⟨wl,rfl⟩:=zG wc
  have HB:=Zh E4;clear E4;obtain⟨b0,b1,b2,b3⟩:=FF.o _ HB.o;go_upto_if 41 with fail;go_cut [8] λv wx=>∃A C,v=.slice A sc.length C/\Below w1.heap.size w1 wx/\Qbc wx (In wx) sc v
  case first=>
   cases mA with
   |true=>
    have N2:=of_decide_eq_true zA.o;obtain⟨a,ha⟩:∃a,l[0]?=some a:=⟨l[0]'(by omega),getElem?_eq_getElem _⟩
    have tB:l.getD 0 Qgg=a:=by rw[List.getD_eq_getElem?_getD,ha];rfl
    obtain⟨ta,zB⟩:∃t,tyE fs M0 a=t:=⟨_,rfl⟩
    have cA:sc=M0++[ta]:=by rw[<-uA.o];unfold Qcn;rw[if_pos N2,tB,<-zB];rfl
    have sC:0<l.length:=zo
    have xD:(0:Int)<(l.length:Int):=zo
    obtain⟨kb,ko,dA,_,sB⟩:=bB.o.at0 (List.ne_nil_of_mem (List.mem_of_getElem? hy));obtain⟨da,ca,mB,G3⟩:=sB 0 a ha;have kC:=Zh ha;subst dA
    have FG:Hi (∀W,Below w1.heap.size w1 W->(W.cell? ⟨eb,3,none⟩=some (.slice (some ⟨kb,ko,none⟩) l.length cc)/\W.cell? ⟨kb,ko,none⟩=some (Iv a.kind)/\W.cell? ⟨kb,ko+1,none⟩=some (Iv a.num)/\W.cell? ⟨kb,ko+2,none⟩=some (.string (bs a.name))/\W.cell? ⟨kb,ko+3,none⟩=some (.slice da a.kids.length ca))):=by
     intro W hW;obtain⟨k0,k1,k2,k3⟩:=G3 W (B0.o _ hW);simp only[Nat.zero_mul,Nat.add_zero]at k0 k1 k2 k3;exact⟨(FF.o W hW).2.2.2,k0,k1,k2,k3⟩
    have dB:Hi (∀W,Below w1.heap.size w1 W->RfI fs fa fc M0 (.slice va M0.length vc) (.mk k nn s l) _ W):=λW hW=>HI.o.up (B0.o _ hW)
    have xC:Hi (M0.length<=2000000):=by have:=HI.o.sz;unfold Hi;omega
    have jB:Hi (∀W,Below w1.heap.size w1 W->Calls prog 115 #[.slice fa fs.length fc,.slice va M0.length vc,.agg #[Iv a.kind,Iv a.num,.string (bs a.name),.slice da a.kids.length ca]] W (QbL W (Iv ta))):=by
     intro W hW;have ct:=QcG fs fa fc _ M0 _ a _ W zzl ((dB.o W hW).kid (λh=>by omega) kC.o (XAt.keep (λq hq=>(B0.o _ hW).block q hq) (λq hq=>In.up (B0.o _ hW) hq) _ _ mB));rw[zB]at ct;exact ct
    clear zB ha tB mB G3 sB N2 zA uA HQ HP hy hi;go_upto_region 8 with fail;have pB:=Zh HB.o.drew;have HB:=pB;clear pB;refine wp_region_held_drew (S:=(λW=>Below w1.heap.size w1 W/\(W.cell? ⟨eb,3,none⟩=some (.slice (some ⟨kb,ko,none⟩) l.length cc)/\W.cell? ⟨kb,ko,none⟩=some (Iv a.kind)/\W.cell? ⟨kb,ko+1,none⟩=some (Iv a.num)/\W.cell? ⟨kb,ko+2,none⟩=some (.string (bs a.name))/\W.cell? ⟨kb,ko+3,none⟩=some (.slice da a.kids.length ca)))) zk (⟨HB.o,FG.o _ HB.o⟩) λhHeld=>?_;refine wpAnyH_take (i:=1) (oi:={dst:=some 43,op:=Go.Op.move (Go.Operand.tmp 1),type:=55,pos:="ref.go:672",after:=#[],guard:=none}) (v:=?vT1_1) rfl zk zk zk (λ_ _ _ h=>h) (Or.inl ⟨by rfl,?yT1_1⟩) (by assumption) ?_
    case yT1_1=>(intro wX hSw;(try dsimp only at hSw);go_simp<;>with_reducible rfl)
    try simp only[zX]
    refine wpAnyH_take (i:=3) (oi:={dst:=some 45,op:=Go.Op.move (Go.Operand.tmp 0),type:=27,pos:="ref.go:672",after:=#[],guard:=none}) (v:=?vT1_3) rfl zk zk zk (λ_ _ _ h=>h) (Or.inl ⟨by rfl,?yT1_3⟩) (by assumption) ?_
    case yT1_3=>(intro wX hSw;(try dsimp only at hSw);go_simp<;>with_reducible rfl)
    try simp only[zX]
    refine wpAnyH_take (i:=4) (oi:={dst:=some 46,op:=Go.Op.move (Go.Operand.tmp 1),type:=55,pos:="ref.go:672",after:=#[],guard:=none}) (v:=?vT1_4) rfl zk zk zk (λ_ _ _ h=>h) (Or.inl ⟨by rfl,?yT1_4⟩) (by assumption) ?_
    case yT1_4=>(intro wX hSw;(try dsimp only at hSw);go_simp<;>with_reducible rfl)
    try simp only[zX]
    refine wpAnyH_take (i:=5) (oi:={dst:=some 47,op:=Go.Op.fieldAddr 50 (Go.Operand.tmp 5) 3,type:=0,pos:="ref.go:672",after:=#[],guard:=none}) (v:=?vT1_5) rfl zk zk zk (λ_ _ _ h=>h) (Or.inl ⟨by rfl,?yT1_5⟩) (by assumption) ?_
    case yT1_5=>(intro wX hSw;(try dsimp only at hSw);go_simp<;>with_reducible rfl)
    try simp only[zX]
    refine wpAnyH_take (i:=6) (oi:={dst:=some 48,op:=Go.Op.load 48 (Go.Operand.tmp 47),type:=48,pos:="ref.go:672",after:=#[{on:=5,ground:=Go.Ground.data}],guard:=none}) (v:=?vT1_6) rfl zk zk zk (λ_ _ _ h=>h) (Or.inl ⟨by rfl,?yT1_6⟩) (by assumption) ?_
    case yT1_6=>(intro wX hSw;(try dsimp only at hSw);go_simp<;>with_reducible rfl)
    try simp only[zX]
    refine wpAnyH_take (i:=7) (oi:={dst:=some 49,op:=Go.Op.indexAddr 48 (Go.Operand.tmp 48) (Go.Operand.const (Go.Value.int Go.IntKind.i64 0)),type:=0,pos:="ref.go:672",after:=#[{on:=6,ground:=Go.Ground.data}],guard:=none}) (v:=?vT1_7) rfl zk zk zk (λ_ _ _ h=>h) (Or.inl ⟨by rfl,?yT1_7⟩) (by assumption) ?_
    case yT1_7=>(intro wX hSw;(try dsimp only at hSw);go_simp<;>with_reducible rfl)
    try simp only[zX]
    refine wpAnyH_take (i:=8) (oi:={dst:=some 50,op:=Go.Op.load 50 (Go.Operand.tmp 49),type:=50,pos:="ref.go:672",after:=#[{on:=7,ground:=Go.Ground.data}],guard:=none}) (v:=?vT1_8) rfl zk zk zk (λ_ _ _ h=>h) (Or.inl ⟨by rfl,?yT1_8⟩) (by assumption) ?_
    case yT1_8=>(intro wX hSw;(try dsimp only at hSw);go_simp<;>with_reducible rfl)
    try simp only[zX]
    refine wpAnyH_ready (rs:=[0]) zk zp (AllReadyH.cons (o:={dst:=some 42,op:=Go.Op.buildSlice 55 0 #[],type:=55,pos:="ref.go:672",after:=#[],guard:=none}) rfl (λK hK=>?_) AllReadyH.nil);go_simp;have HA:=Zh (Kw (Vj wl.drew 3 1) HB.o.size);replace HB:=Zh (HB.o.alloc HB.o.size (.cells #[] 3));refine zU hK (⟨HB.o,FG.o _ HB.o⟩) λhHeld=>?_;clear hK K
    try simp only[zX]
    refine wpAnyH_ready (rs:=[2]) zk zp (AllReadyH.cons (o:={dst:=some 44,op:=Go.Op.call {callee:=Go.Callee.builtin Go.Builtin.append,args:=#[Go.Operand.tmp 42,Go.Operand.tmp 43],argTypes:=#[55,55]},type:=55,pos:="ref.go:672",after:=#[{on:=0,ground:=Go.Ground.data},{on:=1,ground:=Go.Ground.data}],guard:=none}) rfl (λK hK=>?_) AllReadyH.nil);rw[if_pos zr];refine Jr elI QeC QeB _ _ rfl w1.heap.size (.slice (some ⟨wl.heap.size,0,none⟩) 0 0) 0 [] rfl HA.o va vc M0.length M0 rfl (Qio (dB.o _ HB.o).nums) rfl (zt xC.o) HB.o.size ?_;intro v4 w4 yA G1 rA
    (try simp only[Nat.zero_add,List.nil_append]at yA)
    replace HB:=Zh (HB.o.trans G1);replace HA:=Zh yA;clear yA G1 rA;obtain⟨a4,c4,bC⟩:=JB HA.o;subst bC;refine zU hK (⟨HB.o,FG.o _ HB.o⟩) λhHeld=>?_;clear hK K
    try simp only[zX]
    refine wpAnyH_ready (rs:=[9]) zk zp (AllReadyH.cons (o:={dst:=some 51,op:=Go.Op.call {callee:=Go.Callee.value (Go.Operand.func 115),args:=#[Go.Operand.tmp 45,Go.Operand.tmp 46,Go.Operand.tmp 50],argTypes:=#[27,55,50]},type:=3,pos:="ref.go:672",after:=#[{on:=3,ground:=Go.Ground.data},{on:=4,ground:=Go.Ground.data},{on:=8,ground:=Go.Ground.data},{on:=2,ground:=Go.Ground.chain}],guard:=none}) rfl (λK hK=>?_) AllReadyH.nil);have ci:=jB.o _ HB.o
    (go_simp;go_at_call 115;refine ci.mono ?_;rintro e w5 ⟨rfl,C3⟩)
    replace HA:=Zh (JZ HA.o C3);replace HB:=Zh (HB.o.trans (C3.mono HB.o.size));refine zU hK (⟨HB.o,FG.o _ HB.o⟩) λhHeld=>?_
    try simp only[zX]
    refine wpAnyH_ready (rs:=[10]) zk zp (AllReadyH.cons (o:={dst:=some 52,op:=Go.Op.buildSlice 55 1 #[(0,Go.Operand.tmp 51)],type:=55,pos:="ref.go:672",after:=#[{on:=9,ground:=Go.Ground.data}],guard:=none}) rfl (λK hK=>?_) AllReadyH.nil);go_simp;have HX:=Zh (zzw w5 (.cells #[Iv ta] 3));replace HA:=Zh (JZ HA.o (zzb.alloc zzl (.cells #[Iv ta] 3)));replace HB:=Zh (HB.o.alloc HB.o.size (.cells #[Iv ta] 3));refine zU hK (⟨HB.o,FG.o _ HB.o⟩) λhHeld=>?_
    try simp only[zX]
    refine wpAnyH_ready (rs:=[11]) zk zp (AllReadyH.cons (o:={dst:=some 53,op:=Go.Op.call {callee:=Go.Callee.builtin Go.Builtin.append,args:=#[Go.Operand.tmp 44,Go.Operand.tmp 52],argTypes:=#[55,55]},type:=55,pos:="ref.go:672",after:=#[{on:=2,ground:=Go.Ground.data},{on:=10,ground:=Go.Ground.data},{on:=9,ground:=Go.Ground.chain}],guard:=none}) rfl (λK hK=>?_) AllReadyH.nil);rw[if_pos zr];refine Jr elI QeC QeB _ _ rfl w1.heap.size _ M0.length _ rfl HA.o _ 1 1 [ta] rfl (.inr (Vk (g:=gI) (x:=ta) HX.o)) rfl (zt xC.o) HB.o.size ?_;intro v7 w7 yA G1 rA;replace HB:=Zh (HB.o.trans G1);replace HA:=Zh yA;obtain⟨a7,c7,jC⟩:=JB HA.o;subst jC;refine zU hK (⟨HB.o,FG.o _ HB.o⟩) λhHeld=>?_
    try simp only[zX]
    refine wpAnyH_take (i:=12) (oi:={dst:=some 8,op:=Go.Op.assign (Go.Operand.tmp 53),type:=55,pos:="ref.go:672",after:=#[{on:=11,ground:=Go.Ground.data},{on:=11,ground:=Go.Ground.chain},{on:=0,ground:=Go.Ground.phase},{on:=1,ground:=Go.Ground.phase},{on:=2,ground:=Go.Ground.phase},{on:=3,ground:=Go.Ground.phase},{on:=4,ground:=Go.Ground.phase},{on:=5,ground:=Go.Ground.phase},{on:=6,ground:=Go.Ground.phase},{on:=7,ground:=Go.Ground.phase},{on:=8,ground:=Go.Ground.phase},{on:=9,ground:=Go.Ground.phase},{on:=10,ground:=Go.Ground.phase},{on:=11,ground:=Go.Ground.phase}],guard:=none}) (v:=?vT6_12) rfl zk zk zk (λ_ _ _ h=>h) (Or.inl ⟨by rfl,?yT6_12⟩) (by assumption) ?_
    case yT6_12=>(intro wX hSw;(try dsimp only at hSw);go_simp<;>with_reducible rfl)
    try simp only[zX]
    refine wpAnyH_done zk ?_ _;have gA:Qbc w7 (In w7) (M0++[ta]) (.slice a7 (M0.length+1) c7):=QgL (by rw[List.length_append,List.length_singleton]) (by rw[List.flatMap_append];exact HA.o);have aB:Hi (∃A C,(Value.slice a7 (M0.length+1) c7)=.slice A sc.length C/\Below w1.heap.size w1 w7/\Qbc w7 (In w7) sc (.slice a7 (M0.length+1) c7)):=⟨a7,c7,by rw[cA,List.length_append,List.length_singleton],HB.o,by rw[cA];exact gA⟩
    go_wp2;go_meet;exact aB.o
   |false=>
    have cA:sc=M0:=by rw[<-uA.o];unfold Qcn;rw[if_neg (of_decide_eq_false zA.o)]
    have aB:Hi (∃A C,(Value.slice va M0.length vc)=.slice A sc.length C/\Below w1.heap.size w1 wl/\Qbc wl (In wl) sc (.slice va M0.length vc)):=⟨va,vc,by rw[cA],HB.o,by rw[cA];exact(HI.o.up (B0.o _ HB.o)).nums⟩
    go_wp2;go_meet;exact aB.o
  case rest=>
  obtain⟨sa,mC,rfl,nB,gA⟩:=hcut;obtain⟨w3,rfl⟩:=zG wc
  have nA:=Zh nB;have eC:=Zh gA;have C4:Hi (∀W,Bel w3 W->Below w1.heap.size w1 W):=λW hW=>Je nA.o hW
  have cw:=QhB fs fa fc M0 va vc k nn s l ad cc w3 (HI.o.up (B0.o _ nA.o)) (QbC.up_ bB.o (B0.o _ nA.o)) i hi hB.o;obtain⟨t,ht⟩:∃t,QaB (fs.map Qas) M0 k nn l i=t:=⟨_,rfl⟩
  rw[ht]at cw;have dC:=Zh ht;obtain⟨b0,b1,b2,b3⟩:=FF.o _ nA.o;go_wp2_with fail;refine cw.mono ?_;rintro e w4 ⟨rfl,yC⟩;have bA:=Zh yC
  have rB:Hi (∀W,Bel w4 W->∃b o da dc,ad=some ⟨b,o,none⟩/\RfI fs fa fc sc (.slice sa sc.length mC) y #[Iv y.kind,Iv y.num,.string (bs y.name),.slice da y.kids.length dc] W/\W.cell? ⟨b,o+i*4,none⟩=some (Iv y.kind)/\W.cell? ⟨b,o+i*4+1,none⟩=some (Iv y.num)/\W.cell? ⟨b,o+i*4+2,none⟩=some (.string (bs y.name))/\W.cell? ⟨b,o+i*4+3,none⟩=some (.slice da y.kids.length dc)):=by
   intro W hW;have qB:Bel w3 W:=Je bA.o hW;have hw1:=C4.o _ qB;obtain⟨b,o,da,dc,dA,hxy,c0,c1,c2,c3⟩:=bB.o.at' (B0.o _ hw1) HY.o;refine⟨b,o,da,dc,dA,(HI.o.up (B0.o _ hw1)).kidS HY.o hxy ?_ (eC.o.up qB),c0,c1,c2,c3⟩;rw[<-uA.o];unfold Qcn;split
   ·rw[List.length_append,List.length_singleton]
   ·rfl
  have O5:Hi (NnT fs sc):=by rw[Hi,<-uA.o];exact HT.o.scope k l i
  have eB:Hi (∀W,Bel w4 W->W.cell? ⟨eb,3,none⟩=some (.slice ad l.length cc)):=λW hW=>(FF.o W (C4.o _ (Je bA.o hW))).2.2.2
  have zC:Hi (siz (utN y)<=n):=Nat.le_trans (Jbz (List.mem_of_getElem? HY.o)) HN.o;obtain⟨ty,tA⟩:∃ty,tyE fs sc y=ty:=⟨_,rfl⟩
  obtain⟨z,hzz⟩:∃z,decide ((ofN (fs.map Qas) sc (utN y)).2=[])=z:=⟨_,rfl⟩
  have vA:Hi (Qfn (fs.map Qas) M0 k nn l i y↔(0<=t->ty=t)/\z=true):=by
   unfold Hi Qfn;rw[uA.o,dC.o,<-tA,<-hzz,decide_eq_true_eq];exact Iff.rfl
  have iC:=Zh tA;have q8:=Zh hzz;obtain⟨b,o,da,dc,dA,aA,c0,c1,c2,c3⟩:=rB.o w4 zzb;have b3:=eB.o w4 zzb;have sA:=dA;subst sA;have kB:True:=trivial
  by_cases WD:0<=t
  ·have d0:decide (0<=t)=true:=zE WD;have ct:=QcG fs fa fc _ sc _ y _ w4 zzl aA;rw[iC.o]at ct;go_wp2_with fail;refine ct.mono ?_;rintro e w5 ⟨rfl,C3⟩;have pA:=Zh (show Bel w4 w5 from C3)
   by_cases XC:ty=t
   ·have et:(ty==t)=true:=beq_iff_eq.2 XC;have cC:(ty !=t)=false:=by rw[bne,et];rfl
    obtain⟨b',o',rC,qC,O1,aA,c0,c1,c2,c3⟩:=rB.o w5 pA.o;injection O1 with O1;injection O1 with e1 e2;subst e1 e2;have b3:=eB.o w5 pA.o;have ci:=gB.o sc _ y _ w5 zC.o aA O5.o;rw[q8.o]at ci;go_wp2_with fail;refine ci.mono ?_;rintro e w6 ⟨rfl,L2⟩;have eA:=Zh (Je pA.o L2)
    cases z with
    |false=>
     exact zBr
    |true=>
     have R3:Hi (∀j,j<i+1->∀y,l[j]?=some y->Qfn (fs.map Qas) M0 k nn l j y):=λj hj x hx=>by
      by_cases C6:j<i
      ·exact HP.o j C6 x hx
      ·obtain rfl:j=i:=zo
       rw[HY.o]at hx;rw[<-Option.some.inj hx];exact vA.o.2 ⟨(λ_=>XC),rfl⟩
     exact zBs
   ·have et:(ty==t)=false:=zzq XC;have cC:(ty !=t)=true:=by rw[bne,et];rfl
    have O0:q=false:=by
     cases q with
     |false=>rfl
     |true=>exact absurd ((vA.o.1 ((HQ.o.1 rfl).2 i y HY.o)).1 WD) XC
    subst O0;have E0:Hi (Bel w w5):=B0.o _ (C4.o _ (Je bA.o pA.o));go_wp2;go_ret;exact⟨rfl,E0.o⟩
  ·have d0:decide (0<=t)=false:=zF WD;have ci:=gB.o sc _ y _ w4 zC.o aA O5.o;rw[q8.o]at ci;go_wp2_with fail;refine ci.mono ?_;rintro e w6 ⟨rfl,L2⟩;have eA:=Zh (show Bel w4 w6 from L2)
   cases z with
   |false=>
    exact zBr
   |true=>
    have R3:Hi (∀j,j<i+1->∀y,l[j]?=some y->Qfn (fs.map Qas) M0 k nn l j y):=λj hj x hx=>by
     by_cases C6:j<i
     ·exact HP.o j C6 x hx
     ·obtain rfl:j=i:=zo
      rw[HY.o]at hx;rw[<-Option.some.inj hx];exact vA.o.2 ⟨(λh=>by omega),rfl⟩
    exact zBs
 ·have hil:¬(i:Int)<(l.length:Int):=zo
  have dil:decide ((i:Int)<(l.length:Int))=false:=zF hil;have vB:decide (i<l.length)=false:=zF hi;have gC:q=true:=HQ.o.2 ⟨hB.o,λj y hy=>HP.o j (zt ((List.getElem?_eq_some_iff.1 hy).1)) y hy⟩;subst gC;go_wp2;go_ret;exact⟨rfl,B0.o _ HB.o⟩
def QeR(fs:List FnM)(fa:Option Addr)(fc:Nat):∀n,QlX fs fa fc n
 |0=>λM0 vv e c W hs h _=>by have:=Jdn e;omega
 |n+1=>λM0 vv e c W hs h hT=>by
  obtain⟨k,nn,s,l⟩:=e;obtain⟨va,vc,rfl,_⟩:=h.nums.form;obtain⟨ad,cc,rfl,_,hK⟩:=h.x.kids;have xA:Qaz (utL l)<=n:=by rw[utN,JA]at hs;omega
  exact Qgq fs fa fc n (QeR fs fa fc n) M0 va vc k nn s l ad cc W xA h hK hT
def QfH(fs:List FnM)(fa:Option Addr)(fc:Nat)(M0:List Int)(va:Option Addr)(vc:Nat)(e:Exp)(c:Array Value)(t:Int)(w:World)(hF:QbU w (.slice fa fs.length fc) fs)(hV:Qbc w (In w) M0 (.slice va M0.length vc))(hX:XAt w (In w) e c)(hsz:M0.length+siz (utN e)<=2000000)(XD:siz (utN e)<=1000000)(H8:NmN e)(hT:NnT fs M0):
  Calls prog 84 #[.slice fa fs.length fc,.slice va M0.length vc,.agg c,Iv t] w (QbL w (.bool (Qct (fs.map Qas) M0 e t))):=by
 obtain⟨q,hq⟩:∃q,Qct (fs.map Qas) M0 e t=q:=⟨_,rfl⟩
 rw[hq];unfold Qct at hq;rw[List.length_map]at hq;have HQ:=Zh hq;obtain⟨k,nn,s,l⟩:=e;obtain⟨ad,cc,rfl,_,hK⟩:=hX.kids;have A0:Below w.heap.size w (w.alloc (.cells #[Iv k,Iv nn,Sv s,.slice ad l.length cc] 50)):=zzb.alloc zzl _;have S0:=Zh (zzw w (.cells #[Iv k,Iv nn,Sv s,.slice ad l.length cc] 50));have B0:Hi (∀W,Below (w.alloc (.cells #[Iv k,Iv nn,Sv s,.slice ad l.length cc] 50)).heap.size (w.alloc (.cells #[Iv k,Iv nn,Sv s,.slice ad l.length cc] 50)) W->Bel w W):=λW hW=>Je A0 hW
 have kA:=Zh hX;have nA:=Zh hF;have jA:=Zh hV;have j4:=Zh (And.intro hsz XD);have eA:=Zh H8;have pA:=Zh hT;go_enter func84,ntmps84;go_upto_region 1 with fail;have S3:Hi (w.heap.size<(w.alloc (.cells #[Iv k,Iv nn,Sv s,.slice ad l.length cc] 50)).heap.size):=Jb S0.o;generalize World.alloc w _=w1 at*;generalize w.heap.size=eb at*
 have FF:Hi (∀W,Below w1.heap.size w1 W->W.cell? ⟨eb,0,none⟩=some (Iv k)/\W.cell? ⟨eb,1,none⟩=some (Iv nn)/\W.cell? ⟨eb,2,none⟩=some (Sv s)/\W.cell? ⟨eb,3,none⟩=some (.slice ad l.length cc)):=by
  exact zBv
 have dA:Hi (Below w1.heap.size w1 w1):=zzb;have yA:Hi (∀W,Below w1.heap.size w1 W->XAt W (In W) (.mk k nn s l) #[Iv k,Iv nn,Sv s,.slice ad l.length cc]/\QbU W (.slice fa fs.length fc) fs/\Qbc W (In W) M0 (.slice va M0.length vc)):=λW hW=>⟨XAt.keep (λq hq=>(B0.o _ hW).block q hq) (λq hq=>In.up (B0.o _ hW) hq) _ _ kA.o,QbU.up nA.o (B0.o _ hW),jA.o.up (B0.o _ hW)⟩
 obtain⟨b0,b1,b2,b3⟩:=FF.o _ dA.o;have cn:=QfF 1000000 zzl _ _ w1 (zt j4.o.2) (yA.o _ dA.o).1;obtain⟨d,hd⟩:∃d,Qfp (.mk k nn s l)=d:=⟨_,rfl⟩
 rw[hd]at cn;have HD:=Zh hd;go_wp2_with fail;refine cn.mono ?_;rintro e w2 ⟨rfl,I0⟩;have uA:Hi (Below w1.heap.size w1 w2):=I0
 by_cases oD:d<=40
 case neg=>
  have iA:decide ((d:Int)<=40)=false:=zF zo;have xA:decide (d<=40)=false:=zF oD;have O0:q=false:=by rw[<-HQ.o,HD.o,xA];rfl
  subst O0;go_wp2;go_ret;exact⟨rfl,B0.o _ uA.o⟩
 case pos=>
 have iA:decide ((d:Int)<=40)=true:=zE zo;have xA:decide (d<=40)=true:=zE oD
 replace HQ:Hi ((shN fs.length M0.length (.mk k nn s l)&&decide ((ofN (fs.map Qas) M0 (utN (.mk k nn s l))).2=[])&&decide ((ofN (fs.map Qas) M0 (utN (.mk k nn s l))).1=t))=q):=by
  have h:=HQ.o;rw[HD.o,xA,Bool.true_and]at h;exact h
 obtain⟨b0,b1,b2,b3⟩:=FF.o _ uA.o;have cs:=Qey fs fa fc _ M0.length _ _ w2 zzl j4.o.1 eA.o (yA.o _ uA.o).1;obtain⟨z,hz⟩:∃z,shN fs.length M0.length (.mk k nn s l)=z:=⟨_,rfl⟩
 rw[hz]at cs;have HZ:=Zh hz;go_wp2_with fail;refine cs.mono ?_;rintro e w3 ⟨rfl,hA⟩;have zA:Hi (Below w1.heap.size w1 w3):=Je uA.o hA
 cases z with
 |false=>
  have O0:q=false:=by rw[<-HQ.o,HZ.o];rfl
  subst O0;go_wp2;go_ret;exact⟨rfl,B0.o _ zA.o⟩
 |true=>
 have cA:Hi (∀W,Below w1.heap.size w1 W->RfI fs fa fc M0 (.slice va M0.length vc) (.mk k nn s l) #[Iv k,Iv nn,Sv s,.slice ad l.length cc] W):=λW hW=>⟨(yA.o W hW).2.1,(yA.o W hW).2.2,(yA.o W hW).1,HZ.o,j4.o.1,eA.o⟩
 obtain⟨b0,b1,b2,b3⟩:=FF.o _ zA.o;have ct:=QeR fs fa fc _ M0 _ _ _ w3 zzl (cA.o _ zA.o) pA.o;obtain⟨z2,aA⟩:∃z,decide ((ofN (fs.map Qas) M0 (utN (.mk k nn s l))).2=[])=z:=⟨_,rfl⟩
 rw[aA]at ct;have S5:=Zh aA;go_wp2_with fail;refine ct.mono ?_;rintro e w4 ⟨rfl,gA⟩;have vA:Hi (Below w1.heap.size w1 w4):=Je zA.o gA
 cases z2 with
 |false=>
  have O0:q=false:=by rw[<-HQ.o,S5.o];simp
  subst O0;go_wp2;go_ret;exact⟨rfl,B0.o _ vA.o⟩
 |true=>
 obtain⟨b0,b1,b2,b3⟩:=FF.o _ vA.o;have cy:=QcG fs fa fc _ M0 _ _ _ w4 zzl (cA.o _ vA.o);obtain⟨ty,bA⟩:∃z,(ofN (fs.map Qas) M0 (utN (.mk k nn s l))).1=z:=⟨_,rfl⟩
 unfold tyE at cy;rw[bA]at cy;have qA:=Zh bA;go_wp2_with fail;refine cy.mono ?_;rintro e w5 ⟨rfl,C3⟩;have mA:Hi (Below w1.heap.size w1 w5):=Je vA.o C3
 have rA:(ty==t)=q:=by
  have h:=HQ.o;rw[HZ.o,S5.o,qA.o,Bool.true_and,Bool.true_and]at h;rw[<-h];rfl
 go_wp2;go_ret;exact⟨rfl,B0.o _ mA.o⟩
def FnC.stay{w W:World}{b o:Nat}{f:FnM}{pa:Option Addr}{pc:Nat}{da:Option Addr}{dc:Nat}(h:FnC w b o f pa pc da dc)(hW:Bel w W):(W.cell? ⟨b,o,none⟩=some (.string (bs f.name))/\W.cell? ⟨b,o+1,none⟩=some (.slice pa f.params.length pc)/\W.cell? ⟨b,o+2,none⟩=some (Iv f.result))/\Qbc W (In W) f.params (.slice pa f.params.length pc):=
 ⟨⟨(hW.cell (p:=⟨b,o,none⟩) h.blt).trans h.c0,(hW.cell (p:=⟨b,o+1,none⟩) h.blt).trans h.c1,(hW.cell (p:=⟨b,o+2,none⟩) h.blt).trans h.c2⟩,h.nums.up hW⟩
def Qes(seen:List By)(f:FnM)(l:List FnM):QaZ seen (f::l)=(Qbd f.name&&!decide (f.name∈seen)&&QaJ f.result&&f.params.all QaJ&&QaZ (seen++[f.name]) l):=rfl
def QbD(t:Int):QaJ t=true↔0<=t/\t<=1:=by
 unfold QaJ;rw[Bool.or_eq_true,beq_iff_eq,beq_iff_eq];omega
theorem zBp{P:Prop}(h:P:=by
  have O0:q=false:=by
   have ht:f.params.all QaJ=false:=by
    cases h:f.params.all QaJ with
    |false=>rfl
    |true=>
     have h2:=(QbD p).1 (List.all_eq_true.1 h p (mem_of_getElem? nA.o));omega
   rw[<-D5.o,ht];simp
  subst O0;go_wp2;go_ret;exact⟨rfl,uA.o⟩):P:=h
theorem zBt{P:Prop}(h:P:=by
  have O0:q=false:=by
   have ht:QaJ f.result=false:=by cases h:QaJ f.result with|false=>rfl|true=>have:=(QbD _).1 h;omega
   rw[<-D5.o,ht];simp
  subst O0;go_wp2;go_ret;exact⟨rfl,vA.o⟩):P:=h
def Qgr(fs:List FnM)(fa:Option Addr)(fc:Nat)(w:World)(hF:QbU w (.slice fa fs.length fc) fs)(hn:fs.length<=1000000)(cA:∀f∈fs,f.name.length<=9223372036854775807/\f.params.length<=1000000):
  Calls prog 83 #[.slice fa fs.length fc] w (QbL w (.bool (QaZ [] fs))):=by
 obtain⟨q,hq⟩:∃q,QaZ [] fs=q:=⟨_,rfl⟩
 rw[hq];have HQ:Hi (QaZ ((fs.take 0).map (·.name)) (fs.drop 0)=q):=hq;have dB:=Zh hF;have mB:=Zh cA;have bB:Hi (Below w.heap.size w w):=zzb;go_enter func83,ntmps83;go_wp2_with fail;go_loopg [3] fs.length λg v3 wr=>∃i:Nat,g+i=fs.length/\v3=Iv i/\Hi (Below w.heap.size w wr/\QaZ ((fs.take i).map (·.name)) (fs.drop i)=q)
 case atStart=>exact⟨0,rfl,rfl,bB.o,HQ.o⟩
 case round=>
 obtain⟨wl,rfl⟩:=zG wr
 obtain⟨i,hg,rfl,hz⟩:=hrel;have HB:=Zh hz.o.1;have HQ:=Zh hz.o.2
 by_cases hi:i<fs.length
 ·have hil:(i:Int)<(fs.length:Int):=zo
  have dil:decide ((i:Int)<(fs.length:Int))=true:=zE hil;have rA:decide (i<fs.length)=true:=zE hi;have wk:=zI i;obtain⟨f,hf⟩:∃f,fs[i]?=some f:=⟨fs[i],getElem?_eq_getElem hi⟩
  have yA:fs.drop i=f::fs.drop (i+1):=by
   rw[List.drop_eq_getElem_cons hi];rw[getElem?_eq_getElem hi]at hf;rw[Option.some.inj hf]
  have Q4:=HQ.o;rw[yA,Qes]at Q4;have D5:=Zh Q4;have iB:Hi ((fs.take (i+1)).map (·.name)=(fs.take i).map (·.name)++[f.name]):=by rw[Hi,List.take_add_one,hf];simp
  have hA:=mB.o f (mem_of_getElem? hf);have rB:=hA.2;obtain⟨bf,of,pa,pc,da,dc,G3,hfc⟩:=dB.o.get hf;subst G3;have gA:Hi (∀W,Bel w W->(W.cell? ⟨bf,of+i*7,none⟩=some (.string (bs f.name))/\W.cell? ⟨bf,of+i*7+1,none⟩=some (.slice pa f.params.length pc)/\W.cell? ⟨bf,of+i*7+2,none⟩=some (Iv f.result))/\Qbc W (In W) f.params (.slice pa f.params.length pc)):=λW hW=>hfc.stay hW
  obtain⟨⟨c0,c1,c2⟩,_⟩:=gA.o wl HB.o;have ci:=QhI f.name wl hA.1;obtain⟨z,hz⟩:∃z,Qbd f.name=z:=⟨_,rfl⟩
  rw[hz]at ci;have HZ:=Zh hz;have HG:=Zh (And.intro hg hi);have HF:=Zh hf;go_wp2_with fail;refine ci.mono ?_;rintro e w2 ⟨rfl,I0⟩;have vA:Hi (Below w.heap.size w w2):=Je HB.o I0;obtain⟨⟨c0,c1,c2⟩,_⟩:=gA.o w2 vA.o
  cases z with
  |false=>
   have O0:q=false:=by rw[<-D5.o,HZ.o];rfl
   subst O0;go_wp2;go_ret;exact⟨rfl,vA.o⟩
  |true=>
  by_cases V8:f.result<0
  ·have d0:decide (f.result<0)=true:=zE V8
   exact zBt
  have d0:decide (f.result<0)=false:=zF V8
  by_cases W8:1<f.result
  ·have d1:decide (1<f.result)=true:=zE W8
   exact zBt
  have d1:decide (1<f.result)=false:=zF W8;have kB:Hi (QaJ f.result=true):=(QbD _).2 zo;go_wp2_with fail;go_loopg [4] f.params.length λg v4 wr=>∃k:Nat,g+k=f.params.length/\v4=Iv k/\Hi (Below w.heap.size w wr/\(f.params.take k).all QaJ=true)
  case atStart=>exact⟨0,rfl,rfl,vA.o,rfl⟩
  case round=>
  obtain⟨wm,rfl⟩:=zG wr
  obtain⟨k,tA,rfl,xB⟩:=hrel;have uA:=Zh xB.o.1;have dA:=Zh xB.o.2;obtain⟨⟨c0,c1,c2⟩,zA⟩:=gA.o wm uA.o
  by_cases hk:k<f.params.length
  ·have eA:(k:Int)<(f.params.length:Int):=zo
   have aB:decide ((k:Int)<(f.params.length:Int))=true:=zE eA;have aA:decide (k<f.params.length)=true:=zE hk;have xC:=zI k;obtain⟨p,hp⟩:∃p,f.params[k]?=some p:=⟨f.params[k],getElem?_eq_getElem hk⟩
   obtain⟨bp,op,pB,_,qB⟩:=zA.get hp;have kA:=pB;subst kA;have cB:=Zh (And.intro tA hk);have nA:=Zh hp
   by_cases hp0:p<0
   ·have e0:decide (p<0)=true:=zE hp0
    exact zBp
   have e0:decide (p<0)=false:=zF hp0
   by_cases E5:1<p
   ·have e1:decide (1<p)=true:=zE E5
    exact zBp
   have e1:decide (1<p)=false:=zF E5
   have mA:Hi ((f.params.take (k+1)).all QaJ=true):=by
    rw[Hi,List.take_add_one,nA.o,List.all_append,dA.o];have:=(QbD p).2 zo;simp[this]
   go_wp2;go_roundg (f.params.length-(k+1))
   case measure=>have:=cB.o;omega
   case rel=>exact⟨k+1,by have:=cB.o;omega,by go_num,uA.o,mA.o⟩
  have eA:¬(k:Int)<(f.params.length:Int):=zo
  have aB:decide ((k:Int)<(f.params.length:Int))=false:=zF eA;have aA:decide (k<f.params.length)=false:=zF hk;have jA:Hi (f.params.all QaJ=true):=by have h:=dA.o;rw[List.take_of_length_le zo]at h;exact h
  go_wp2_with fail;go_loopg [5] i λg v5 wr=>∃k:Nat,g+k=i/\v5=Iv k/\Hi (Below w.heap.size w wr/\∀j,j<k->∀x,fs[j]?=some x->x.name≠f.name)
  case atStart=>exact⟨0,rfl,rfl,uA.o,λj hj=>absurd hj (Nat.not_lt_zero _)⟩
  case round=>
  obtain⟨wn,rfl⟩:=zG wr
  obtain⟨m,uB,rfl,qA⟩:=hrel;have bA:=Zh qA.o.1;have S1:=Zh qA.o.2
  by_cases hm:m<i
  ·have yB:(m:Int)<(i:Int):=zo
   have nB:decide ((m:Int)<(i:Int))=true:=zE yB;have sA:decide (m<i)=true:=zE hm;have sB:=zI m;have tB:(m:Int)<(fs.length:Int):=zo
   obtain⟨x,hx⟩:∃x,fs[m]?=some x:=⟨fs[m]'(by omega),getElem?_eq_getElem _⟩
   obtain⟨bx,ox,_,_,_,_,zB,eB⟩:=dB.o.get hx;injection zB with zB;injection zB with e1 e2;subst e1 e2;have x0:=(eB.stay bA.o).1.1;obtain⟨⟨c0,_,_⟩,_⟩:=gA.o wn bA.o;have u1:=Jk x.name;have u2:=Jk f.name;have iA:=Zh (And.intro uB hm);have HX:=Zh hx;have vB:Hi (Below w.heap.size w wn.drew):=bA.o.drew
   by_cases xA:x.name=f.name
   ·have ee:(x.name==f.name)=true:=beq_iff_eq.2 xA
    have O0:q=false:=by
     have hmem:f.name∈(fs.take i).map (·.name):=List.mem_map.2 ⟨x,mem_of_getElem? (i:=m) (by rw[List.getElem?_take_of_lt (zt iA.o.2)];exact HX.o),xA⟩;rw[<-D5.o,zE hmem];simp
    subst O0;go_upto_region 14 with fail;go_region;go_wp2;go_ret;exact⟨rfl,vB.o⟩
   ·have ee:(x.name==f.name)=false:=zzq xA
    have pA:Hi (∀j,j<m+1->∀y,fs[j]?=some y->y.name≠f.name):=λj hj y hy=>by
     by_cases hjm:j<m
     ·exact S1.o j hjm y hy
     ·obtain rfl:j=m:=zo
      rw[HX.o]at hy;rw[<-Option.some.inj hy];exact xA
    go_upto_region 14 with fail;go_region;go_wp2;go_roundg (i-(m+1))
    case measure=>have:=iA.o;omega
    case rel=>exact⟨m+1,by have:=iA.o;omega,by go_num,vB.o,pA.o⟩
  have yB:¬(m:Int)<(i:Int):=zo
  have nB:decide ((m:Int)<(i:Int))=false:=zF yB;have sA:decide (m<i)=false:=zF hm
  have gB:Hi (QaZ ((fs.take (i+1)).map (·.name)) (fs.drop (i+1))=q):=by
   have cA:f.name∉(fs.take i).map (·.name):=λh=>by
    obtain⟨x,hx,xA⟩:=List.mem_map.1 h;obtain⟨j,hj⟩:=List.mem_iff_getElem?.1 hx
    have jB:j<i:=by
     have:=(List.getElem?_eq_some_iff.1 hj).1;rw[List.length_take]at this;omega
    rw[List.getElem?_take_of_lt jB]at hj;exact S1.o j zo x hj xA
   have h:=D5.o;rw[HZ.o,zF cA,kB.o,jA.o]at h;rw[Hi,iB.o];simpa using h
  go_wp2;go_roundg (fs.length-(i+1))
  case measure=>have:=HG.o;omega
  case rel=>exact⟨i+1,by have:=HG.o;omega,by go_num,bA.o,gB.o⟩
 ·have hil:¬(i:Int)<(fs.length:Int):=zo
  have dil:decide ((i:Int)<(fs.length:Int))=false:=zF hil;have rA:decide (i<fs.length)=false:=zF hi
  have hB:q=true:=by
   have h:=HQ.o;rw[List.drop_of_length_le zo]at h;exact h.symm
  subst hB;go_wp2;go_ret;exact⟨rfl,HB.o⟩
def QeQ:∀(fs:List FnM)(seen:List By),QaZ seen fs=true->∀f∈fs,QaJ f.result=true/\f.params.all QaJ=true
 |[],_,_,f,hf=>absurd hf zp
 |g::l,seen,h,f,hf=>by
  rw[Qes]at h;simp only[Bool.and_eq_true]at h
  rcases List.mem_cons.1 hf with e|e
  ·subst e;exact⟨h.1.1.2,h.1.2⟩
  ·exact QeQ l _ h.2 f e
def Qdk{n:Int}(h:n<0\/3<n):QdU n=false:=by
 unfold QdU
 rcases h with h|h
 ·rw[zF (by omega:¬0<=n)];rfl
 ·rw[zF (by omega:¬n<=3),Bool.and_false]
def QfQ{n:Int}(h0:¬n<0)(h1:¬3<n):QdU n=true:=by
 unfold QdU;rw[zE (by omega:0<=n),zE (by omega:n<=3)];rfl
def rfF(r:Qah)(f:FnM):Bool:=Qct (r.funcs.map Qas) f.params f.body f.result
def rfC(r:Qah)(c:ClM):Bool:=QdU c.action&&QbM c.reason&&Qct (r.funcs.map Qas) [] c.cond 1
def Qho(r:Qah):Qfw r=(QaZ [] r.funcs&&QdU r.action&&r.funcs.all (rfF r)&&r.clauses.all (rfC r)):=rfl
def Qip(w:World):Qbc w (In w) [] (.slice none ([]:List Int).length 0):=by
 exact⟨none,0,rfl,le_refl _,.inl rfl⟩
def QjF{fs:List FnM}{M0:List Int}(h:∀f∈fs,QaJ f.result=true/\f.params.all QaJ=true)(hv:M0.all QaJ=true):NnT fs M0:=by
 refine⟨λg hg=>?_,λv hv2=>((QbD v).1 (List.all_eq_true.1 hv v hv2)).1⟩;obtain⟨f,hf,rfl⟩:=List.mem_map.1 hg;exact⟨((QbD _).1 (h f hf).1).1,λp hp=>((QbD p).1 (List.all_eq_true.1 (h f hf).2 p hp)).1⟩
def QhF(r:Qah)(c:Array Value)(w:World)(hx:QaV w (In w) r c)(hz:RSz r):Calls prog 43 #[.agg c] w (QbL w (.bool (Qfw r))):=by
 obtain⟨fa,fc,ca,cc,rfl,hF,hC⟩:=hx.parts;obtain⟨q,hq⟩:∃q,Qfw r=q:=⟨_,rfl⟩
 rw[hq];rw[Qho]at hq;have HQ:=Zh hq;have A0:Below w.heap.size w (w.alloc (.cells #[.slice fa r.funcs.length fc,.slice ca r.clauses.length cc,Iv r.action] 30)):=zzb.alloc zzl _;have S0:=Zh (zzw w (.cells #[.slice fa r.funcs.length fc,.slice ca r.clauses.length cc,Iv r.action] 30));have B0:Hi (∀W,Below (w.alloc (.cells #[.slice fa r.funcs.length fc,.slice ca r.clauses.length cc,Iv r.action] 30)).heap.size (w.alloc (.cells #[.slice fa r.funcs.length fc,.slice ca r.clauses.length cc,Iv r.action] 30)) W->Bel w W):=λW hW=>Je A0 hW
 have xB:=Zh hF;have R9:=Zh hC;have HZ:=Zh hz;have cB:=hz.nf;have gB:=hz.nc;go_enter func43,ntmps43;go_upto_region 1 with fail;have S3:Hi (w.heap.size<(w.alloc (.cells #[.slice fa r.funcs.length fc,.slice ca r.clauses.length cc,Iv r.action] 30)).heap.size):=Jb S0.o;generalize World.alloc w _=w1 at*;generalize w.heap.size=eb at*
 have FF:Hi (∀W,Below w1.heap.size w1 W->W.cell? ⟨eb,0,none⟩=some (.slice fa r.funcs.length fc)/\W.cell? ⟨eb,1,none⟩=some (.slice ca r.clauses.length cc)/\W.cell? ⟨eb,2,none⟩=some (Iv r.action)):=by
  exact zBl
 have tA:Hi (Below w1.heap.size w1 w1):=zzb;have nA:Hi (∀W,Below w1.heap.size w1 W->QbU W (.slice fa r.funcs.length fc) r.funcs):=λW hW=>xB.o.up (B0.o _ hW)
 have vB:Hi (∀W,Below w1.heap.size w1 W->Qeh W (.slice ca r.clauses.length cc) r.clauses):=λW hW=>R9.o.up (B0.o _ hW)
 obtain⟨b0,b1,b2⟩:=FF.o _ tA.o;have cs:=Qgr r.funcs fa fc w1 (nA.o _ tA.o) cB λf hf=>⟨(HZ.o.fn f hf).1,(HZ.o.fn f hf).2.1⟩;obtain⟨z,hz⟩:∃z,QaZ [] r.funcs=z:=⟨_,rfl⟩
 rw[hz]at cs;have mA:=Zh hz;go_wp2_with fail;refine cs.mono ?_;rintro e w2 ⟨rfl,I0⟩;have cA:Hi (Below w1.heap.size w1 w2):=I0;obtain⟨b0,b1,b2⟩:=FF.o _ cA.o
 cases z with
 |false=>
  have O0:q=false:=by rw[<-HQ.o,mA.o];rfl
  subst O0;go_wp2;go_ret;exact⟨rfl,B0.o _ cA.o⟩
 |true=>
 by_cases V8:r.action<0
 ·have d0:decide (r.action<0)=true:=zE V8;have O0:q=false:=by rw[<-HQ.o,Qdk (.inl V8)];simp
  subst O0;go_wp2;go_ret;exact⟨rfl,B0.o _ cA.o⟩
 have d0:decide (r.action<0)=false:=zF V8
 by_cases W8:3<r.action
 ·have d1:decide (3<r.action)=true:=zE W8;have O0:q=false:=by rw[<-HQ.o,Qdk (.inr W8)];simp
  subst O0;go_wp2;go_ret;exact⟨rfl,B0.o _ cA.o⟩
 have d1:decide (3<r.action)=false:=zF W8
 replace HQ:Hi ((r.funcs.all (rfF r)&&r.clauses.all (rfC r))=q):=by
  have h:=HQ.o;rw[mA.o,QfQ V8 W8,Bool.true_and,Bool.true_and]at h;exact h
 have rA:Hi (∀f∈r.funcs,QaJ f.result=true/\f.params.all QaJ=true):=QeQ _ _ mA.o;go_wp2_with fail;go_loopg [3] r.funcs.length λg v2 wr=>∃i:Nat,g+i=r.funcs.length/\v2=Iv i/\Hi (Below w1.heap.size w1 wr/\(r.funcs.take i).all (rfF r)=true)
 case atStart=>exact⟨0,rfl,rfl,cA.o,rfl⟩
 case round=>
 obtain⟨wl,rfl⟩:=zG wr
 obtain⟨i,hg,rfl,hzz⟩:=hrel;have HB:=Zh hzz.o.1;have uA:=Zh hzz.o.2;obtain⟨b0,b1,b2⟩:=FF.o _ HB.o
 by_cases hi:i<r.funcs.length
 ·have hil:(i:Int)<(r.funcs.length:Int):=zo
  have dil:decide ((i:Int)<(r.funcs.length:Int))=true:=zE hil;have hA:decide (i<r.funcs.length)=true:=zE hi;have wk:=zI i;obtain⟨f,hf⟩:∃f,r.funcs[i]?=some f:=⟨r.funcs[i],getElem?_eq_getElem hi⟩
  have hmem:=mem_of_getElem? hf;obtain⟨hnl,gA,kA,dA⟩:=HZ.o.fn f hmem;obtain⟨bf,of,pa,pc,da,dc,G3,hfc⟩:=(nA.o _ HB.o).get hf;have c0:=hfc.c0;have c1:=hfc.c1;have c2:=hfc.c2;have c3:=hfc.c3;have c4:=hfc.c4;have c5:=hfc.c5;have c6:=hfc.c6;have zA:Below wl.heap.size wl (wl.alloc (.cells #[.string (bs f.name),.slice pa f.params.length pc,Iv f.result,Iv f.body.kind,Iv f.body.num,.string (bs f.body.name),.slice da f.body.kids.length dc] 79)):=zzb.alloc zzl _;have yA:Hi (Below w1.heap.size w1 (wl.alloc (.cells #[.string (bs f.name),.slice pa f.params.length pc,Iv f.result,Iv f.body.kind,Iv f.body.num,.string (bs f.body.name),.slice da f.body.kids.length dc] 79))):=Je HB.o zA;have xA:=Zh (zzw wl (.cells #[.string (bs f.name),.slice pa f.params.length pc,Iv f.result,Iv f.body.kind,Iv f.body.num,.string (bs f.body.name),.slice da f.body.kids.length dc] 79));have sA:Hi (XAt (wl.alloc (.cells #[.string (bs f.name),.slice pa f.params.length pc,Iv f.result,Iv f.body.kind,Iv f.body.num,.string (bs f.body.name),.slice da f.body.kids.length dc] 79)) (In (wl.alloc (.cells #[.string (bs f.name),.slice pa f.params.length pc,Iv f.result,Iv f.body.kind,Iv f.body.num,.string (bs f.body.name),.slice da f.body.kids.length dc] 79))) f.body #[Iv f.body.kind,Iv f.body.num,.string (bs f.body.name),.slice da f.body.kids.length dc]):=XAt.keep (λq hq=>zA.block q hq) (λq hq=>In.up zA hq) _ _ hfc.body;have bB:Hi (Qbc (wl.alloc (.cells #[.string (bs f.name),.slice pa f.params.length pc,Iv f.result,Iv f.body.kind,Iv f.body.num,.string (bs f.body.name),.slice da f.body.kids.length dc] 79)) (In (wl.alloc (.cells #[.string (bs f.name),.slice pa f.params.length pc,Iv f.result,Iv f.body.kind,Iv f.body.num,.string (bs f.body.name),.slice da f.body.kids.length dc] 79))) f.params (.slice pa f.params.length pc)):=hfc.nums.up zA;have aA:=Zh (And.intro gA (And.intro kA dA));have HG:=Zh (And.intro hg hi);have HF:=Zh hf;subst G3;go_upto_region 7 with fail;have aB:Hi (wl.heap.size<(wl.alloc (.cells #[.string (bs f.name),.slice pa f.params.length pc,Iv f.result,Iv f.body.kind,Iv f.body.num,.string (bs f.body.name),.slice da f.body.kids.length dc] 79)).heap.size):=Jb xA.o;generalize World.alloc wl _=w3 at*;generalize wl.heap.size=cb at*;obtain⟨b0,b1,b2⟩:=FF.o _ yA.o;have c0:=Ja xA.o 0;have c1:=Ja xA.o 1;have c2:=Ja xA.o 2;have c3:=Ja xA.o 3;have c4:=Ja xA.o 4;have c5:=Ja xA.o 5;have c6:=Ja xA.o 6;simp only[List.getElem?_toArray,List.getElem?_cons_succ,List.getElem?_cons_zero]at c0 c1 c2 c3 c4 c5 c6;have cf:=QfH r.funcs _ fc f.params pa pc f.body _ f.result w3 (nA.o _ yA.o) bB.o sA.o (zt aA.o) aA.o.2.2 aA.o.2.1 (QjF rA.o (rA.o f (mem_of_getElem? HF.o)).2);obtain⟨z,hz⟩:∃z,rfF r f=z:=⟨_,rfl⟩
  have bA:=hz;unfold rfF at bA;rw[bA]at cf;have iA:=Zh hz;go_wp2_with fail;refine cf.mono ?_;rintro e w4 ⟨rfl,jA⟩;have eA:Hi (Below w1.heap.size w1 w4):=Je yA.o jA
  cases z with
  |false=>
   have O0:q=false:=by rw[<-HQ.o,KQ HF.o iA.o];rfl
   subst O0;go_wp2;go_ret;exact⟨rfl,B0.o _ eA.o⟩
  |true=>
   have vA:Hi ((r.funcs.take (i+1)).all (rfF r)=true):=KK uA.o HF.o iA.o;go_wp2;go_roundg (r.funcs.length-(i+1))
   case measure=>have:=HG.o;omega
   case rel=>exact⟨i+1,by have:=HG.o;omega,by go_num,eA.o,vA.o⟩
 have hil:¬(i:Int)<(r.funcs.length:Int):=zo
 have dil:decide ((i:Int)<(r.funcs.length:Int))=false:=zF hil;have hA:decide (i<r.funcs.length)=false:=zF hi
 replace HQ:Hi (r.clauses.all (rfC r)=q):=by
  have h:=HQ.o;have h2:=uA.o;rw[List.take_of_length_le zo]at h2;rw[h2,Bool.true_and]at h;exact h
 go_wp2_with fail;go_loopg [5] r.clauses.length λg v5 wr=>∃j:Nat,g+j=r.clauses.length/\v5=Iv j/\Hi (Below w1.heap.size w1 wr/\(r.clauses.take j).all (rfC r)=true)
 case atStart=>exact⟨0,rfl,rfl,HB.o,rfl⟩
 case round=>
 obtain⟨wm,rfl⟩:=zG wr
 obtain⟨j,hg,rfl,hzz⟩:=hrel;have HB:=Zh hzz.o.1;have uA:=Zh hzz.o.2;obtain⟨b0,b1,b2⟩:=FF.o _ HB.o
 by_cases hj:j<r.clauses.length
 ·have pA:(j:Int)<(r.clauses.length:Int):=zo
  have eB:decide ((j:Int)<(r.clauses.length:Int))=true:=zE pA;have qA:decide (j<r.clauses.length)=true:=zE hj;have wk:=zI j;obtain⟨m,hm⟩:∃m,r.clauses[j]?=some m:=⟨r.clauses[j],getElem?_eq_getElem hj⟩
  have hmem:=mem_of_getElem? hm;obtain⟨kA,dA,yB⟩:=HZ.o.cl m hmem;obtain⟨bf,of,da,dc,zB,hfc⟩:=(vB.o _ HB.o).get hm;have c0:=hfc.c0;have c1:=hfc.c1;have c2:=hfc.c2;have c3:=hfc.c3;have c4:=hfc.c4;have c5:=hfc.c5;have zA:Below wm.heap.size wm (wm.alloc (.cells #[Iv m.cond.kind,Iv m.cond.num,.string (bs m.cond.name),.slice da m.cond.kids.length dc,Iv m.action,.string (bs m.reason)] 62)):=zzb.alloc zzl _;have yA:Hi (Below w1.heap.size w1 (wm.alloc (.cells #[Iv m.cond.kind,Iv m.cond.num,.string (bs m.cond.name),.slice da m.cond.kids.length dc,Iv m.action,.string (bs m.reason)] 62))):=Je HB.o zA;have xA:=Zh (zzw wm (.cells #[Iv m.cond.kind,Iv m.cond.num,.string (bs m.cond.name),.slice da m.cond.kids.length dc,Iv m.action,.string (bs m.reason)] 62));have sA:Hi (XAt (wm.alloc (.cells #[Iv m.cond.kind,Iv m.cond.num,.string (bs m.cond.name),.slice da m.cond.kids.length dc,Iv m.action,.string (bs m.reason)] 62)) (In (wm.alloc (.cells #[Iv m.cond.kind,Iv m.cond.num,.string (bs m.cond.name),.slice da m.cond.kids.length dc,Iv m.action,.string (bs m.reason)] 62))) m.cond #[Iv m.cond.kind,Iv m.cond.num,.string (bs m.cond.name),.slice da m.cond.kids.length dc]):=XAt.keep (λq hq=>zA.block q hq) (λq hq=>In.up zA hq) _ _ hfc.cond;have aA:=Zh (And.intro kA dA);have HG:=Zh (And.intro hg hj);have HF:=Zh hm;subst zB;have ct:=Qez m.reason (wm.alloc (.cells #[Iv m.cond.kind,Iv m.cond.num,.string (bs m.cond.name),.slice da m.cond.kids.length dc,Iv m.action,.string (bs m.reason)] 62)) yB;go_upto_region 13 with fail;have aB:Hi (wm.heap.size<(wm.alloc (.cells #[Iv m.cond.kind,Iv m.cond.num,.string (bs m.cond.name),.slice da m.cond.kids.length dc,Iv m.action,.string (bs m.reason)] 62)).heap.size):=Jb xA.o;generalize World.alloc wm _=w3 at*;generalize wm.heap.size=cb at*;obtain⟨b0,b1,b2⟩:=FF.o _ yA.o;have c0:=Ja xA.o 0;have c1:=Ja xA.o 1;have c2:=Ja xA.o 2;have c3:=Ja xA.o 3;have c4:=Ja xA.o 4;have c5:=Ja xA.o 5;simp only[List.getElem?_toArray,List.getElem?_cons_succ,List.getElem?_cons_zero]at c0 c1 c2 c3 c4 c5
  by_cases V8:m.action<0
  ·have d0:decide (m.action<0)=true:=zE V8;have O0:q=false:=by rw[<-HQ.o,KQ HF.o (by unfold rfC;rw[Qdk (.inl V8)];rfl)]
   subst O0;go_wp2;go_ret;exact⟨rfl,B0.o _ yA.o⟩
  have d0:decide (m.action<0)=false:=zF V8
  by_cases W8:3<m.action
  ·have d1:decide (3<m.action)=true:=zE W8;have O0:q=false:=by rw[<-HQ.o,KQ HF.o (by unfold rfC;rw[Qdk (.inr W8)];rfl)]
   subst O0;go_wp2;go_ret;exact⟨rfl,B0.o _ yA.o⟩
  have d1:decide (3<m.action)=false:=zF W8;have dB:Hi (QdU m.action=true):=QfQ V8 W8;obtain⟨t,ht⟩:∃t,QbM m.reason=t:=⟨_,rfl⟩
  rw[ht]at ct;have HT:=Zh ht;go_wp2_with fail;refine ct.mono ?_;rintro e we ⟨rfl,rfl⟩
  cases t with
  |false=>
   have O0:q=false:=by rw[<-HQ.o,KQ HF.o (by unfold rfC;rw[HT.o,Bool.and_false];rfl)]
   subst O0;go_wp2;go_ret;exact⟨rfl,B0.o _ yA.o⟩
  |true=>
  have cf:=QfH r.funcs fa fc [] none 0 m.cond _ 1 w3 (nA.o _ yA.o) (Qip w3) sA.o (by have:=aA.o.2;rw[List.length_nil];omega) aA.o.2 aA.o.1 (QjF rA.o rfl);obtain⟨z,hz⟩:∃z,rfC r m=z:=⟨_,rfl⟩
  have bA:Qct (r.funcs.map Qas) [] m.cond 1=z:=by rw[<-hz];unfold rfC;rw[dB.o,HT.o];rfl
  rw[bA]at cf;have iA:=Zh hz;go_wp2_with fail;refine cf.mono ?_;rintro e w4 ⟨rfl,jA⟩;have eA:Hi (Below w1.heap.size w1 w4):=Je yA.o jA
  cases z with
  |false=>
   have O0:q=false:=by rw[<-HQ.o,KQ HF.o iA.o]
   subst O0;go_wp2;go_ret;exact⟨rfl,B0.o _ eA.o⟩
  |true=>
   have vA:Hi ((r.clauses.take (j+1)).all (rfC r)=true):=KK uA.o HF.o iA.o;go_wp2;go_roundg (r.clauses.length-(j+1))
   case measure=>have:=HG.o;omega
   case rel=>exact⟨j+1,by have:=HG.o;omega,by go_num,eA.o,vA.o⟩
 have pA:¬(j:Int)<(r.clauses.length:Int):=zo
 have eB:decide ((j:Int)<(r.clauses.length:Int))=false:=zF pA;have qA:decide (j<r.clauses.length)=false:=zF hj
 have uB:q=true:=by
  have h2:=uA.o;rw[List.take_of_length_le zo]at h2;rw[<-HQ.o,h2]
 subst uB;go_wp2;go_ret;exact⟨rfl,B0.o _ HB.o⟩
def Qbb(n:Int)(w:World):Calls prog 60 #[Iv n] w (Qbj (.bool (Qer n)) w):=by
 unfold Qer
 by_cases h0:n<0
 ·have d0:decide (0<=n)=false:=zF zo;rw[d0];go_enter func60,ntmps60;go_wp2;go_ret;exact⟨rfl,rfl⟩
 have d0:decide (0<=n)=true:=zE zo
 by_cases h1:n<=1125899906842624
 ·have d1:decide (n<=1125899906842624)=true:=zE h1;rw[d0,d1];go_enter func60,ntmps60;go_wp2;go_ret;exact⟨rfl,rfl⟩
 have d1:decide (n<=1125899906842624)=false:=zF h1;rw[d0,d1];go_enter func60,ntmps60;go_wp2;go_ret;exact⟨rfl,rfl⟩
def QcL{P:Program}{f:FuncId}{args:Array Value}{w:World}{a n:Nat}{v:Value}(h:Calls P f args (w.drewN (a+n)) (Qbj v (w.drewN (a+n)))):
  Calls P f args (w.drewN (a+n)) λe w''=>e=.returned v/\∃m,w''=w.drewN (a+m):=h.mono λ_ _ ⟨he,hm⟩=>⟨he,n,hm.symm⟩
def Qcp{P:Program}{f:FuncId}{args:Array Value}{w:World}{n:Nat}{v:Value}(h:Calls P f args (w.drewN n) (Qbj v (w.drewN n))):
  Calls P f args (w.drewN n) λe w''=>e=.returned v/\∃m,w''=w.drewN m:=h.mono λ_ _ ⟨he,hm⟩=>⟨he,n,hm.symm⟩
def okL(pv:Option By)(nm:By)(ct:Int):Bool:=decide (1<=ct)&&decide (ct<=1125899906842624)&&(match pv with|none=>true|some q=>ltB q nm)
def QhT(l:List By):Qbx none l=Qbx (Qcu l 1) (l.drop 1):=by
 cases l with
 |nil=>rfl
 |cons a l=>rfl
theorem zBm{P:Prop}(h:P:=by
  subst O0;clear HQ;have E0:=Zh (B0.o _ yA.o);go_wp2;go_ret;exact⟨rfl,E0.o⟩):P:=h
theorem zBo{P:Prop}(h:P:=by
  go_quiet (first|(with_reducible exact QcL (cn _))|(with_reducible exact Qcp (cn _)));go_wp2;go_meet;exact⟨rfl,J2 vA _⟩):P:=h
def QeS(F:Qav)(lv wv:Value)(w:World)(hz:FSz F)(hl:Qbm w lv F.labels)(hw:QaF w wv F.words):Calls prog 30 #[.agg (QaI F lv wv)] w (QbL w (.bool (Qbs F))):=by
 obtain⟨la,lc,rfl,_⟩:=hl.form;obtain⟨wa,zA,rfl,_⟩:=hw.form;obtain⟨q,hq⟩:∃q,Qbs F=q:=⟨_,rfl⟩
 rw[hq];have HQ:Hi ((([F.likes,F.boosts,F.replies,F.reports,F.age,F.home,F.scope,F.length]:List Int).all Qer&&QaE none F.labels&&Qbx none F.words)=q):=hq;unfold QaI;have iA:Below w.heap.size w (w.alloc (.cells #[.slice la F.labels.length lc,Iv F.likes,Iv F.boosts,Iv F.replies,Iv F.reports,Iv F.age,Iv F.home,Iv F.scope,Iv F.length,.bool F.follows,.bool F.reply,.slice wa F.words.length zA] 25)):=zzb.alloc zzl _;have S0:=Zh (zzw w (.cells #[.slice la F.labels.length lc,Iv F.likes,Iv F.boosts,Iv F.replies,Iv F.reports,Iv F.age,Iv F.home,Iv F.scope,Iv F.length,.bool F.follows,.bool F.reply,.slice wa F.words.length zA] 25));have B0:Hi (∀W,Below (w.alloc (.cells #[.slice la F.labels.length lc,Iv F.likes,Iv F.boosts,Iv F.replies,Iv F.reports,Iv F.age,Iv F.home,Iv F.scope,Iv F.length,.bool F.follows,.bool F.reply,.slice wa F.words.length zA] 25)).heap.size (w.alloc (.cells #[.slice la F.labels.length lc,Iv F.likes,Iv F.boosts,Iv F.replies,Iv F.reports,Iv F.age,Iv F.home,Iv F.scope,Iv F.length,.bool F.follows,.bool F.reply,.slice wa F.words.length zA] 25)) W->Bel w W):=λW hW=>Je iA hW
 have yB:Hi (Qbm (w.alloc (.cells #[.slice la F.labels.length lc,Iv F.likes,Iv F.boosts,Iv F.replies,Iv F.reports,Iv F.age,Iv F.home,Iv F.scope,Iv F.length,.bool F.follows,.bool F.reply,.slice wa F.words.length zA] 25)) (.slice la F.labels.length lc) F.labels):=hl.up iA;have vB:Hi (QaF (w.alloc (.cells #[.slice la F.labels.length lc,Iv F.likes,Iv F.boosts,Iv F.replies,Iv F.reports,Iv F.age,Iv F.home,Iv F.scope,Iv F.length,.bool F.follows,.bool F.reply,.slice wa F.words.length zA] 25)) (.slice wa F.words.length zA) F.words):=hw.up iA;have jB:=hz.nl;have nB:=hz.nw;clear iA hl hw hq hz;go_enter func30,ntmps30;go_upto_region 1 with fail;have S3:Hi (w.heap.size<(w.alloc (.cells #[.slice la F.labels.length lc,Iv F.likes,Iv F.boosts,Iv F.replies,Iv F.reports,Iv F.age,Iv F.home,Iv F.scope,Iv F.length,.bool F.follows,.bool F.reply,.slice wa F.words.length zA] 25)).heap.size):=Jb S0.o;generalize World.alloc w _=w1 at*;generalize w.heap.size=eb at*
 have FF:Hi (∀W,Below w1.heap.size w1 W->W.cell? ⟨eb,0,none⟩=some (.slice la F.labels.length lc)/\W.cell? ⟨eb,1,none⟩=some (Iv F.likes)/\W.cell? ⟨eb,2,none⟩=some (Iv F.boosts)/\W.cell? ⟨eb,3,none⟩=some (Iv F.replies)/\W.cell? ⟨eb,4,none⟩=some (Iv F.reports)/\W.cell? ⟨eb,5,none⟩=some (Iv F.age)/\W.cell? ⟨eb,6,none⟩=some (Iv F.home)/\W.cell? ⟨eb,7,none⟩=some (Iv F.scope)/\W.cell? ⟨eb,8,none⟩=some (Iv F.length)/\W.cell? ⟨eb,9,none⟩=some (.bool F.follows)/\W.cell? ⟨eb,10,none⟩=some (.bool F.reply)/\W.cell? ⟨eb,11,none⟩=some (.slice wa F.words.length zA)):=by
  intro W hW;have hh:=(hW.block _ S3.o).trans S0.o;refine⟨?_,?_,?_,?_,?_,?_,?_,?_,?_,?_,?_,?_⟩<;>(rw[Ja hh];rfl)
 have yA:Hi (Below w1.heap.size w1 w1):=zzb;obtain⟨b0,b1,b2,b3,b4,b5,b6,b7,b8,b9,b10,b11⟩:=FF.o _ yA.o;have cn:=Qbb F.likes w1;obtain⟨z,hz⟩:∃z,Qer F.likes=z:=⟨_,rfl⟩
 rw[hz]at cn;have jA:=Zh hz;clear hz;go_wp2_with fail;refine cn.mono ?_;rintro e we ⟨rfl,rfl⟩;clear cn
 cases z with
 |false=>
  have O0:q=false:=by
   rw[<-HQ.o];simp only[all_cons,jA.o,Bool.false_and,Bool.and_false]
  exact zBm
 |true=>
 have cn:=Qbb F.boosts w1;obtain⟨z,hz⟩:∃z,Qer F.boosts=z:=⟨_,rfl⟩
 rw[hz]at cn;have rA:=Zh hz;clear hz;go_wp2_with fail;refine cn.mono ?_;rintro e we ⟨rfl,rfl⟩;clear cn
 cases z with
 |false=>
  have O0:q=false:=by
   rw[<-HQ.o];simp only[all_cons,rA.o,Bool.false_and,Bool.and_false]
  exact zBm
 |true=>
 have cn:=Qbb F.replies w1;obtain⟨z,hz⟩:∃z,Qer F.replies=z:=⟨_,rfl⟩
 rw[hz]at cn;have pA:=Zh hz;clear hz;go_wp2_with fail;refine cn.mono ?_;rintro e we ⟨rfl,rfl⟩;clear cn
 cases z with
 |false=>
  have O0:q=false:=by
   rw[<-HQ.o];simp only[all_cons,pA.o,Bool.false_and,Bool.and_false]
  exact zBm
 |true=>
 have cn:=Qbb F.reports w1;obtain⟨z,hz⟩:∃z,Qer F.reports=z:=⟨_,rfl⟩
 rw[hz]at cn;have sA:=Zh hz;clear hz;go_wp2_with fail;refine cn.mono ?_;rintro e we ⟨rfl,rfl⟩;clear cn
 cases z with
 |false=>
  have O0:q=false:=by
   rw[<-HQ.o];simp only[all_cons,sA.o,Bool.false_and,Bool.and_false]
  exact zBm
 |true=>
 have cn:=Qbb F.age w1;obtain⟨z,hz⟩:∃z,Qer F.age=z:=⟨_,rfl⟩
 rw[hz]at cn;have qA:=Zh hz;clear hz;go_wp2_with fail;refine cn.mono ?_;rintro e we ⟨rfl,rfl⟩;clear cn
 cases z with
 |false=>
  have O0:q=false:=by
   rw[<-HQ.o];simp only[all_cons,qA.o,Bool.false_and,Bool.and_false]
  exact zBm
 |true=>
 have cn:=Qbb F.home w1;obtain⟨z,hz⟩:∃z,Qer F.home=z:=⟨_,rfl⟩
 rw[hz]at cn;have mA:=Zh hz;clear hz;go_wp2_with fail;refine cn.mono ?_;rintro e we ⟨rfl,rfl⟩;clear cn
 cases z with
 |false=>
  have O0:q=false:=by
   rw[<-HQ.o];simp only[all_cons,mA.o,Bool.false_and,Bool.and_false]
  exact zBm
 |true=>
 have cn:=Qbb F.scope w1;obtain⟨z,hz⟩:∃z,Qer F.scope=z:=⟨_,rfl⟩
 rw[hz]at cn;have q9:=Zh hz;clear hz;go_wp2_with fail;refine cn.mono ?_;rintro e we ⟨rfl,rfl⟩;clear cn
 cases z with
 |false=>
  have O0:q=false:=by
   rw[<-HQ.o];simp only[all_cons,q9.o,Bool.false_and,Bool.and_false]
  exact zBm
 |true=>
 have cn:=Qbb F.length w1;obtain⟨z,hz⟩:∃z,Qer F.length=z:=⟨_,rfl⟩
 rw[hz]at cn;have OA:=Zh hz;clear hz;go_wp2_with fail;refine cn.mono ?_;rintro e we ⟨rfl,rfl⟩;clear cn
 cases z with
 |false=>
  have O0:q=false:=by
   rw[<-HQ.o];simp only[all_cons,OA.o,Bool.false_and,Bool.and_false]
  exact zBm
 |true=>
 replace HQ:Hi ((QaE (QbR F.labels 0) (F.labels.drop 0)&&Qbx none F.words)=q):=by
  have h1:=HQ.o;simp only[all_cons,List.all_nil,jA.o,rA.o,pA.o,sA.o,qA.o,mA.o,q9.o,OA.o,Bool.true_and,Bool.and_true]at h1;exact h1
 clear jA rA pA sA qA mA q9 OA;obtain⟨lb,tA⟩:∃lb,QaE (QbR F.labels 0) (F.labels.drop 0)=lb:=⟨_,rfl⟩
 have uB:=Zh tA;rw[tA]at HQ;clear tA;go_wp2_with fail;clear b0 b1 b2 b3 b4 b5 b6 b7 b8 b9 b10 b11;go_loopg [3] F.labels.length λg v2 wr=>∃i:Nat,g+i=F.labels.length/\v2=Iv i/\Hi (Below w1.heap.size w1 wr)/\Hi (QaE (QbR F.labels i) (F.labels.drop i)=lb)
 case atStart=>exact⟨0,rfl,rfl,yA,uB⟩
 case round=>
 clear uB yA;obtain⟨wl,rfl⟩:=zG wr
 obtain⟨i,hg,rfl,G1,uA⟩:=hrel;obtain⟨b0,b1,b2,b3,b4,b5,b6,b7,b8,b9,b10,b11⟩:=FF.o _ G1.o
 by_cases hi:i<F.labels.length
 ·have hil:(i:Int)<(F.labels.length:Int):=zo
  have wk:=zI i;obtain⟨a,ha⟩:∃a,F.labels[i]?=some a:=⟨F.labels[i],getElem?_eq_getElem hi⟩
  have aA:=yB.o.up G1.o;obtain⟨b,o,eA,_,c0,c1⟩:=aA.get ha;have hst:=Jgh uA.o ha;obtain⟨nm,ct⟩:=a;dsimp only at c0 c1 hst;have D2:=Zh hst;have D8:=Zh aA;have S4:=Zh G1.o;have HG:=Zh hg;have B3:=Zh hi;have bB:=Zh eA;have R4:=eA;subst R4;obtain⟨pv,gA⟩:∃p,QbR F.labels i=p:=⟨_,rfl⟩
  rw[gA]at hst;obtain⟨ok,kA⟩:∃b,okL pv nm ct=b:=⟨_,rfl⟩
  replace D2:Hi ((ok&&QaE (QbR F.labels (i+1)) (F.labels.drop (i+1)))=lb):=by
   unfold Hi;rw[<-kA];exact hst
  have dA:=Zh kA;have nA:=Zh gA;have cn:=λW=>Qbb ct W
  have u1:=Jk nm;have vA:=G1.o;clear hst aA G1 hg ha uA eA kA gA;go_wp2_with fail;go_cut [94] λv wx=>v=.bool (!ok)/\Below w1.heap.size w1 wx
  case first=>as_aux_lemma=>
   by_cases h1:1<=ct
   ·have d1:decide (ct<1)=false:=zF zo
    by_cases hM:ct<=1125899906842624
    ·have hA:Qer ct=true:=by unfold Qer;rw[zE (by omega:0<=ct),zE hM];rfl
     rw[hA]at cn
     by_cases Y9:i=0
     ·have di:decide ((0:Int)<(i:Int))=false:=zF zo;have dB:decide (0<i)=false:=zF zo
      have xA:ok=true:=by
       have e:pv=none:=by rw[<-nA.o];unfold QbR;rw[if_pos Y9]
       rw[<-dA.o,e];unfold okL;rw[zE h1,zE hM];rfl
      subst xA;clear h1 hM Y9 hA;exact zBo
     ·have di:decide ((0:Int)<(i:Int))=true:=zE zo;have dB:decide (0<i)=true:=zE zo;obtain⟨p,hp⟩:∃p,F.labels[i-1]?=some p:=⟨F.labels[i-1]'(by omega),getElem?_eq_getElem _⟩
      obtain⟨b',o',O1,_,p0,_⟩:=D8.o.get hp;injection O1 with O1;injection O1 with e1 e2 e3;subst e1 e2;obtain⟨pn,pc⟩:=p;dsimp only at p0;have wm:IntKind.i64.wrap ((i:Int)-1)=(i:Int)-1:=IntWalk.i64_in _ zo;have iB:((i:Int)-1).toNat=i-1:=zo
      have hB:(0:Int)<=(i:Int)-1:=zo
      have gB:(1:Int)<=(i:Int):=zo
      have cB:1<=i:=zo
      have eB:(i:Int)-1<(F.labels.length:Int):=zo
      have u2:=Jk pn
      have xA:ok=ltB pn nm:=by
       have e:pv=some pn:=by rw[<-nA.o];unfold QbR;rw[if_neg Y9,hp];rfl
       rw[<-dA.o,e];unfold okL;rw[zE h1,zE hM];rfl
      clear h1 hM Y9 hA hp D2 dA
      cases hlt:ltB pn nm with
      |true=>
       have cA:Op.bytesLess pn nm=true:=hlt;rw[hlt]at xA;subst xA;clear hlt;exact zBo
      |false=>
       have cA:Op.bytesLess pn nm=false:=hlt;rw[hlt]at xA;subst xA;clear hlt;exact zBo
    ·have hA:Qer ct=false:=by unfold Qer;rw[zF hM,Bool.and_false]
     rw[hA]at cn;have xA:ok=false:=by rw[<-dA.o];unfold okL;rw[zF hM,Bool.and_false];rfl
     subst xA;clear h1 hM hA;exact zBo
   ·have d1:decide (ct<1)=true:=zE zo;have xA:ok=false:=by rw[<-dA.o];unfold okL;rw[zF h1];rfl
    subst xA;clear h1;go_quiet (fail);go_wp2;go_meet;exact⟨rfl,J2 vA _⟩
  case rest=>
  obtain⟨rfl,xB⟩:=hcut;obtain⟨wx,rfl⟩:=zG wc
  have zB:=Zh xB;clear b0 b1 b2 b3 b4 b5 b6 b7 b8 b9 b10 b11 c0 c1 cn u1 vA xB dA nA D8
  cases ok with
  |false=>
   have O0:q=false:=by rw[<-HQ.o,<-D2.o];rfl
   subst O0;go_wp2;go_ret;exact⟨rfl,B0.o _ zB.o⟩
  |true=>
   have bA:Hi (QaE (QbR F.labels (i+1)) (F.labels.drop (i+1))=lb):=D2.o;clear D2;go_wp2;go_roundg (F.labels.length-(i+1))
   case measure=>have:=HG.o;have:=B3.o;omega
   case rel=>exact⟨i+1,by have:=B3.o;have:=HG.o;omega,by go_num,zB.o,bA⟩
 have hil:¬(i:Int)<(F.labels.length:Int):=zo
 obtain rfl:i=F.labels.length:=zo
 have hlt:lb=true:=by rw[<-uA.o,List.drop_length];rfl
 subst hlt
 replace HQ:Hi (Qbx (Qcu F.words 1) (F.words.drop 1)=q):=by
  have h:=HQ.o;rw[Bool.true_and,QhT]at h;exact h
 have S4:=Zh G1.o;clear uA hg hi G1 yB;go_wp2_with fail;clear b0 b1 b2 b3 b4 b5 b6 b7 b8 b9 b10 b11 hil;go_loopg [4] F.words.length λg v4 wr=>∃j:Nat,g+j=F.words.length+1/\1<=j/\v4=Iv j/\Hi (Below w1.heap.size w1 wr)/\Hi (Qbx (Qcu F.words j) (F.words.drop j)=q)
 case atStart=>exact⟨1,by omega,le_refl _,rfl,S4,HQ⟩
 case round=>
 clear HQ S4;obtain⟨wm,rfl⟩:=zG wr
 obtain⟨j,hg,mB,rfl,G1,uA⟩:=hrel;obtain⟨b0,b1,b2,b3,b4,b5,b6,b7,b8,b9,b10,b11⟩:=FF.o _ G1.o
 by_cases hj:j<F.words.length
 ·have hil:(j:Int)<(F.words.length:Int):=zo
  have wk:=zI j;obtain⟨a,ha⟩:∃a,F.words[j]?=some a:=⟨F.words[j],getElem?_eq_getElem hj⟩
  have aA:=vB.o.up G1.o;obtain⟨b,o,eA,_,c0⟩:=aA.get ha;obtain⟨p,hp⟩:∃p,F.words[j-1]?=some p:=⟨F.words[j-1]'(by omega),getElem?_eq_getElem _⟩
  obtain⟨b',o',O1,_,p0⟩:=aA.get hp;rw[eA]at O1;injection O1 with O1;injection O1 with e1 e2 e3;subst e1 e2;have kB:IntKind.i64.wrap ((j:Int)-1)=(j:Int)-1:=IntWalk.i64_in _ zo;have iB:((j:Int)-1).toNat=j-1:=zo
  have hB:(0:Int)<=(j:Int)-1:=zo
  have gB:(1:Int)<=(j:Int):=zo
  have eB:(j:Int)-1<(F.words.length:Int):=zo
  have hst:=Jeh uA.o ha;have gA:Qcu F.words j=some p:=by unfold Qcu;rw[if_neg zo,hp]
  rw[gA]at hst;have D2:Hi ((ltB p a&&Qbx (Qcu F.words (j+1)) (F.words.drop (j+1)))=q):=hst;have u1:=Jk a;have u2:=Jk p;have vA:=G1.o;have DA:Hi (Below w1.heap.size w1 wm.drew):=vA.drew;have HG:=Zh hg;have B3:=Zh hj;subst eA;clear hst aA G1 hg ha hp uA gA hj
  cases hlt:ltB p a with
  |true=>
   have cA:Op.bytesLess p a=true:=hlt
   have bA:Hi (Qbx (Qcu F.words (j+1)) (F.words.drop (j+1))=q):=by
    have h:=D2.o;rw[hlt]at h;exact h
   clear D2 hlt;go_upto_region 11 with fail;go_region;clear b0 b1 b2 b3 b4 b5 b6 b7 b8 b9 b10 b11 c0 p0;go_wp2;go_roundg (F.words.length-j)
   case measure=>have:=HG.o;have:=B3.o;omega
   case rel=>exact⟨j+1,by have:=B3.o;have:=HG.o;omega,by omega,by go_num,DA,bA⟩
  |false=>
   have cA:Op.bytesLess p a=false:=hlt;have O0:q=false:=by rw[<-D2.o,hlt];rfl
   subst O0;clear D2 hlt;go_upto_region 11 with fail;go_region;clear b0 b1 b2 b3 b4 b5 b6 b7 b8 b9 b10 b11 c0 p0;go_wp2;go_ret;exact⟨rfl,B0.o _ DA.o⟩
 have hil:¬(j:Int)<(F.words.length:Int):=zo
 have aB:q=true:=by rw[<-uA.o,List.drop_of_length_le zo];cases Qcu F.words j<;>rfl
 subst aB;have DA:=Zh (B0.o _ G1.o);clear uA hg hj G1;go_wp2;go_ret;exact⟨rfl,DA.o⟩
def Qbz{W:World}{ob:Nat}{cs:Array Value}(h:W.heap[ob]?=some (.cells cs 36 (0,0)))(hs:cs.size=4)(tmps:Array Value)(h4:tmps.getD 4 undef=Pt ob):
  (results f14 tmps).run prog W=.ok (.agg cs) W:=by
 have q4:tmps[4]?.getD undef=Pt ob:=by simpa using h4
 have l1:=run_loadVar_row (P:=prog) W ob 36 36 cs (0,0) _ h underlying36 rfl (by rw[hs];exact Qiw);simp[results,results14,q4,asAddr,l1]
def GrI.on{K:Qar}{ob:Nat}{W W':World}{u u':Nat}{f f':Int}(h:GrI K ob W u f)(hc:Chg [K.p] W W')(hm:QbG K W' u' 0 f'):GrI K ob W' u' f':=
 ⟨hm,hc.heap_some (by simpa using h.low.2) h.res,h.low⟩
theorem zBq{P:Prop}(h:P:=by
  go_wp2;rw[<-A6.o.1];exact bodyPost_ret (Qbz L7.o.2.2.1 rfl _ rfl) rfl ⟨rfl,L7.o.2.2.2⟩):P:=h
def QgV(r:Qah)(F:Qav)(c:Array Value)(lv wv:Value)(w:World)(hx:QaV w (In w) r c)(hz:RSz r)(hF:FSz F)(hl:Qbm w lv F.labels)(hw:QaF w wv F.words):
  Calls prog 14 #[.agg c,.agg (QaI F lv wv)] w (QkP w (QiT r F)):=by
 obtain⟨fa,fc,ca,cc,rfl,sB,hcl⟩:=hx.parts;obtain⟨la,lc,rfl,_⟩:=hl.form;obtain⟨wa,wc,rfl,_⟩:=hw.form;obtain⟨X,hX⟩:∃X,QiT r F=X:=⟨_,rfl⟩
 rw[hX];have hq:X=if QbJ r=true/\Qbs F=true then Qfm r F 0 r.clauses else⟨0,[],0,1⟩:=hX.symm;have HX:=Zh hq;have mB:Below w.heap.size w (((w.alloc (.cells #[.slice fa r.funcs.length fc,.slice ca r.clauses.length cc,Iv r.action] 30)).alloc (.cells #[.slice la F.labels.length lc,Iv F.likes,Iv F.boosts,Iv F.replies,Iv F.reports,Iv F.age,Iv F.home,Iv F.scope,Iv F.length,.bool F.follows,.bool F.reply,.slice wa F.words.length wc] 25)).alloc (.cells #[Iv 0,Em,Iv 0,Iv 0] 36)):=((zzb.alloc zzl _).alloc zp _).alloc zq _;have B0:Hi (∀W,Below (((w.alloc (.cells #[.slice fa r.funcs.length fc,.slice ca r.clauses.length cc,Iv r.action] 30)).alloc (.cells #[.slice la F.labels.length lc,Iv F.likes,Iv F.boosts,Iv F.replies,Iv F.reports,Iv F.age,Iv F.home,Iv F.scope,Iv F.length,.bool F.follows,.bool F.reply,.slice wa F.words.length wc] 25)).alloc (.cells #[Iv 0,Em,Iv 0,Iv 0] 36)).heap.size (((w.alloc (.cells #[.slice fa r.funcs.length fc,.slice ca r.clauses.length cc,Iv r.action] 30)).alloc (.cells #[.slice la F.labels.length lc,Iv F.likes,Iv F.boosts,Iv F.replies,Iv F.reports,Iv F.age,Iv F.home,Iv F.scope,Iv F.length,.bool F.follows,.bool F.reply,.slice wa F.words.length wc] 25)).alloc (.cells #[Iv 0,Em,Iv 0,Iv 0] 36)) W->Bel w W):=λW hW=>Je mB hW
 have dC:Hi ((((w.alloc (.cells #[.slice fa r.funcs.length fc,.slice ca r.clauses.length cc,Iv r.action] 30)).alloc (.cells #[.slice la F.labels.length lc,Iv F.likes,Iv F.boosts,Iv F.replies,Iv F.reports,Iv F.age,Iv F.home,Iv F.scope,Iv F.length,.bool F.follows,.bool F.reply,.slice wa F.words.length wc] 25)).alloc (.cells #[Iv 0,Em,Iv 0,Iv 0] 36)).heap[w.heap.size]?=some (.cells #[.slice fa r.funcs.length fc,.slice ca r.clauses.length cc,Iv r.action] 30 (0,0))):=Jf (Jf (zzw _ _))
 have L1:Hi ((((w.alloc (.cells #[.slice fa r.funcs.length fc,.slice ca r.clauses.length cc,Iv r.action] 30)).alloc (.cells #[.slice la F.labels.length lc,Iv F.likes,Iv F.boosts,Iv F.replies,Iv F.reports,Iv F.age,Iv F.home,Iv F.scope,Iv F.length,.bool F.follows,.bool F.reply,.slice wa F.words.length wc] 25)).alloc (.cells #[Iv 0,Em,Iv 0,Iv 0] 36)).heap[w.heap.size+1]?=some (.cells #[.slice la F.labels.length lc,Iv F.likes,Iv F.boosts,Iv F.replies,Iv F.reports,Iv F.age,Iv F.home,Iv F.scope,Iv F.length,.bool F.follows,.bool F.reply,.slice wa F.words.length wc] 25 (0,0))):=by
  have e1:=zzw (w.alloc (.cells #[.slice fa r.funcs.length fc,.slice ca r.clauses.length cc,Iv r.action] 30)) (.cells #[.slice la F.labels.length lc,Iv F.likes,Iv F.boosts,Iv F.replies,Iv F.reports,Iv F.age,Iv F.home,Iv F.scope,Iv F.length,.bool F.follows,.bool F.reply,.slice wa F.words.length wc] 25);simp only[World.size_alloc]at e1;exact Jf e1
 have qA:Hi ((((w.alloc (.cells #[.slice fa r.funcs.length fc,.slice ca r.clauses.length cc,Iv r.action] 30)).alloc (.cells #[.slice la F.labels.length lc,Iv F.likes,Iv F.boosts,Iv F.replies,Iv F.reports,Iv F.age,Iv F.home,Iv F.scope,Iv F.length,.bool F.follows,.bool F.reply,.slice wa F.words.length wc] 25)).alloc (.cells #[Iv 0,Em,Iv 0,Iv 0] 36)).heap[w.heap.size+1+1]?=some (.cells #[Iv 0,Em,Iv 0,Iv 0] 36 (0,0))):=by
  have e2:=zzw ((w.alloc (.cells #[.slice fa r.funcs.length fc,.slice ca r.clauses.length cc,Iv r.action] 30)).alloc (.cells #[.slice la F.labels.length lc,Iv F.likes,Iv F.boosts,Iv F.replies,Iv F.reports,Iv F.age,Iv F.home,Iv F.scope,Iv F.length,.bool F.follows,.bool F.reply,.slice wa F.words.length wc] 25)) (.cells #[Iv 0,Em,Iv 0,Iv 0] 36);simp only[World.size_alloc]at e2;exact e2
 have iC:=Zh hx;have jC:=Zh sB;have uC:=Zh hcl;have xC:=Zh hl;have hB:=Zh hw;have HZ:=Zh hz;have gB:=Zh hF;have j4:Hi ((((w.alloc (.cells #[.slice fa r.funcs.length fc,.slice ca r.clauses.length cc,Iv r.action] 30)).alloc (.cells #[.slice la F.labels.length lc,Iv F.likes,Iv F.boosts,Iv F.replies,Iv F.reports,Iv F.age,Iv F.home,Iv F.scope,Iv F.length,.bool F.follows,.bool F.reply,.slice wa F.words.length wc] 25)).alloc (.cells #[Iv 0,Em,Iv 0,Iv 0] 36)).heap.size=w.heap.size+1+1+1):=by unfold Hi;simp
 have kC:=hz.nc;unfold QaI;clear mB hx sB hcl hl hw hz hF hX hq;go_enter func14,ntmps14;go_upto_region 1 with fail
 have A2:Hi (Qmx w (w.heap.size+1+1)/\w.heap.size+1+1<(((w.alloc (.cells #[.slice fa r.funcs.length fc,.slice ca r.clauses.length cc,Iv r.action] 30)).alloc (.cells #[.slice la F.labels.length lc,Iv F.likes,Iv F.boosts,Iv F.replies,Iv F.reports,Iv F.age,Iv F.home,Iv F.scope,Iv F.length,.bool F.follows,.bool F.reply,.slice wa F.words.length wc] 25)).alloc (.cells #[Iv 0,Em,Iv 0,Iv 0] 36)).heap.size/\w.heap.size+1<(((w.alloc (.cells #[.slice fa r.funcs.length fc,.slice ca r.clauses.length cc,Iv r.action] 30)).alloc (.cells #[.slice la F.labels.length lc,Iv F.likes,Iv F.boosts,Iv F.replies,Iv F.reports,Iv F.age,Iv F.home,Iv F.scope,Iv F.length,.bool F.follows,.bool F.reply,.slice wa F.words.length wc] 25)).alloc (.cells #[Iv 0,Em,Iv 0,Iv 0] 36)).heap.size/\w.heap.size<(((w.alloc (.cells #[.slice fa r.funcs.length fc,.slice ca r.clauses.length cc,Iv r.action] 30)).alloc (.cells #[.slice la F.labels.length lc,Iv F.likes,Iv F.boosts,Iv F.replies,Iv F.reports,Iv F.age,Iv F.home,Iv F.scope,Iv F.length,.bool F.follows,.bool F.reply,.slice wa F.words.length wc] 25)).alloc (.cells #[Iv 0,Em,Iv 0,Iv 0] 36)).heap.size):=by
  have:=j4.o;unfold Hi Qmx;omega
 clear j4;generalize World.alloc (World.alloc (World.alloc w _) _) _=w1 at*;generalize w.heap.size+1+1=ob at*;generalize w.heap.size+1=fb at*;generalize w.heap.size=eb at*
 have FF:Hi (∀W,Below w1.heap.size w1 W->(W.cell? ⟨eb,0,none⟩=some (.slice fa r.funcs.length fc)/\W.cell? ⟨eb,1,none⟩=some (.slice ca r.clauses.length cc)/\W.cell? ⟨eb,2,none⟩=some (Iv r.action))/\W.cell? ⟨fb,0,none⟩=some (.slice la F.labels.length lc)/\W.cell? ⟨fb,1,none⟩=some (Iv F.likes)/\W.cell? ⟨fb,2,none⟩=some (Iv F.boosts)/\W.cell? ⟨fb,3,none⟩=some (Iv F.replies)/\W.cell? ⟨fb,4,none⟩=some (Iv F.reports)/\W.cell? ⟨fb,5,none⟩=some (Iv F.age)/\W.cell? ⟨fb,6,none⟩=some (Iv F.home)/\W.cell? ⟨fb,7,none⟩=some (Iv F.scope)/\W.cell? ⟨fb,8,none⟩=some (Iv F.length)/\W.cell? ⟨fb,9,none⟩=some (.bool F.follows)/\W.cell? ⟨fb,10,none⟩=some (.bool F.reply)/\W.cell? ⟨fb,11,none⟩=some (.slice wa F.words.length wc)):=by
  intro W hW;have hr:=(hW.block _ A2.o.2.2.2).trans dC.o;have hf:=(hW.block _ A2.o.2.2.1).trans L1.o;refine⟨⟨?_,?_,?_⟩,?_,?_,?_,?_,?_,?_,?_,?_,?_,?_,?_,?_⟩
  all_goals first|(rw[Ja hr];rfl)|(rw[Ja hf];rfl)
 obtain⟨⟨r0,r1,r2⟩,b0,b1,b2,b3,b4,b5,b6,b7,b8,b9,b10,b11⟩:=FF.o _ zzb;have cr:=QhF r _ w1 (iC.o.up (B0.o _ zzb)) HZ.o;rw[Qij]at cr;go_wp2_with fail;refine cr.mono ?_;rintro e w2 ⟨rfl,I0⟩;clear cr r0 r1 r2 b0 b1 b2 b3 b4 b5 b6 b7 b8 b9 b10 b11;have P2:Hi (Below w1.heap.size w1 w2):=I0;clear I0
 cases M8:QbJ r with
 |false=>
  have X5:X=⟨0,[],0,1⟩:=by rw[HX.o,if_neg λh=>by rw[M8]at h;exact absurd h.1 zp]
  clear M8;subst X5;have xA:=(P2.o.block _ A2.o.2.1).trans qA.o;have f0:=Jc xA 0;have f1:=Jc xA 1;have f2:=Jc xA 2;have f3:=Jc xA 3;have o0:=Ja xA 0;have o1:=Ja xA 1;have o2:=Ja xA 2;have o3:=Ja xA 3;simp only[getElem?_toArray,getElem?_cons_succ,getElem?_cons_zero]at o0 o1 o2 o3;have hlo:=Jb xA;have bA:=Zh (Qgt (Iv 0) Em (Iv 0) (Iv 1) xA);have aA:Hi (Bel w (((((w2.setCell ⟨ob,0,none⟩ (Iv 0)).setCell ⟨ob,1,none⟩ Em).setCell ⟨ob,2,none⟩ (Iv 0)).setCell ⟨ob,3,none⟩ (Iv 1)))):=Below.setCell (p:=⟨ob,3,none⟩) (Below.setCell (p:=⟨ob,2,none⟩) (Below.setCell (p:=⟨ob,1,none⟩) (Below.setCell (p:=⟨ob,0,none⟩) (B0.o _ P2.o) A2.o.1 _) A2.o.1 _) A2.o.1 _) A2.o.1 _;clear xA;go_wp2;exact bodyPost_ret (Qbz bA.o rfl _ rfl) rfl ⟨rfl,aA.o⟩
 |true=>
 obtain⟨⟨r0,r1,r2⟩,b0,b1,b2,b3,b4,b5,b6,b7,b8,b9,b10,b11⟩:=FF.o _ P2.o;have cf:=QeS F (.slice la F.labels.length lc) (.slice wa F.words.length wc) w2 gB.o (xC.o.up (B0.o _ P2.o)) (hB.o.up (B0.o _ P2.o));unfold QaI at cf;go_wp2_with fail;refine cf.mono ?_;rintro e w3 ⟨rfl,pB⟩;clear cf r0 r1 r2 b0 b1 b2 b3 b4 b5 b6 b7 b8 b9 b10 b11;replace P2:=Zh (Je P2.o pB);clear pB
 cases j8:Qbs F with
 |false=>
  have X5:X=⟨0,[],0,1⟩:=by rw[HX.o,if_neg λh=>by rw[j8]at h;exact absurd h.2 zp]
  clear M8 j8;subst X5;have xA:=(P2.o.block _ A2.o.2.1).trans qA.o;have f0:=Jc xA 0;have f1:=Jc xA 1;have f2:=Jc xA 2;have f3:=Jc xA 3;have o0:=Ja xA 0;have o1:=Ja xA 1;have o2:=Ja xA 2;have o3:=Ja xA 3;simp only[getElem?_toArray,getElem?_cons_succ,getElem?_cons_zero]at o0 o1 o2 o3;have hlo:=Jb xA;have bA:=Zh (Qgt (Iv 0) Em (Iv 0) (Iv 1) xA);have aA:Hi (Bel w (((((w3.setCell ⟨ob,0,none⟩ (Iv 0)).setCell ⟨ob,1,none⟩ Em).setCell ⟨ob,2,none⟩ (Iv 0)).setCell ⟨ob,3,none⟩ (Iv 1)))):=Below.setCell (p:=⟨ob,3,none⟩) (Below.setCell (p:=⟨ob,2,none⟩) (Below.setCell (p:=⟨ob,1,none⟩) (Below.setCell (p:=⟨ob,0,none⟩) (B0.o _ P2.o) A2.o.1 _) A2.o.1 _) A2.o.1 _) A2.o.1 _;clear xA;go_wp2;exact bodyPost_ret (Qbz bA.o rfl _ rfl) rfl ⟨rfl,aA.o⟩
 |true=>
 replace HX:Hi (X=Qfm r F 0 (r.clauses.drop 0)):=by rw[Hi,HX.o,if_pos ⟨M8,j8⟩];rfl
 obtain⟨iB,jB,_⟩:=Jco M8;have iA:=Zh (And.intro iB (And.intro jB j8));clear M8 j8 iB jB;obtain⟨⟨r0,r1,r2⟩,b0,b1,b2,b3,b4,b5,b6,b7,b8,b9,b10,b11⟩:=FF.o _ P2.o;obtain⟨K,hK⟩:∃K:Qar,K=⟨w,w3.heap.size,fa,fc,ca,cc,la,lc,wa,wc,r,F⟩:=⟨_,rfl⟩
 have yB:Below w3.heap.size w3 (w3.alloc (.cells (K.cellsG 0 0 0) 88)):=zzb.alloc zzl _;have rB:=Zh (Je P2.o yB);have uB:Bel w w3:=B0.o _ P2.o
 have bB:Hi K.Ok:=by
  subst hK;exact⟨jC.o,uC.o,xC.o,hB.o,HZ.o,gB.o,iA.o.1,iA.o.2.1,iA.o.2.2,uB.size⟩
 have zA:Hi (GrI K ob (w3.alloc (.cells (K.cellsG 0 0 0) 88)) 0 0):=by
  have jA:=(P2.o.block _ A2.o.2.1).trans qA.o;have hlt:=Jb jA;have eA:K.p=w3.heap.size:=by rw[hK]
  have hA:K.w0=w:=by rw[hK]
  refine⟨⟨by rw[eA];exact zzw _ _,by rw[hA];exact Je uB yB⟩,(yB.block _ hlt).trans jA,?_,?_⟩
  ·rw[hA];exact A2.o.1
  ·rw[eA];omega
 have C4:Hi (w1.heap.size<=w3.heap.size):=P2.o.size;have pA:=Zh hK;have tB:K.cellsG 0 0 0=#[.slice fa r.funcs.length fc,.slice ca r.clauses.length cc,Iv r.action,.slice la F.labels.length lc,Iv F.likes,Iv F.boosts,Iv F.replies,Iv F.reports,Iv F.age,Iv F.home,Iv F.scope,Iv F.length,.bool F.follows,.bool F.reply,.slice wa F.words.length wc,Iv 0,Iv 0,Iv 0]:=by rw[hK];rfl
 rw[tB]at rB zA;clear yB uB hK tB;go_upto_region 4 with fail;clear r0 r1 r2 b0 b1 b2 b3 b4 b5 b6 b7 b8 b9 b10 b11 P2;generalize World.alloc w3 _=w4 at*;have eA:w3.heap.size=K.p:=by rw[pA.o]
 have hA:K.w0=w:=by rw[pA.o]
 have qB:K.r=r:=by rw[pA.o]
 have aC:K.F=F:=by rw[pA.o]
 have A6:=Zh (And.intro hA (And.intro qB aC))
 have S3:Hi (eb≠K.p):=by
  have h1:=A2.o.2.2.2;have h3:=C4.o;unfold Hi;rw[<-eA];omega
 simp only[eA];clear eA hA qB aC B0 L1 qA
 have xB:Hi (∀W,Chg [K.p] w4 W->W.cell? ⟨eb,1,none⟩=some (.slice ca r.clauses.length cc)/\W.cell? ⟨eb,2,none⟩=some (Iv r.action)):=by
  intro W hW;obtain⟨⟨_,q1,q2⟩,_⟩:=FF.o _ rB.o;exact⟨hW.cell_some (p:=⟨eb,1,none⟩) (by simpa using S3.o) q1,hW.cell_some (p:=⟨eb,2,none⟩) (by simpa using S3.o) q2⟩
 obtain⟨q1,q2⟩:=xB.o _ (Chg.refl _ _);go_wp2_with fail;clear q1 q2;go_loopg [6] r.clauses.length λg v6 wr=>∃i u:Nat,g+i=r.clauses.length/\v6=Iv i/\Hi (GrI K ob wr u 0)/\Hi (Chg [K.p] w4 wr)/\Hi (u<=10000)/\Hi (X=Qfm r F u (r.clauses.drop i))
 case atStart=>exact⟨0,0,rfl,rfl,zA,Chg.refl _ _,by unfold Hi;omega,HX⟩
 case round=>
 clear zA HX;obtain⟨wl,rfl⟩:=zG wr
 obtain⟨i,u,hg,rfl,zA,vC,HU,tA⟩:=hrel;obtain⟨q1,q2⟩:=xB.o _ vC.o
 by_cases hi:i<r.clauses.length
 ·have hil:(i:Int)<(r.clauses.length:Int):=zo
  have wk:=zI i;obtain⟨m,hm⟩:∃m,r.clauses[i]?=some m:=⟨r.clauses[i],List.getElem?_eq_getElem hi⟩
  have hmem:=List.mem_of_getElem? hm;obtain⟨b,o,da,dc,bC,hfc⟩:=uC.o.get hm;obtain⟨kB,hsz,_⟩:=HZ.o.cl m hmem
  have nB:Hi (∀W,Bel w W->W.cell? ⟨b,o+i*6,none⟩=some (Iv m.cond.kind)/\W.cell? ⟨b,o+i*6+1,none⟩=some (Iv m.cond.num)/\W.cell? ⟨b,o+i*6+2,none⟩=some (.string (bs m.cond.name))/\W.cell? ⟨b,o+i*6+3,none⟩=some (.slice da m.cond.kids.length dc)/\W.cell? ⟨b,o+i*6+4,none⟩=some (Iv m.action)/\W.cell? ⟨b,o+i*6+5,none⟩=some (.string (bs m.reason))):=by
   intro W hW;have h:=λj=>hW.cell (p:=⟨b,o+i*6+j,none⟩) hfc.blt
   exact⟨(h 0).trans hfc.c0,(h 1).trans hfc.c1,(h 2).trans hfc.c2,(h 3).trans hfc.c3,(h 4).trans hfc.c4,(h 5).trans hfc.c5⟩
  have yC:X=if u=10000 then⟨0,[],u,14⟩ else match evN (Qca r.funcs F 100) F [] (u+1) m.cond with|.fault e u'=>⟨0,[],u',e⟩|.val v u'=>if v=0 then Qfm r F u' (r.clauses.drop (i+1)) else⟨m.action,m.reason,u',0⟩:=by
   have h1:=tA.o;have h2:r.clauses[i]=m:=(List.getElem?_eq_some_iff.1 hm).2;rw[List.drop_eq_getElem_cons hi,h2,Qfm]at h1;exact h1
  have vA:=Zh yC
  have zC:Hi (∀W',QbG K W' (u+1) 0 0->u+1<=10000->Qdp K 0 m.cond #[Iv m.cond.kind,Iv m.cond.num,.string (bs m.cond.name),.slice da m.cond.kids.length dc] [] [] Nl 40 1 W' (u+1)):=λW' h1 h2=>by
   have hr:=A6.o;refine⟨kB,by simp;omega,by rw[hr.1];exact hfc.cond,?_,?_,Qel.nil,h2,h1,.inl ⟨rfl,none,0,rfl⟩⟩
   ·rw[hr.2.1];exact Jje iA.o.1 hmem
   ·rw[hr.2.1];exact Jhy iA.o.2.1 hmem
  have HG:=Zh (And.intro hg hi);subst bC;have cs:=QfD K bB.o wl u 0 zA.o.mr HU.o;clear hmem hfc yC tA hg hi hm kB hsz;go_wp2_with fail;refine cs.mono ?_;rintro e w6 ⟨rfl,h6,j0⟩;clear cs q1 q2
  by_cases hu1:u=10000
  ·rw[if_pos hu1]at h6;have yA:=Zh (GrI.on zA.o j0 h6);have rA:w6.cell? ⟨K.p,17,none⟩=some (Iv 14):=Ja h6.self 17;have aB:w6.cell? ⟨K.p,15,none⟩=some (Iv u):=Ja h6.self 15;have X5:X=⟨0,[],u,14⟩:=by rw[vA.o,if_pos hu1]
   subst X5;clear h6 j0 hu1 vA;go_upto_region 12 with fail;have T2:=yA.o.res;have f0:=Jc T2 0;have f1:=Jc T2 1;have f2:=Jc T2 2;have f3:=Jc T2 3;have o0:=Ja T2 0;have o1:=Ja T2 1;have o2:=Ja T2 2;have o3:=Ja T2 3;simp only[getElem?_toArray,getElem?_cons_succ,getElem?_cons_zero]at o0 o1 o2 o3;have hlo:=Jb T2;have cA:=Zh (GrI.on yA.o (Chg.of_below (Below.refl w6.heap.size w6).drew [K.p]) yA.o.mr.drew);have L7:=Zh (cA.o.o ⟨0,[],u,14⟩);clear T2;go_region;clear f0 f1 f2 f3 o0 o1 o2 o3 hlo;exact zBq
  rw[if_neg hu1]at h6;have M2:=Zh (vC.o.trans j0);have mA:=Zh j0;have eB:u+1<=10000:=by have:=HU.o;omega
  have hH:=zC.o w6 h6 eB;have sA:=Zh (hH.ok bB.o 100);have ci:=QiI K bB.o 100 0 rfl _ m.cond _ [] [] _ _ _ w6 (u+1) zzl hH;have kA:Bel w w6:=by have:=h6.bel;rw[A6.o.1]at this;exact this
  obtain⟨k0,k1,k2,k3,k4,k5⟩:=nB.o _ kA;obtain⟨q1,q2⟩:=xB.o _ M2.o;have rA:w6.cell? ⟨K.p,17,none⟩=some (Iv 0):=Ja h6.self 17;replace vA:Hi (X=match evN (Qca r.funcs F 100) F [] (u+1) m.cond with|.fault e u'=>⟨0,[],u',e⟩|.val v u'=>if v=0 then Qfm r F u' (r.clauses.drop (i+1)) else⟨m.action,m.reason,u',0⟩):=by rw[Hi,vA.o,if_neg hu1]
  clear h6 j0 hu1 eB hH zC kA;go_wp2_with fail;refine ci.mono ?_;clear ci k0 k1 k2 k3 k4 k5 q1 q2 rA;have gA:=sA.o;unfold evK at gA |-;rw[A6.o.2.1,A6.o.2.2]at gA |-
  cases XB:evN (Qca r.funcs F 100) F [] (u+1) m.cond with
  |fault er u'=>
   rintro e w7 ⟨dB,⟨v,rfl⟩,uA,O3⟩;have yA:=Zh (GrI.on zA.o (mA.o.trans O3) uA);have rA:w7.cell? ⟨K.p,17,none⟩=some (Iv er):=Ja uA.self 17;have aB:w7.cell? ⟨K.p,15,none⟩=some (Iv u'):=Ja uA.self 15;have X5:X=⟨0,[],u',er⟩:=by rw[vA.o,XB]
   have e0:(er==0)=false:=zzq dB;have e1:(er !=0)=true:=by rw[bne,e0];rfl
   subst X5;clear dB uA O3 vA gA sA XB;go_upto_region 12 with fail;have T2:=yA.o.res;have f0:=Jc T2 0;have f1:=Jc T2 1;have f2:=Jc T2 2;have f3:=Jc T2 3;have o0:=Ja T2 0;have o1:=Ja T2 1;have o2:=Ja T2 2;have o3:=Ja T2 3;simp only[getElem?_toArray,getElem?_cons_succ,getElem?_cons_zero]at o0 o1 o2 o3;have hlo:=Jb T2;have cA:=Zh (GrI.on yA.o (Chg.of_below (Below.refl w7.heap.size w7).drew [K.p]) yA.o.mr.drew);have L7:=Zh (cA.o.o ⟨0,[],u',er⟩);go_region;exact zBq
  |val v u'=>
   rw[XB]at gA;obtain⟨_,vB,cB⟩:=gA;rintro e w7 ⟨rfl,uA,O3⟩;have yA:=Zh (GrI.on zA.o (mA.o.trans O3) uA);have nA:Hi (Chg [K.p] w4 w7):=M2.o.trans O3;have cC:=Zh vB;have rA:w7.cell? ⟨K.p,17,none⟩=some (Iv 0):=Ja uA.self 17;have aB:w7.cell? ⟨K.p,15,none⟩=some (Iv u'):=Ja uA.self 15;have dA:Bel w w7:=by have:=uA.bel;rw[A6.o.1]at this;exact this
   have zB:v=0\/v=1:=cB.elim (λh=>absurd h.1 zd) λh=>h.2;obtain⟨q1,q2⟩:=xB.o _ nA.o;obtain⟨k0,k1,k2,k3,k4,k5⟩:=nB.o _ dA
   rcases zB with hv|hv
   ·have hC:Hi (X=Qfm r F u' (r.clauses.drop (i+1))):=by rw[Hi,vA.o,XB];dsimp only;rw[if_pos hv]
    subst hv;go_wp2;go_roundg (r.clauses.length-(i+1))
    case measure=>have:=HG.o;omega
    case rel=>exact⟨i+1,u',by have:=HG.o;omega,by go_num,yA,nA,cC,hC⟩
   ·have eC:X=⟨m.action,m.reason,u',0⟩:=by rw[vA.o,XB];dsimp only;rw[if_neg zo]
    subst hv eC;go_upto_region 14 with fail;have T2:=yA.o.res;have f0:=Jc T2 0;have f1:=Jc T2 1;have f2:=Jc T2 2;have f3:=Jc T2 3;have o0:=Ja T2 0;have o1:=Ja T2 1;have o2:=Ja T2 2;have o3:=Ja T2 3;simp only[getElem?_toArray,getElem?_cons_succ,getElem?_cons_zero]at o0 o1 o2 o3;have hlo:=Jb T2;have cA:=Zh (GrI.on yA.o (Chg.of_below (Below.refl w7.heap.size w7).drew [K.p]) yA.o.mr.drew);have L7:=Zh (cA.o.o ⟨m.action,m.reason,u',0⟩);go_region;exact zBq
 have hil:¬(i:Int)<(r.clauses.length:Int):=zo
 obtain rfl:i=r.clauses.length:=zo
 have gC:X=⟨r.action,[],u,0⟩:=by
  have h1:=tA.o;rw[List.drop_length,Qfm]at h1;exact h1
 subst gC;have aB:wl.cell? ⟨K.p,15,none⟩=some (Iv u):=Ja zA.o.mr.self 15;go_upto_region 15 with fail;have T2:=zA.o.res;have f0:=Jc T2 0;have f1:=Jc T2 1;have f2:=Jc T2 2;have f3:=Jc T2 3;have o0:=Ja T2 0;have o1:=Ja T2 1;have o2:=Ja T2 2;have o3:=Ja T2 3;simp only[getElem?_toArray,getElem?_cons_succ,getElem?_cons_zero]at o0 o1 o2 o3;have hlo:=Jb T2;have cA:=Zh (GrI.on zA.o (Chg.of_below (Below.refl wl.heap.size wl).drew [K.p]) zA.o.mr.drew);have L7:=Zh (cA.o.o ⟨r.action,[],u,0⟩);go_region;exact zBq
theorem zL{P:Program}{ops:Array Oper}{Q:Exit->Act->World->Prop}{n:Nat}{l:Array Bool}{a:Act}{w:World}(h:Q .normal a w)(hr:Region.ready .any ops l=[]:=by kernel_rfl):wpAny P .any ops Q n l a w:=by
 cases n with
 |zero=>exact⟨hr,h⟩
 |succ n=>exact⟨λ_=>h,by rw[hr];simp⟩
def Qaj{ops:Array Oper}{tm:Array Value}{d:Option Tmp}{oo:Op}{ty:TypeId}{p:String}{af:Array Edge}{j t:Nat}{b:Bool}(e:tm[t]?.getD undef=.bool b)(hj:(ops[j]?).bind (·.dst)=some t):
  Region.wanted ⟨d,oo,ty,p,af,some (j,b)⟩ (yielded ops tm)=true:=by
 have h2:tm[t]?=some (.bool b):=by
  cases h:tm[t]? with
  |none=>rw[h]at e;exact absurd e (by unfold undef;simp)
  |some v=>rw[h]at e;simp at e;rw[e]
 simp[Region.wanted,yielded,hj,h2]
def QdO(X:QiW):Array Value:=#[Iv X.action,.string (bs X.reason),Iv X.used,Iv X.fault]
def QkK.of{w:World}{b t:Nat}{X:QiW}(hz:w.heap[b]?=some (.cells (QdO X) t (0,0))):QkK w b X:=λW hW=>by
 have h:=(hW.block _ (Jb hz)).trans hz;unfold QdO at h;refine⟨?_,?_,?_,?_⟩<;>(rw[Ja h];rfl)
end Go.Proofs.YtncanmdgdflnpaaGreatDoor


