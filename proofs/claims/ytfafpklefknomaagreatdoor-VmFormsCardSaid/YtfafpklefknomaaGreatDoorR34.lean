import Derived.Test.YtfafpklefknomaaGreatDoorR30
import Derived.Test.YtfafpklefknomaaGreatDoorR32
open Nat(le_refl le_trans)
open List(length_cons)
namespace Go.Proofs.YtfafpklefknomaaGreatDoor
open Go Go.ChangeShapes Go.WideShapes Go.ChangeAt Go.RowKit Go.Lib
open _root_.Go.Proofs.Tryz
set_option linter.all false
set_option maxRecDepth 100000
set_option maxHeartbeats 32000000
def opV(o:OpM):Array Value:=#[Iv o.code,Iv o.n,.string (bs o.name)]
def JmC(c d:OpM)(W:World):(binOp .eql 34 (.agg (opV c)) (.agg (opV d))).run prog W=.ok (.bool (decide (c=d))) W:=by
 have hu:prog.underlying 34=some (.struct (prog.fieldsOf 34)):=zk;have hp:prog.stoodInHeld 34=false:=zk;rw[run_eql_struct,run_equalIn_agg _ _ _ _ _ hu hp];unfold Program.fieldsOf;rw[underlying34];obtain⟨a,b,z⟩:=c;obtain⟨a',b',z'⟩:=d;have u3:=underlying3;have u9:=underlying9;simp[Op.eqFields,opV,go_sem];simp only[Jj]
 by_cases h1:a=a'
 ·by_cases h2:b=b'
  ·by_cases h3:z=z'
   ·simp[h1,h2,h3]
   ·simp[h1,h2,h3]
  ·simp[h1,h2]
 ·simp[h1]
def Jam{P:Program}{t:TypeId}{xs ys:Array Value}{W:World}{r:Bool}(h:(binOp .eql t (.agg xs) (.agg ys)).run P W=.ok (.bool r) W):(binOp .neq t (.agg xs) (.agg ys)).run P W=.ok (.bool (!r)) W:=by
 rw[run_eql_struct]at h;rw[run_neq_struct];generalize (Op.equalIn 10000 t (.agg xs) (.agg ys)).run P W=X at *
 cases X with
 |ok b w'=>
  simp only[Result.andThen_ok,Result.ok.injEq,Value.bool.injEq]at h;obtain⟨rfl,rfl⟩:=h;rfl
 |halt x w'=>cases h
def Jel(c d:OpM)(W:World):(binOp .neq 34 (.agg (opV c)) (.agg (opV d))).run prog W=.ok (.bool (!decide (c=d))) W:=Jam (JmC c d W)
def VH{α:Type}{x y:List α}{i:Nat}{a:α}(h:x.take i=y.take i)(hx:x[i]?=some a)(hy:y[i]?=some a):x.take (i+1)=y.take (i+1):=by
 rw[List.take_add_one,List.take_add_one,h,hx,hy]
theorem QjG{P:Prop}(h:P:=by
  have diN:decide (i<n)=false:=zH hi
  have HT:Hi (R (.returned (.bool true)) wl):=by
   have h:=hws.o.2;rw[List.take_of_length_le (by rw[HN.o];omega),List.take_of_length_le (by rw[HM.o];omega)]at h;rw[<- HR.o,zG h];exact⟨rfl,hws.o.1⟩
  clear hi hg hws HR;go_wp2
  exact HT.o):P:=h
theorem QhX{P:Prop}(h:P:=by
  go_upto_region 6 with fail;go_region;go_wp2;go_roundg (n-(i+1))
  case measure=>have:=HGI.o;omega
  case rel=>exact⟨i+1,by have:=HGI.o;omega,rfl,HW.o.1.drew,HT.o⟩):P:=h
theorem QhE{P:Prop}(h:P:=by
  rw[<- HR.o,zH (λe=>by
   have h1:=HU.o.1;rw[e,HU.o.2]at h1
   exact huv (Option.some.inj h1).symm)]
  exact⟨rfl,HW.o.1.drew⟩):P:=h
def Jis(x y:List OpM)(a b:Option Addr)(c d p:Nat)(w:World)(hp:p<=w.heap.size)(gx:OpG w p x a)(gy:OpG w p y b)(hl:x.length<=1000000000)(hl':y.length<=1000000000) :
  Calls prog 59 #[.slice a x.length c,.slice b y.length d] w (Qbj w (.bool (decide (x=y)))):=by
 obtain⟨n,hn⟩:∃n,x.length=n:=⟨_,rfl⟩
 obtain⟨m,hm⟩:∃m,y.length=m:=⟨_,rfl⟩
 obtain⟨R,hR⟩:∃R,Qbj w (.bool (decide (x=y)))=R:=⟨_,rfl⟩
 rw[hR,hn,hm];rw[hn]at hl;have HR:Hi (Qbj w (.bool (decide (x=y)))=R):=hR
 by_cases e:n=m
 ·subst e;have zA:=Zh gx;have yA:=Zh gy;have HN:=Zh hn;have HM:=Zh hm;have HP:=Zh hp;clear hR gx gy hn hm hp hl';go_enter func59,ntmps59;go_wp2_with fail;go_loopg [13] n λg v13 wr=>∃i:Nat,g+i=n/\v13=Iv (i:Int)/\Hi (Below w.heap.size w wr/\x.take i=y.take i)
  case atStart=>exact⟨0,rfl,rfl,zO,rfl⟩
  case round=>
  obtain⟨wl,rfl⟩:=zJ wr;obtain⟨i,hg,rfl,hws⟩:=hrel
  by_cases hi:i<n
  ·have dil:decide ((i:Int)<(n:Int))=true:=zG zo;have diN:decide (i<n)=true:=zG hi;obtain⟨u,hu⟩:∃u,x[i]?=some u:=⟨_,List.getElem?_eq_getElem (by rw[HN.o];exact hi)⟩
   obtain⟨v,hv⟩:∃v,y[i]?=some v:=⟨_,List.getElem?_eq_getElem (by rw[HM.o];exact hi)⟩
   obtain⟨b1,o1,rfl,k1⟩:=zA.o i u hu;obtain⟨b2,o2,rfl,k2⟩:=yA.o i v hv;obtain⟨p0,p1,p2⟩:=k1 _ (hws.o.1.mono HP.o);obtain⟨q0,q1,q2⟩:=k2 _ (hws.o.1.mono HP.o);have j0:0<=(i:Int):=zo;have j1:(i:Int)<(n:Int):=zo;have wk:IntKind.i64.wrap ((i:Int)+1)=((i+1:Nat):Int):=by rw[IntWalk.i64_in _ zo];omega
   have xA:=Jel u v;unfold opV at xA;have HGI:=Zh (And.intro hg hi);have HU:=Zh (And.intro hu hv);have HW:=Zh hws.o;clear hu hv k1 k2 hg hi hws
   by_cases huv:u=v
   ·have ht:decide (u=v)=true:=zG huv;rw[ht]at xA
    have HT:Hi (x.take (i+1)=y.take (i+1)):=by
     subst huv;exact VH HW.o.2 HU.o.1 HU.o.2
    clear ht huv;exact QhX
   ·have ht:decide (u=v)=false:=zH huv;rw[ht]at xA
    have HT:Hi (R (.returned (.bool false)) wl.drew):=by
     exact QhE
    clear ht huv HR;go_upto_region 6 with fail;go_region;go_wp2;exact HT.o
  ·have dil:decide ((i:Int)<(n:Int))=false:=zH zo;exact QjG
 ·have q:((n:Int)==(m:Int))=false:=zM zo;have qn:(n==m)=false:=zM e
  have HT:Hi (R (.returned (.bool false)) w):=by
   rw[<- HR.o,zH λh=>e (by rw[<- hn,<- hm,h])];exact⟨rfl,zO⟩
  clear hR gx gy hn hm hp hl hl' e HR;go_enter func59,ntmps59;go_wp2;exact HT.o
theorem Qhb{P:Prop}(h:P:=by
  simp only[Option.some.injEq,Addr.mk.injEq]at h3;obtain⟨rfl,rfl,_⟩:=h3
  exact h4 w zO):P:=h
def Y1(x y:List Int)(a b:Option Addr)(c d p:Nat)(w:World)(hp:p<=w.heap.size)(gx:QfJ w p x a)(gy:QfJ w p y b)(hl:x.length<=1000000000)(hl':y.length<=1000000000) :
  Calls prog 60 #[.slice a x.length c,.slice b y.length d] w (Qbj w (.bool (decide (x=y)))):=by
 by_cases e:x.length=y.length
 ·cases hx:x with
  |nil=>
   have hy:y=[]:=List.eq_nil_of_length_eq_zero (by rw[<- e,hx];rfl);subst hx hy;refine(Tryz.slices_Equal_int_empty a b c 0 d w zo).mono ?_;rintro e w' ⟨rfl,rfl⟩;exact⟨rfl,zO⟩
  |cons x0 xs=>
   rw[<- hx];obtain⟨b1,o1,rfl,_⟩:=gx 0 x0 (by rw[hx];rfl);obtain⟨y0,xA⟩:∃y0,y[0]?=some y0:=⟨_,List.getElem?_eq_getElem (by rw[<- e,hx];simp)⟩
   obtain⟨b2,o2,rfl,_⟩:=gy 0 y0 xA;refine(Tryz.slices_Equal_int b1 o1 x.length c b2 o2 y.length d x y w zP zP zo zo (λj hj=>?_) λj hj=>?_).mono ?_
   ·have h1:x[j]?=some (x.getD j 0):=by rw[List.getD_eq_getElem?_getD,List.getElem?_eq_getElem hj];rfl
    obtain⟨b3,o3,h3,h4⟩:=gx j _ h1;exact Qhb
   ·have h1:y[j]?=some (y.getD j 0):=by rw[List.getD_eq_getElem?_getD,List.getElem?_eq_getElem hj];rfl
    obtain⟨b3,o3,h3,h4⟩:=gy j _ h1;exact Qhb
   ·rintro e w' ⟨rfl,q,rfl⟩;rw[List.take_of_length_le zP,List.take_of_length_le zP];refine⟨?_,⟨rfl,rfl,rfl,le_refl _,λ_ _=>rfl⟩⟩
    congr 2
    by_cases h:x=y
    ·rw[zG h,h];simp
    ·rw[zH h];exact zM h
 ·refine(Tryz.slices_Equal_int_lens a b x.length c y.length d w e).mono ?_;rintro e' w' ⟨rfl,rfl⟩;rw[zH λh=>e (by rw[h])];exact⟨rfl,zO⟩
def Yd(c d:Qaf):c=d↔c.ops=d.ops/\c.starts=d.starts/\c.params=d.params/\c.slots=d.slots:=by
 constructor
 ·rintro rfl;exact⟨rfl,rfl,rfl,rfl⟩
 ·obtain⟨a,b,e,f⟩:=c;obtain⟨a',b',e',f'⟩:=d;rintro⟨rfl,rfl,rfl,rfl⟩;rfl
def QbI(c:Qaf):Prop:=c.ops.length<=1000000000/\c.starts.length<=1000000000/\c.params.length<=1000000000/\c.slots.length<=1000000000
theorem Qkl{P:Prop}(h:P:=by
  obtain⟨x0,x1,x2,x3⟩:=Qao (HX.o _ HW2.o);obtain⟨y0,y1,y2,y3⟩:=Qao (HY.o _ HW2.o);have ce:=E1.o w2 (HB.o.mono HP.o |>.trans (HW2.o.mono (Nat.le_trans HP.o HB.o.size))) (Nat.le_trans HP.o (Nat.le_trans HB.o.size HW2.o.size));clear E1;go_wp2_with fail;refine ce.mono ?_;clear ce x0 x1 x2 x3 y0 y1 y2 y3;rintro e w3 ⟨rfl,hb⟩;have HW3:Hi (Below w1.heap.size w1 w3):=HW2.o.trans (hb.mono HW2.o.size);clear hb
  by_cases e1:c.starts=d.starts
  rotate_left
  ·have HT:Hi (R (.returned (.bool false)) w3):=by
    rw[<- HR.o,zH (λh=>e1 ((Yd c d).1 h).2.1)];exact⟨rfl,HB.o.trans (HW3.o.mono HB.o.size)⟩
   rw[zH e1];clear HR;go_wp2;exact HT.o
  rw[zG e1];obtain⟨x0,x1,x2,x3⟩:=Qao (HX.o _ HW3.o);obtain⟨y0,y1,y2,y3⟩:=Qao (HY.o _ HW3.o);have ce:=E2.o w3 (HB.o.mono HP.o |>.trans (HW3.o.mono (Nat.le_trans HP.o HB.o.size))) (Nat.le_trans HP.o (Nat.le_trans HB.o.size HW3.o.size));clear E2;go_wp2_with fail;refine ce.mono ?_;clear ce x0 x1 x2 x3 y0 y1 y2 y3;rintro e w4 ⟨rfl,hb⟩;have HW4:Hi (Below w1.heap.size w1 w4):=HW3.o.trans (hb.mono HW3.o.size);clear hb
  by_cases e2:c.params=d.params
  rotate_left
  ·have HT:Hi (R (.returned (.bool false)) w4):=by
    rw[<- HR.o,zH (λh=>e2 ((Yd c d).1 h).2.2.1)];exact⟨rfl,HB.o.trans (HW4.o.mono HB.o.size)⟩
   rw[zH e2];clear HR;go_wp2;exact HT.o
  rw[zG e2];obtain⟨x0,x1,x2,x3⟩:=Qao (HX.o _ HW4.o);obtain⟨y0,y1,y2,y3⟩:=Qao (HY.o _ HW4.o);have ce:=E3.o w4 (HB.o.mono HP.o |>.trans (HW4.o.mono (Nat.le_trans HP.o HB.o.size))) (Nat.le_trans HP.o (Nat.le_trans HB.o.size HW4.o.size));clear E3;go_wp2_with fail;refine ce.mono ?_;clear ce x0 x1 x2 x3 y0 y1 y2 y3;rintro e w5 ⟨rfl,hb⟩;have HW5:Hi (Below w1.heap.size w1 w5):=HW4.o.trans (hb.mono HW4.o.size);clear hb
  by_cases e3:c.slots=d.slots
  ·have HT:Hi (R (.returned (.bool true)) w5):=by
    rw[<- HR.o,zG ((Yd c d).2 ⟨e0,e1,e2,e3⟩)];exact⟨rfl,HB.o.trans (HW5.o.mono HB.o.size)⟩
   rw[zG e3];clear HR e0 e1 e2 e3;go_wp2;exact HT.o
  ·have HT:Hi (R (.returned (.bool false)) w5):=by
    rw[<- HR.o,zH (λh=>e3 ((Yd c d).1 h).2.2.2)];exact⟨rfl,HB.o.trans (HW5.o.mono HB.o.size)⟩
   rw[zH e3];clear HR e0 e1 e2 e3;go_wp2
   exact HT.o):P:=h
def JcT(c d:Qaf)(hc:QbI c)(hd:QbI d)(p:Nat)(w:World)(hp:p<=w.heap.size)(x y:Array Value)(hx:CV w p c x)(hy:CV w p d y):Calls prog 29 #[.agg x,.agg y] w (Qbj w (.bool (decide (c=d)))):=by
 obtain⟨a0,c0,a1,c1,a2,c2,a3,c3,rfl,g0,g1,g2,g3⟩:=hx.g;obtain⟨b0,d0,b1,d1,b2,d2,b3,d3,rfl,k0,k1,k2,k3⟩:=hy.g;obtain⟨R,hR⟩:∃R,Qbj w (.bool (decide (c=d)))=R:=⟨_,rfl⟩
 rw[hR];have HR:Hi (Qbj w (.bool (decide (c=d)))=R):=hR;have E0:=Zh (λW (hb:Below p w W) (hs:p<=W.heap.size)=>Jis c.ops d.ops a0 b0 c0 d0 p W hs (λi u hu=>by obtain⟨b,o,h1,h2⟩:=g0 i u hu;exact⟨b,o,h1,λW' hW=>h2 W' (hb.trans hW)⟩) (λi u hu=>by obtain⟨b,o,h1,h2⟩:=k0 i u hu;exact⟨b,o,h1,λW' hW=>h2 W' (hb.trans hW)⟩) hc.1 hd.1);have E1:=Zh (λW (hb:Below p w W) (hs:p<=W.heap.size)=>Y1 c.starts d.starts a1 b1 c1 d1 p W hs (λi u hu=>by obtain⟨b,o,h1,h2⟩:=g1 i u hu;exact⟨b,o,h1,λW' hW=>h2 W' (hb.trans hW)⟩) (λi u hu=>by obtain⟨b,o,h1,h2⟩:=k1 i u hu;exact⟨b,o,h1,λW' hW=>h2 W' (hb.trans hW)⟩) hc.2.1 hd.2.1);have E2:=Zh (λW (hb:Below p w W) (hs:p<=W.heap.size)=>Y1 c.params d.params a2 b2 c2 d2 p W hs (λi u hu=>by obtain⟨b,o,h1,h2⟩:=g2 i u hu;exact⟨b,o,h1,λW' hW=>h2 W' (hb.trans hW)⟩) (λi u hu=>by obtain⟨b,o,h1,h2⟩:=k2 i u hu;exact⟨b,o,h1,λW' hW=>h2 W' (hb.trans hW)⟩) hc.2.2.1 hd.2.2.1);have E3:=Zh (λW (hb:Below p w W) (hs:p<=W.heap.size)=>Y1 c.slots d.slots a3 b3 c3 d3 p W hs (λi u hu=>by obtain⟨b,o,h1,h2⟩:=g3 i u hu;exact⟨b,o,h1,λW' hW=>h2 W' (hb.trans hW)⟩) (λi u hu=>by obtain⟨b,o,h1,h2⟩:=k3 i u hu;exact⟨b,o,h1,λW' hW=>h2 W' (hb.trans hW)⟩) hc.2.2.2 hd.2.2.2);obtain⟨n0,hn0⟩:∃n,c.ops.length=n:=⟨_,rfl⟩
 obtain⟨n1,hn1⟩:∃n,c.starts.length=n:=⟨_,rfl⟩
 obtain⟨n2,bA⟩:∃n,c.params.length=n:=⟨_,rfl⟩
 obtain⟨n3,aA⟩:∃n,c.slots.length=n:=⟨_,rfl⟩
 obtain⟨m0,zA⟩:∃n,d.ops.length=n:=⟨_,rfl⟩
 obtain⟨m1,uA⟩:∃n,d.starts.length=n:=⟨_,rfl⟩
 obtain⟨m2,vA⟩:∃n,d.params.length=n:=⟨_,rfl⟩
 obtain⟨m3,yA⟩:∃n,d.slots.length=n:=⟨_,rfl⟩
 rw[hn0,zA]at E0;rw[hn1,uA]at E1;rw[bA,vA]at E2;rw[aA,yA]at E3;rw[hn0,hn1,bA,aA,zA,uA,vA,yA];have hbx:=Jaa w (.cells #[.slice a0 n0 c0,.slice a1 n1 c1,.slice a2 n2 c2,.slice a3 n3 c3] 31) (.cells #[.slice b0 m0 d0,.slice b1 m1 d1,.slice b2 m2 d2,.slice b3 m3 d3] 31);have HB:=Zh (Yc w (.cells #[.slice a0 n0 c0,.slice a1 n1 c1,.slice a2 n2 c2,.slice a3 n3 c3] 31) (.cells #[.slice b0 m0 d0,.slice b1 m1 d1,.slice b2 m2 d2,.slice b3 m3 d3] 31));have HX:=Zh (BxB.of hbx.1);have HY:=Zh (BxB.of hbx.2);have HP:=Zh hp;clear hR hx hy g0 g1 g2 g3 k0 k1 k2 k3 hn0 hn1 bA aA zA uA vA yA hbx hp hc hd;go_enter func29,ntmps29;go_upto_region 1 with fail
 try simp only[World.size_alloc]
 obtain⟨yb,cA⟩:∃yb,w.heap.size+1=yb:=⟨_,rfl⟩
 obtain⟨xb,dA⟩:∃xb,w.heap.size=xb:=⟨_,rfl⟩
 rw[cA]at HY |-;rw[dA]at HX |-;clear cA dA;generalize World.alloc (World.alloc w _) _=w1 at *;have xA:Hi (Below w1.heap.size w1 w1):=zO;obtain⟨x0,x1,x2,x3⟩:=Qao (HX.o _ xA.o);obtain⟨y0,y1,y2,y3⟩:=Qao (HY.o _ xA.o);have ce:=E0.o w1 (HB.o.mono HP.o |>.trans (xA.o.mono (le_trans HP.o HB.o.size))) (le_trans HP.o (le_trans HB.o.size xA.o.size));clear E0;go_wp2_with fail;refine ce.mono ?_;clear ce x0 x1 x2 x3 y0 y1 y2 y3;rintro e w2 ⟨rfl,hb⟩;have HW2:Hi (Below w1.heap.size w1 w2):=xA.o.trans (hb.mono xA.o.size);clear hb
 by_cases e0:c.ops=d.ops
 rotate_left
 ·have HT:Hi (R (.returned (.bool false)) w2):=by
   rw[<- HR.o,zH λh=>e0 ((Yd c d).1 h).1];exact⟨rfl,HB.o.trans (HW2.o.mono HB.o.size)⟩
  rw[zH e0];clear HR;go_wp2;exact HT.o
 rw[zG e0];exact Qkl
structure MSt(K:MK)(w:World)(p:Nat)(s:StM)(W:World):Prop where
 at':MAt K W p s
 below:Below (p-1) w W
 tfr:TFr w W
def MSt.refl{K:MK}{w:World}{p:Nat}{s:StM}(h:MAt K w p s):MSt K w p s w:=⟨h,zO,TFr.refl _⟩
def MSt.next{K:MK}{w W W':World}{p:Nat}{s s':StM}(h:MSt K w p s W)(ha:MAt K W' p s')(hb:Below (p-1) W W')(ht:TFr W W'):MSt K w p s' W':=⟨ha,h.below.trans hb,h.tfr.trans ht⟩
def MSt.box{K:MK}{w:World}{p:Nat}{s:StM}(h:MAt K w p s)(o:Obj):MSt K w p s (w.alloc o):=⟨h.up (zO.alloc (Nat.le_refl _) _),zO.alloc (zu h.lt) _,TFr.alloc _ _⟩
def MSt.set{K:MK}{w W:World}{p j:Nat}{s s':StM}{u:Value}(h:MSt K w p s W)(hc:∀sv vv cv,(mC K s sv vv cv).setIfInBounds j u=mC K s' sv vv cv)(h1:s'.st=s.st)(h2:s'.vars=s.vars)(h3:s'.calls=s.calls):MSt K w p s' (W.setCell ⟨p,j,none⟩ u):=
 h.next (h.at'.set hc h1 h2 h3) h.at'.tset.2 h.at'.tset.1
def MSt.fin{K:MK}{w W:World}{p:Nat}{s:StM}{r:Value}(h:MSt K w p s W):Qav K w p s r (.returned r) W:=⟨rfl,h.at',h.below,h.tfr⟩
def Jh{W:World}{b t:Nat}{a0 a1 a2:Value}{fr:Nat × Nat}(h:W.heap[b]?=some (.cells #[a0,a1,a2] t fr)):W.cell? ⟨b,0,none⟩=some a0/\W.cell? ⟨b,1,none⟩=some a1/\W.cell? ⟨b,2,none⟩=some a2:=
 ⟨Ja h 0,Ja h 1,Ja h 2⟩
def KU{W W':World}{b:Nat}{cs:Array Value}{fr:Nat × Nat}(h:W.heap[b]?=some (.cells cs 34 fr))(ht:TFr W W'):W'.heap[b]?=some (.cells cs 34 fr):=(ht b _ h λ_ _=>⟨λe=>absurd (Obj.cells.inj e).2.1 zp,λe=>absurd (Obj.cells.inj e).2.1 zp,λe=>absurd (Obj.cells.inj e).2.1 zp⟩).trans h
theorem Qdj{P:Prop}(h:P:=by
  replace HS:=Zh (HS.o.next ha hb ht);clear ha hb ht;go_wp2;go_end0;rw[HR.o]
  exact HS.o.fin):P:=h
def Vn(K:MK)(w:World)(p:Nat)(s:StM)(b:Bool)(h:MAt K w p s)(hl:s.st.length<=1000000000000):Calls prog 117 #[Pt p,.bool b] w (Qav K w p (s.push (Qcs b)) (.tuple #[])):=by
 obtain⟨R,hR⟩:∃R,Qav K w p (s.push (Qcs b)) (.tuple #[])=R:=⟨_,rfl⟩
 rw[hR];have HR:Hi (R=Qav K w p (s.push (Qcs b)) (.tuple #[])):=hR.symm;have HS:=Zh (MSt.refl h);have HL:=Zh hl;clear hR h hl
 cases b with
 |true=>
  go_enter func117,ntmps117;go_wp2_with fail;refine(JF K w p s 1 HS.o.at' HL.o).mono ?_;rintro e w2 ⟨rfl,ha,hb,ht⟩;exact Qdj
 |false=>
  go_enter func117,ntmps117;go_wp2_with fail;refine(JF K w p s 0 HS.o.at' HL.o).mono ?_;rintro e w2 ⟨rfl,ha,hb,ht⟩;exact Qdj
def KH(K:MK)(w:World)(p:Nat)(s:StM)(a b:Int)(l:List Int)(h:MAt K w p s)(hs:s.st=b::a::l)(hl:s.st.length<=1000000000000):Calls prog 122 #[Pt p] w (Qav K w p { s with st:=l } (.tuple #[Iv a,Iv b])):=by
 obtain⟨R,hR⟩:∃R,Qav K w p { s with st:=l } (.tuple #[Iv a,Iv b])=R:=⟨_,rfl⟩
 rw[hR];have HR:Hi (R=Qav K w p { s with st:=l } (.tuple #[Iv a,Iv b])):=hR.symm;have HS:=Zh (MSt.refl h);have HL:=Zh hl;have HT:=Zh hs;clear hR h hl hs;go_enter func122,ntmps122;go_wp2_with fail;refine(VY K w p s b (a::l) HS.o.at' HT.o (zu HL.o)).mono ?_;rintro e w2 ⟨rfl,ha,hb,ht⟩;replace HS:=Zh (HS.o.next ha hb ht);clear ha hb ht;go_wp2_with fail;refine(VY K w2 p { s with st:=a::l } a l HS.o.at' rfl (by have:=HL.o;rw[HT.o]at this;simp only[List.length_cons]at this |-;omega)).mono ?_;rintro e w3 ⟨rfl,ha,hb,ht⟩;replace HS:=Zh (HS.o.next ha hb ht);clear ha hb ht;go_wp2;rw[HR.o];exact HS.o.fin
def Jan(K:MK)(w:World)(p:Nat)(s:StM)(e:Int)(h:MAt K w p s):Calls prog 128 #[Pt p,Iv e] w (Qav K w p (s.fail e) (.tuple #[])):=by
 obtain⟨R,hR⟩:∃R,Qav K w p (s.fail e) (.tuple #[])=R:=⟨_,rfl⟩
 rw[hR];have HR:Hi (R=Qav K w p (s.fail e) (.tuple #[])):=hR.symm;obtain⟨sv,vv,cv,fr,hb,hr⟩:=h;have HS:=Zh (MSt.refl (K:=K) (w:=w) (p:=p) (s:=s) ⟨sv,vv,cv,fr,hb,hr⟩);have zA:=Ja hb 21;have aA:=Jc hb 21;have xA:=Ja hb 22;have cA:=Jc hb 22;have vA:=Ja hb 23;have eA:=Jc hb 23;have yA:=Ja hb 24;have dA:=Jc hb 24;have uA:=Ja hb 25;have bA:=Jc hb 25;simp only[mC,List.getElem?_toArray,List.getElem?_cons_succ,List.getElem?_cons_zero]at zA xA vA yA uA
 have HFIN:Hi (MSt K w p (s.fail e) (((((w.setCell ⟨p,21,none⟩ (Iv 0)).setCell ⟨p,22,none⟩ Em).setCell ⟨p,23,none⟩ (Iv 0)).setCell ⟨p,24,none⟩ (Iv e)).setCell ⟨p,25,none⟩ (.bool true))):=by
  have h1:MSt K w p { s with o:={ s.o with action:=0 } } (w.setCell ⟨p,21,none⟩ (Iv 0)):=HS.o.set (λ_ _ _=>rfl) rfl rfl rfl;have h2:MSt K w p { s with o:={ s.o with action:=0,reason:=[] } } ((w.setCell ⟨p,21,none⟩ (Iv 0)).setCell ⟨p,22,none⟩ Em):=h1.set (λ_ _ _=>rfl) rfl rfl rfl;have h3:=h2.set (j:=23) (u:=Iv 0) (s':={ s with o:={ s.o with action:=0,reason:=[],used:=0 } }) (λ_ _ _=>rfl) rfl rfl rfl;have h4:=h3.set (j:=24) (u:=Iv e) (s':={ s with o:=⟨0,[],0,e⟩ }) (λ_ _ _=>rfl) rfl rfl rfl;exact h4.set (j:=25) (u:=.bool true) (s':=s.fail e) (λ_ _ _=>rfl) rfl rfl rfl
 clear hR hb hr HS;go_enter func128,ntmps128;go_wp2;go_end0;rw[HR.o];exact HFIN.o.fin
def MSt.up{K:MK}{w W W':World}{p:Nat}{s:StM}(h:MSt K w p s W)(hb:Below W.heap.size W W'):MSt K w p s W':=h.next (h.at'.up hb) (hb.mono (zu h.at'.lt)) λk _ hk _=>hb.block _ (Jb hk)
def MSt.box'{K:MK}{w W:World}{p:Nat}{s:StM}(h:MSt K w p s W):∃sv vv cv,W.heap[p]?=some (.cells (mC K s sv vv cv) 76 (0,0)):=by
 obtain⟨sv,vv,cv,fr,h1,h2⟩:=h.at';exact⟨sv,vv,cv,h1⟩
def JcU(K:MK)(w:World)(p:Nat)(s:StM)(h:MAt K w p s)(hu:s.used<=10000):Calls prog 127 #[Pt p] w (Qav K w p (if s.used=10000 then s.fail 14 else { s with used:=s.used+1 }) (.bool (decide (s.used≠10000)))):=by
 obtain⟨R,hR⟩:∃R,Qav K w p (if s.used=10000 then s.fail 14 else { s with used:=s.used+1 }) (.bool (decide (s.used≠10000)))=R:=⟨_,rfl⟩
 rw[hR];have HR:Hi (R=Qav K w p (if s.used=10000 then s.fail 14 else { s with used:=s.used+1 }) (.bool (decide (s.used≠10000)))):=hR.symm;have HS:=Zh (MSt.refl h);clear hR h
 by_cases e:s.used=10000
 ·rw[if_pos e,zH (by simpa using e)]at HR;have q:((s.used:Int)==10000)=true:=by simp[e]
  clear e hu;obtain⟨sv,vv,cv,hbx⟩:=HS.o.box';have xA:=Ja hbx 20;have yA:=Jc hbx 20;simp only[mC,List.getElem?_toArray,List.getElem?_cons_succ,List.getElem?_cons_zero]at xA;clear hbx;go_enter func127,ntmps127;go_wp2_with fail;refine(Jan K w p s 14 HS.o.at').mono ?_;rintro e w2 ⟨rfl,ha,hb,ht⟩;replace HS:=Zh (HS.o.next ha hb ht);clear ha hb ht;go_wp2;rw[HR.o];exact HS.o.fin
 ·rw[if_neg e,zG (by simpa using e)]at HR;have q:((s.used:Int)==10000)=false:=zr;have wk:IntKind.i64.wrap ((s.used:Int)+1)=((s.used+1:Nat):Int):=by rw[IntWalk.i64_in _ zo];omega
  have HFIN:Hi (MSt K w p { s with used:=s.used+1 } (w.setCell ⟨p,20,none⟩ (Iv ((s.used+1:Nat):Int)))):=HS.o.set (λ_ _ _=>rfl) rfl rfl rfl;clear e hu;obtain⟨sv,vv,cv,hbx⟩:=HS.o.box';have xA:=Ja hbx 20;have yA:=Jc hbx 20;simp only[mC,List.getElem?_toArray,List.getElem?_cons_succ,List.getElem?_cons_zero]at xA;clear hbx;go_enter func127,ntmps127;go_wp2;rw[HR.o];exact HFIN.o.fin
def JkF(K:MK)(w:World)(p:Nat)(s:StM)(o:OpM)(h:MAt K w p s)(hl:s.st.length<=1000000000000):Calls prog 61 #[Pt p,.agg #[Iv o.code,Iv o.n,.string (bs o.name)]] w (Qav K w p (s.push o.n) (.tuple #[])):=by
 obtain⟨R,hR⟩:∃R,Qav K w p (s.push o.n) (.tuple #[])=R:=⟨_,rfl⟩
 rw[hR];have HR:Hi (R=Qav K w p (s.push o.n) (.tuple #[])):=hR.symm;have HS:=Zh (MSt.box h (.cells #[Iv o.code,Iv o.n,.string (bs o.name)] 34));have HY:=Zh (zQ w (.cells #[Iv o.code,Iv o.n,.string (bs o.name)] 34));have HL:=Zh hl;clear hl;clear hR h;go_enter func61,ntmps61;go_upto_region 1 with fail;generalize World.alloc w _=w1 at *;generalize w.heap.size=yb at *;obtain⟨y0,y1,y2⟩:=Jh HY.o;go_wp2_with fail;refine(JF K w1 p s o.n HS.o.at' HL.o).mono ?_;rintro e w2 ⟨rfl,ha,hb,ht⟩;exact Qdj
def JnQ(K:MK)(w:World)(p:Nat)(s:StM)(o:OpM)(h:MAt K w p s)(h0:0<=o.n):Calls prog 77 #[Pt p,.agg #[Iv o.code,Iv o.n,.string (bs o.name)]] w (Qav K w p (s.go o.n) (.tuple #[])):=by
 obtain⟨R,hR⟩:∃R,Qav K w p (s.go o.n) (.tuple #[])=R:=⟨_,rfl⟩
 rw[hR];have HR:Hi (R=Qav K w p (s.go o.n) (.tuple #[])):=hR.symm;have HS:=Zh (MSt.box h (.cells #[Iv o.code,Iv o.n,.string (bs o.name)] 34));have HY:=Zh (zQ w (.cells #[Iv o.code,Iv o.n,.string (bs o.name)] 34));clear hR h;go_enter func77,ntmps77;go_upto_region 1 with fail;generalize World.alloc w _=w1 at *;generalize w.heap.size=yb at *;obtain⟨y0,y1,y2⟩:=Jh HY.o;have hz:o.n=((o.n.toNat:Nat):Int):=zo
 have HFIN:Hi (MSt K w p (s.go o.n) (w1.setCell ⟨p,16,none⟩ (Iv o.n))):=by
  refine HS.o.set (s':=s.go o.n) (λ_ _ _=>?_) rfl rfl rfl;unfold mC StM.go;rw[hz];simp
 clear hz h0;obtain⟨sv,vv,cv,hbx⟩:=HS.o.box';have b16:=Ja hbx 16;have f16:=Jc hbx 16;simp only[mC,List.getElem?_toArray,List.getElem?_cons_succ,List.getElem?_cons_zero]at b16;clear hbx;go_wp2;go_end0;rw[HR.o];exact HFIN.o.fin
theorem QjU{P:Prop}(h:P:=by
  have hz:o.n=((o.n.toNat:Nat):Int):=by omega
  have HFIN:Hi (MSt K w p (StM.go { s with st:=l } o.n) (w2.setCell ⟨p,16,none⟩ (Iv o.n))):=by
   refine HS.o.set (s':=StM.go { s with st:=l } o.n) (λ_ _ _=>?_) rfl rfl rfl;unfold mC StM.go;rw[hz];simp
  clear hz h0 e;obtain⟨sv,vv,cv,hbx⟩:=HS.o.box';have b16:=Ja hbx 16;have f16:=Jc hbx 16;simp only[mC,List.getElem?_toArray,List.getElem?_cons_succ,List.getElem?_cons_zero]at b16;clear hbx;go_wp2;go_end0;rw[HR.o]
  exact HFIN.o.fin):P:=h
section
variable (K:MK)(w:World)(p:Nat)(s:StM)(o:OpM)(v:Int)(l:List Int)(h:MAt K w p s)(hs:s.st=v::l)(hl:s.st.length<=1000000000000)
include K w p s o v l h hs hl
theorem JmD(h0:0<=o.n):Calls prog 78 #[Pt p,.agg #[Iv o.code,Iv o.n,.string (bs o.name)]] w (Qav K w p (if v=0 then StM.go { s with st:=l } o.n else { s with st:=l }) (.tuple #[])):=by
 obtain⟨R,hR⟩:∃R,Qav K w p (if v=0 then StM.go { s with st:=l } o.n else { s with st:=l }) (.tuple #[])=R:=⟨_,rfl⟩
 rw[hR];have HR:Hi (R=Qav K w p (if v=0 then StM.go { s with st:=l } o.n else { s with st:=l }) (.tuple #[])):=hR.symm;have HS:=Zh (MSt.box h (.cells #[Iv o.code,Iv o.n,.string (bs o.name)] 34));have HY:=Zh (zQ w (.cells #[Iv o.code,Iv o.n,.string (bs o.name)] 34));have HL:=Zh hl;have HT:=Zh hs;clear hl hs;clear hR h;go_enter func78,ntmps78;go_upto_region 1 with fail;generalize World.alloc w _=w1 at *;generalize w.heap.size=yb at *;obtain⟨y0,y1,y2⟩:=Jh HY.o;go_wp2_with fail;refine(VY K w1 p s v l HS.o.at' HT.o (zu HL.o)).mono ?_;rintro e w2 ⟨rfl,ha,hb,ht⟩;replace HY:=Zh (KU HY.o ht);replace HS:=Zh (HS.o.next ha hb ht);clear ha hb ht;clear y0 y1 y2;obtain⟨y0,y1,y2⟩:=Jh HY.o
 by_cases e:v=0
 ·rw[if_pos e]at HR;have q:(v==0)=true:=by simp[e]
  exact QjU
 ·rw[if_neg e]at HR;have q:(v==0)=false:=zM e;clear h0 e;go_wp2;go_end0;rw[HR.o];exact HS.o.fin
theorem JnR(h0:0<=o.n):Calls prog 79 #[Pt p,.agg #[Iv o.code,Iv o.n,.string (bs o.name)]] w (Qav K w p (if v=1 then StM.go { s with st:=l } o.n else { s with st:=l }) (.tuple #[])):=by
 obtain⟨R,hR⟩:∃R,Qav K w p (if v=1 then StM.go { s with st:=l } o.n else { s with st:=l }) (.tuple #[])=R:=⟨_,rfl⟩
 rw[hR];have HR:Hi (R=Qav K w p (if v=1 then StM.go { s with st:=l } o.n else { s with st:=l }) (.tuple #[])):=hR.symm;have HS:=Zh (MSt.box h (.cells #[Iv o.code,Iv o.n,.string (bs o.name)] 34));have HY:=Zh (zQ w (.cells #[Iv o.code,Iv o.n,.string (bs o.name)] 34));have HL:=Zh hl;have HT:=Zh hs;clear hl hs;clear hR h;go_enter func79,ntmps79;go_upto_region 1 with fail;generalize World.alloc w _=w1 at *;generalize w.heap.size=yb at *;obtain⟨y0,y1,y2⟩:=Jh HY.o;go_wp2_with fail;refine(VY K w1 p s v l HS.o.at' HT.o (zu HL.o)).mono ?_;rintro e w2 ⟨rfl,ha,hb,ht⟩;replace HY:=Zh (KU HY.o ht);replace HS:=Zh (HS.o.next ha hb ht);clear ha hb ht;clear y0 y1 y2;obtain⟨y0,y1,y2⟩:=Jh HY.o
 by_cases e:v=1
 ·rw[if_pos e]at HR;have q:(v==1)=true:=by simp[e]
  exact QjU
 ·rw[if_neg e]at HR;have q:(v==1)=false:=zM e;clear h0 e;go_wp2;go_end0;rw[HR.o];exact HS.o.fin
theorem JoG:Calls prog 68 #[Pt p,.agg #[Iv o.code,Iv o.n,.string (bs o.name)]] w (Qav K w p { s with st:=Qcs (decide (v=0))::l } (.tuple #[])):=by
 obtain⟨R,hR⟩:∃R,Qav K w p { s with st:=Qcs (decide (v=0))::l } (.tuple #[])=R:=⟨_,rfl⟩
 rw[hR];have HR:Hi (R=Qav K w p { s with st:=Qcs (decide (v=0))::l } (.tuple #[])):=hR.symm;have HS:=Zh (MSt.box h (.cells #[Iv o.code,Iv o.n,.string (bs o.name)] 34));have HY:=Zh (zQ w (.cells #[Iv o.code,Iv o.n,.string (bs o.name)] 34));have HL:=Zh hl;have HT:=Zh hs;clear hl hs;clear hR h;go_enter func68,ntmps68;go_upto_region 1 with fail;generalize World.alloc w _=w1 at *;generalize w.heap.size=yb at *;obtain⟨y0,y1,y2⟩:=Jh HY.o;go_wp2_with fail;refine(VY K w1 p s v l HS.o.at' HT.o (zu HL.o)).mono ?_;rintro e w2 ⟨rfl,ha,hb,ht⟩;replace HS:=Zh (HS.o.next ha hb ht);clear ha hb ht;have eb:(v==0)=decide (v=0):=rfl;go_wp2_with fail;refine(Vn K w2 p { s with st:=l } (v==0) HS.o.at' (by have:=HL.o;rw[HT.o]at this;simp only[length_cons]at this |-;omega)).mono ?_;rintro e w3 ⟨rfl,ha,hb,ht⟩;replace HS:=Zh (HS.o.next ha hb ht);clear ha hb ht;rw[eb]at HS;go_wp2;go_end0;rw[HR.o];exact HS.o.fin
end
section
variable (K:MK)(w:World)(p:Nat)(s:StM)(o:OpM)(a b:Int)(l:List Int)(h:MAt K w p s)(hs:s.st=b::a::l)(hl:s.st.length<=1000000000000)
include K w p s o a b l h hs hl
theorem JnS:Calls prog 74 #[Pt p,.agg #[Iv o.code,Iv o.n,.string (bs o.name)]] w (Qav K w p { s with st:=Qcs (decide (a<b))::l } (.tuple #[])):=by
 obtain⟨R,hR⟩:∃R,Qav K w p { s with st:=Qcs (decide (a<b))::l } (.tuple #[])=R:=⟨_,rfl⟩
 rw[hR];have HR:Hi (R=Qav K w p { s with st:=Qcs (decide (a<b))::l } (.tuple #[])):=hR.symm;have HS:=Zh (MSt.box h (.cells #[Iv o.code,Iv o.n,.string (bs o.name)] 34));have HY:=Zh (zQ w (.cells #[Iv o.code,Iv o.n,.string (bs o.name)] 34));have HL:=Zh hl;have HT:=Zh hs;clear hl hs;clear hR h;go_enter func74,ntmps74;go_upto_region 1 with fail;generalize World.alloc w _=w1 at *;generalize w.heap.size=yb at *;obtain⟨y0,y1,y2⟩:=Jh HY.o;go_wp2_with fail;refine(KH K w1 p s a b l HS.o.at' HT.o HL.o).mono ?_;rintro e w2 ⟨rfl,ha,hb,ht⟩;replace HS:=Zh (HS.o.next ha hb ht);clear ha hb ht;go_wp2_with fail;refine(Vn K w2 p { s with st:=l } (decide (a<b)) HS.o.at' (by have:=HL.o;rw[HT.o]at this;simp only[length_cons]at this |-;omega)).mono ?_;rintro e w3 ⟨rfl,ha,hb,ht⟩;exact Qdj
theorem JoH:Calls prog 75 #[Pt p,.agg #[Iv o.code,Iv o.n,.string (bs o.name)]] w (Qav K w p { s with st:=Qcs (decide (a<=b))::l } (.tuple #[])):=by
 obtain⟨R,hR⟩:∃R,Qav K w p { s with st:=Qcs (decide (a<=b))::l } (.tuple #[])=R:=⟨_,rfl⟩
 rw[hR];have HR:Hi (R=Qav K w p { s with st:=Qcs (decide (a<=b))::l } (.tuple #[])):=hR.symm;have HS:=Zh (MSt.box h (.cells #[Iv o.code,Iv o.n,.string (bs o.name)] 34));have HY:=Zh (zQ w (.cells #[Iv o.code,Iv o.n,.string (bs o.name)] 34));have HL:=Zh hl;have HT:=Zh hs;clear hl hs;clear hR h;go_enter func75,ntmps75;go_upto_region 1 with fail;generalize World.alloc w _=w1 at *;generalize w.heap.size=yb at *;obtain⟨y0,y1,y2⟩:=Jh HY.o;go_wp2_with fail;refine(KH K w1 p s a b l HS.o.at' HT.o HL.o).mono ?_;rintro e w2 ⟨rfl,ha,hb,ht⟩;replace HS:=Zh (HS.o.next ha hb ht);clear ha hb ht;go_wp2_with fail;refine(Vn K w2 p { s with st:=l } (decide (a<=b)) HS.o.at' (by have:=HL.o;rw[HT.o]at this;simp only[length_cons]at this |-;omega)).mono ?_;rintro e w3 ⟨rfl,ha,hb,ht⟩;exact Qdj
theorem QkG:Calls prog 76 #[Pt p,.agg #[Iv o.code,Iv o.n,.string (bs o.name)]] w (Qav K w p { s with st:=Qcs (decide (a=b))::l } (.tuple #[])):=by
 obtain⟨R,hR⟩:∃R,Qav K w p { s with st:=Qcs (decide (a=b))::l } (.tuple #[])=R:=⟨_,rfl⟩
 rw[hR];have HR:Hi (R=Qav K w p { s with st:=Qcs (decide (a=b))::l } (.tuple #[])):=hR.symm;have HS:=Zh (MSt.box h (.cells #[Iv o.code,Iv o.n,.string (bs o.name)] 34));have HY:=Zh (zQ w (.cells #[Iv o.code,Iv o.n,.string (bs o.name)] 34));have HL:=Zh hl;have HT:=Zh hs;clear hl hs;clear hR h;go_enter func76,ntmps76;go_upto_region 1 with fail;generalize World.alloc w _=w1 at *;generalize w.heap.size=yb at *;obtain⟨y0,y1,y2⟩:=Jh HY.o;go_wp2_with fail;refine(KH K w1 p s a b l HS.o.at' HT.o HL.o).mono ?_;rintro e w2 ⟨rfl,ha,hb,ht⟩;replace HS:=Zh (HS.o.next ha hb ht);clear ha hb ht;go_wp2_with fail;refine(Vn K w2 p { s with st:=l } ((a==b)) HS.o.at' (by have:=HL.o;rw[HT.o]at this;simp only[length_cons]at this |-;omega)).mono ?_;rintro e w3 ⟨rfl,ha,hb,ht⟩;exact Qdj
end
def JkG(K:MK)(w:World)(p:Nat)(s:StM)(o:OpM)(h:MAt K w p s)(hu:s.used<=10000):Calls prog 82 #[Pt p,.agg #[Iv o.code,Iv o.n,.string (bs o.name)]] w (Qav K w p (if s.used=10000 then s.fail 14 else { s with used:=s.used+1 }) (.tuple #[])):=by
 obtain⟨R,hR⟩:∃R,Qav K w p (if s.used=10000 then s.fail 14 else { s with used:=s.used+1 }) (.tuple #[])=R:=⟨_,rfl⟩
 rw[hR];have HR:Hi (R=Qav K w p (if s.used=10000 then s.fail 14 else { s with used:=s.used+1 }) (.tuple #[])):=hR.symm;have HS:=Zh (MSt.box h (.cells #[Iv o.code,Iv o.n,.string (bs o.name)] 34));have HY:=Zh (zQ w (.cells #[Iv o.code,Iv o.n,.string (bs o.name)] 34));have HU:=Zh hu;clear hu;clear hR h;go_enter func82,ntmps82;go_upto_region 1 with fail;generalize World.alloc w _=w1 at *;generalize w.heap.size=yb at *;obtain⟨y0,y1,y2⟩:=Jh HY.o;go_wp2_with fail;refine(JcU K w1 p s HS.o.at' HU.o).mono ?_;rintro e w2 ⟨rfl,ha,hb,ht⟩;exact Qdj
section
variable (K:MK)(w:World)(p:Nat)(s:StM)(o:OpM)(a b:Int)(l:List Int)(h:MAt K w p s)(hs:s.st=b::a::l)(hl:s.st.length<=1000000000000)(ha:Qbc a)(hb:Qbc b)
include K w p s o a b l h hs hl ha hb
theorem JoI:Calls prog 69 #[Pt p,.agg #[Iv o.code,Iv o.n,.string (bs o.name)]] w (Qav K w p { s with st:=clI (a+b)::l } (.tuple #[])):=by
 obtain⟨R,hR⟩:∃R,Qav K w p { s with st:=clI (a+b)::l } (.tuple #[])=R:=⟨_,rfl⟩
 rw[hR];have HR:Hi (R=Qav K w p { s with st:=clI (a+b)::l } (.tuple #[])):=hR.symm;have HS:=Zh (MSt.box h (.cells #[Iv o.code,Iv o.n,.string (bs o.name)] 34));have HY:=Zh (zQ w (.cells #[Iv o.code,Iv o.n,.string (bs o.name)] 34));have HL:=Zh hl;have HT:=Zh hs;clear hl hs;have HA:=Zh ha;have HB:=Zh hb;clear ha hb;clear hR h;go_enter func69,ntmps69;go_upto_region 1 with fail;generalize World.alloc w _=w1 at *;generalize w.heap.size=yb at *;obtain⟨y0,y1,y2⟩:=Jh HY.o;go_wp2_with fail;refine(KH K w1 p s a b l HS.o.at' HT.o HL.o).mono ?_;rintro e w2 ⟨rfl,ha,hb,ht⟩;replace HS:=Zh (HS.o.next ha hb ht);clear ha hb ht;go_wp2_with fail;refine(Jfr a b w2 HA.o HB.o).mono ?_;rintro e w3 ⟨rfl,hbw⟩;replace HS:=Zh (HS.o.up hbw);clear hbw;go_wp2_with fail;refine(JF K w3 p { s with st:=l } (Qca (a+b)) HS.o.at' (by have:=HL.o;rw[HT.o]at this;simp only[length_cons]at this |-;omega)).mono ?_;rintro e w4 ⟨rfl,ha,hb,ht⟩;exact Qdj
theorem JoJ:Calls prog 70 #[Pt p,.agg #[Iv o.code,Iv o.n,.string (bs o.name)]] w (Qav K w p { s with st:=clI (a-b)::l } (.tuple #[])):=by
 obtain⟨R,hR⟩:∃R,Qav K w p { s with st:=clI (a-b)::l } (.tuple #[])=R:=⟨_,rfl⟩
 rw[hR];have HR:Hi (R=Qav K w p { s with st:=clI (a-b)::l } (.tuple #[])):=hR.symm;have HS:=Zh (MSt.box h (.cells #[Iv o.code,Iv o.n,.string (bs o.name)] 34));have HY:=Zh (zQ w (.cells #[Iv o.code,Iv o.n,.string (bs o.name)] 34));have HL:=Zh hl;have HT:=Zh hs;clear hl hs;have HA:=Zh ha;have HB:=Zh hb;clear ha hb;clear hR h;go_enter func70,ntmps70;go_upto_region 1 with fail;generalize World.alloc w _=w1 at *;generalize w.heap.size=yb at *;obtain⟨y0,y1,y2⟩:=Jh HY.o;go_wp2_with fail;refine(KH K w1 p s a b l HS.o.at' HT.o HL.o).mono ?_;rintro e w2 ⟨rfl,ha,hb,ht⟩;replace HS:=Zh (HS.o.next ha hb ht);clear ha hb ht;go_wp2_with fail;refine(JbM a b w2 HA.o HB.o).mono ?_;rintro e w3 ⟨rfl,hbw⟩;replace HS:=Zh (HS.o.up hbw);clear hbw;go_wp2_with fail;refine(JF K w3 p { s with st:=l } (Qca (a-b)) HS.o.at' (by have:=HL.o;rw[HT.o]at this;simp only[length_cons]at this |-;omega)).mono ?_;rintro e w4 ⟨rfl,ha,hb,ht⟩;exact Qdj
theorem JoK:Calls prog 71 #[Pt p,.agg #[Iv o.code,Iv o.n,.string (bs o.name)]] w (Qav K w p { s with st:=clI (a*b)::l } (.tuple #[])):=by
 obtain⟨R,hR⟩:∃R,Qav K w p { s with st:=clI (a*b)::l } (.tuple #[])=R:=⟨_,rfl⟩
 rw[hR];have HR:Hi (R=Qav K w p { s with st:=clI (a*b)::l } (.tuple #[])):=hR.symm;have HS:=Zh (MSt.box h (.cells #[Iv o.code,Iv o.n,.string (bs o.name)] 34));have HY:=Zh (zQ w (.cells #[Iv o.code,Iv o.n,.string (bs o.name)] 34));have HL:=Zh hl;have HT:=Zh hs;clear hl hs;have HA:=Zh ha;have HB:=Zh hb;clear ha hb;clear hR h;go_enter func71,ntmps71;go_upto_region 1 with fail;generalize World.alloc w _=w1 at *;generalize w.heap.size=yb at *;obtain⟨y0,y1,y2⟩:=Jh HY.o;go_wp2_with fail;refine(KH K w1 p s a b l HS.o.at' HT.o HL.o).mono ?_;rintro e w2 ⟨rfl,ha,hb,ht⟩;replace HS:=Zh (HS.o.next ha hb ht);clear ha hb ht;go_wp2_with fail;refine(Jih a b w2 HA.o HB.o).mono ?_;rintro e w3 ⟨rfl,hbw⟩;replace HS:=Zh (HS.o.up hbw);clear hbw;go_wp2_with fail;refine(JF K w3 p { s with st:=l } (Qca (a*b)) HS.o.at' (by have:=HL.o;rw[HT.o]at this;simp only[length_cons]at this |-;omega)).mono ?_;rintro e w4 ⟨rfl,ha,hb,ht⟩;exact Qdj
end
end Go.Proofs.YtfafpklefknomaaGreatDoor
