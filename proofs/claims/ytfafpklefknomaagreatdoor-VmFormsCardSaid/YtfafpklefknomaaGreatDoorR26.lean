import Derived.Test.YtfafpklefknomaaGreatDoorR25
open Nat(le_refl)
namespace Go.Proofs.YtfafpklefknomaaGreatDoor
open Go.ChangeShapes Go.WideShapes Go.ChangeAt Go.RowKit Go.Lib
open _root_.Go.Proofs.Tryz
set_option linter.all false
set_option maxRecDepth 100000
set_option maxHeartbeats 32000000
def Vc{α:Type}{p:α->Bool}{l:List α}{i:Nat}{a:α}(h:(l.take i).all p=true)(hi:l[i]?=some a)(hp:p a=true):(l.take (i+1)).all p=true:=by
 rw[List.take_add_one,hi,List.all_append,h];simp[hp]
def Vk{α:Type}{p:α->Bool}{l:List α}{i:Nat}{a:α}(hi:l[i]?=some a)(hp:p a=false):l.all p=false:=by
 cases h:l.all p with
 |false=>rfl
 |true=>
  have:=List.all_eq_true.1 h a (List.mem_of_getElem? hi);rw[hp]at this
  cases this
structure RSz(r:Qah):Prop where
 nf:r.funcs.length<=1000000
 nc:r.clauses.length<=1000000
 fn:∀f∈r.funcs,f.name.length<=9223372036854775807/\f.params.length<=1000000/\NmN f.body/\siz (utN f.body)<=1000000
 cl:∀c∈r.clauses,NmN c.cond/\siz (utN c.cond)<=1000000/\c.reason.length<=9223372036854775807
def QaV.parts{W:World}{r:Qah}{c:Array Value}(h:QaV W (In W) r c):∃fa fc ca cc,c=#[.slice fa r.funcs.length fc,.slice ca r.clauses.length cc,Iv r.action]/\Qcy W (.slice fa r.funcs.length fc) r.funcs/\QdL W (.slice ca r.clauses.length cc) r.clauses:=by
 obtain⟨fv,cv,h1,h2,h3⟩:=h;have h2':Qcy W fv r.funcs:=h2;have xA:QdL W cv r.clauses:=h3;obtain⟨fa,fc,rfl,_⟩:=h2'.form;obtain⟨ca,cc,rfl,_⟩:=xA.form;exact⟨fa,fc,ca,cc,h1,h2',xA⟩
def trF(r:Qah)(f:FnM):Bool:=QaK r.pa f.params.length 40 f.body
def trC(r:Qah)(c:ClM):Bool:=QaK r.pa 0 40 c.cond
def Jkj(r:Qah):Qbq r=(r.funcs.all (trF r)&&r.clauses.all (trC r)):=rfl
def QaV.up{w W:World}{r:Qah}{c:Array Value}(h:QaV w (In w) r c)(hb:Below w.heap.size w W):QaV W (In W) r c:=by
 obtain⟨fv,cv,h1,h2,h3⟩:=h;exact⟨fv,cv,h1,Qcy.up h2 hb,QdL.up h3 hb⟩
def JhT(r:Qah)(c:Array Value)(w:World)(hx:QaV w (In w) r c)(hz:RSz r):Calls prog 27 #[.agg c] w (Qbj w (.bool (Qbq r))):=by
 obtain⟨fa,fc,ca,cc,rfl,hF,hC⟩:=hx.parts;obtain⟨q,hq⟩:∃q,Qbq r=q:=⟨_,rfl⟩
 rw[hq];rw[Jkj]at hq;have HQ:=Zh hq;have dA:Below w.heap.size w (w.alloc (.cells #[.slice fa r.funcs.length fc,.slice ca r.clauses.length cc,Iv r.action] 25)):=zO.alloc (Nat.le_refl _) _;have HCP:=Zh (zQ w (.cells #[.slice fa r.funcs.length fc,.slice ca r.clauses.length cc,Iv r.action] 25));have HKX:Hi (∀W,Below (w.alloc (.cells #[.slice fa r.funcs.length fc,.slice ca r.clauses.length cc,Iv r.action] 25)).heap.size (w.alloc (.cells #[.slice fa r.funcs.length fc,.slice ca r.clauses.length cc,Iv r.action] 25)) W->Bel w W):=λW hW=>Jd dA hW
 have aA:=Zh hF;have cA:=Zh hC;have HZ:=Zh hz;have nA:=hz.nf;have mA:=hz.nc;obtain⟨fl,hfl⟩:∃fl,r.funcs.length=fl:=⟨_,rfl⟩
 obtain⟨cl,hcl⟩:∃cl,r.clauses.length=cl:=⟨_,rfl⟩
 rw[hfl]at nA;rw[hcl]at mA;have eA:=Zh hfl;have hA:=Zh hcl;have bA:Hi (Below (w.alloc (.cells #[.slice fa r.funcs.length fc,.slice ca r.clauses.length cc,Iv r.action] 25)).heap.size (w.alloc (.cells #[.slice fa r.funcs.length fc,.slice ca r.clauses.length cc,Iv r.action] 25)) (w.alloc (.cells #[.slice fa r.funcs.length fc,.slice ca r.clauses.length cc,Iv r.action] 25))):=zO;simp only[hfl,hcl]at HCP HKX aA cA bA |-;clear dA hx hF hC hz hq hfl hcl;go_enter func27,ntmps27;go_upto_region 1 with fail;have HEB:Hi (w.heap.size<(w.alloc (.cells #[.slice fa fl fc,.slice ca cl cc,Iv r.action] 25)).heap.size):=Jb HCP.o;generalize World.alloc w _=w1 at *;generalize w.heap.size=eb at *
 have FF:Hi (∀W,Below w1.heap.size w1 W->W.cell? ⟨eb,0,none⟩=some (.slice fa fl fc)/\W.cell? ⟨eb,1,none⟩=some (.slice ca cl cc)/\W.cell? ⟨eb,2,none⟩=some (Iv r.action)):=by
  intro W hW;have hh:=(hW.block _ HEB.o).trans HCP.o;refine⟨?_,?_,?_⟩<;>(rw[Ja hh];rfl)
 obtain⟨b0,b1,b2⟩:=FF.o _ zO;go_wp2_with fail;clear b0 b1 b2;go_loopg [10] fl λg v10 wr=>∃i:Nat,g+i=fl/\v10=Iv i/\Hi (Below w1.heap.size w1 wr)/\Hi ((r.funcs.take i).all (trF r)=true)
 case atStart=>exact⟨0,rfl,rfl,bA,rfl⟩
 case round=>
 clear bA;obtain⟨wl,rfl⟩:=zJ wr;obtain⟨i,hg,rfl,hbw,hft⟩:=hrel
 by_cases hi:i<fl
 ·have hil:(i:Int)<(fl:Int):=zo;obtain⟨f,hf⟩:∃f,r.funcs[i]?=some f:=⟨r.funcs[i]'(by rw[eA.o];exact hi),List.getElem?_eq_getElem _⟩
  have hmem:=List.mem_of_getElem? hf;have zA:=aA.o.up (HKX.o _ hbw.o);obtain⟨b,o,pa,pc,da,dc,rfl,xA⟩:=zA.get hf;obtain⟨_,vA,hnm,hsz⟩:=HZ.o.fn f hmem;have c0:=xA.c0;have c1:=xA.c1;have c2:=xA.c2;have c3:=xA.c3;have c4:=xA.c4;have c5:=xA.c5;have c6:=xA.c6;have wk:=zI i;have hb2:Below wl.heap.size wl (wl.alloc (.cells #[.string (bs f.name),.slice pa f.params.length pc,Iv f.result,Iv f.body.kind,Iv f.body.num,.string (bs f.body.name),.slice da f.body.kids.length dc] 41)):=zO.alloc (Nat.le_refl _) _;have hbx:Below w1.heap.size w1 (wl.alloc (.cells #[.string (bs f.name),.slice pa f.params.length pc,Iv f.result,Iv f.body.kind,Iv f.body.num,.string (bs f.body.name),.slice da f.body.kids.length dc] 41)):=Jd hbw.o hb2;have ci:=Jfc r.funcs f.body _ (.slice (some ⟨b,o,none⟩) fl fc) f.params.length 40 (wl.alloc (.cells #[.string (bs f.name),.slice pa f.params.length pc,Iv f.result,Iv f.body.kind,Iv f.body.num,.string (bs f.body.name),.slice da f.body.kids.length dc] 41)) hnm zo zp (xA.body.up hb2) (zA.up hb2);obtain⟨x,hx⟩:∃x,trF r f=x:=⟨_,rfl⟩
  have uA:QaK (r.funcs.map (·.params.length)) f.params.length 40 f.body=x:=hx;rw[uA]at ci;rw[show ((40:Nat):Int)=40 from rfl]at ci;have HX:=Zh hx;have HY:=Zh hf;have HBX:=Zh hbx;have HG:=Zh hg;have HHI:=Zh hi;obtain⟨b0,b1,b2⟩:=FF.o _ hbx;clear hb2 hbx hmem xA hbw hx uA hf hi hg zA hnm hsz vA;go_wp2_with fail;refine ci.mono ?_;rintro e w7 ⟨rfl,hb7⟩;have HB7:=Zh (Jd HBX.o hb7);clear ci hb7 b0 b1 b2 c0 c1 c2 c3 c4 c5 c6 HBX
  cases x with
  |true=>
   have HFT:Hi ((r.funcs.take (i+1)).all (trF r)=true):=Vc hft.o HY.o HX.o;clear hft;go_wp2;go_roundg (fl-(i+1))
   case measure=>have:=HG.o;have:=HHI.o;omega
   case rel=>exact⟨i+1,by have:=HHI.o;omega,by go_num,HB7,HFT⟩
  |false=>
   have hqf:q=false:=by rw[<- HQ.o,Vk HY.o HX.o];rfl
   subst hqf;have HB8:=Zh (HKX.o _ HB7.o);clear hft HB7;go_wp2;go_ret;exact⟨rfl,HB8.o⟩
 have hil:¬(i:Int)<(fl:Int):=zo;obtain rfl:i=fl:=zo;have yA:=hft.o;rw[<- eA.o,List.take_length]at yA;have HQ2:Hi (r.clauses.all (trC r)=q):=by rw[Hi,<- HQ.o,yA];rfl
 obtain⟨b0,b1,b2⟩:=FF.o _ hbw.o;have HBW:=Zh hbw.o;clear hft yA hg hi HQ hbw;go_wp2_with fail;clear b0 b1 b2 hil;go_loopg [27] cl λg v27 wr=>∃j:Nat,g+j=cl/\v27=Iv j/\Hi (Below w1.heap.size w1 wr)/\Hi ((r.clauses.take j).all (trC r)=true)
 case atStart=>exact⟨0,rfl,rfl,HBW,rfl⟩
 case round=>
 clear HBW;obtain⟨wm,rfl⟩:=zJ wr;obtain⟨j,hg,rfl,hbw,hft⟩:=hrel
 by_cases hj:j<cl
 ·have jA:(j:Int)<(cl:Int):=zo;obtain⟨m,hm⟩:∃m,r.clauses[j]?=some m:=⟨r.clauses[j]'(by rw[hA.o];exact hj),List.getElem?_eq_getElem _⟩
  have hmem:=List.mem_of_getElem? hm;have zA:=aA.o.up (HKX.o _ hbw.o);have gA:=cA.o.up (HKX.o _ hbw.o);obtain⟨b,o,da,dc,rfl,xA⟩:=gA.get hm;obtain⟨hnm,hsz,kA⟩:=HZ.o.cl m hmem;have c0:=xA.c0;have c1:=xA.c1;have c2:=xA.c2;have c3:=xA.c3;have c4:=xA.c4;have c5:=xA.c5;have wk:=zI j;have hb2:Below wm.heap.size wm (wm.alloc (.cells #[Iv m.cond.kind,Iv m.cond.num,.string (bs m.cond.name),.slice da m.cond.kids.length dc,Iv m.action,.string (bs m.reason)] 39)):=zO.alloc (Nat.le_refl _) _;have hbx:Below w1.heap.size w1 (wm.alloc (.cells #[Iv m.cond.kind,Iv m.cond.num,.string (bs m.cond.name),.slice da m.cond.kids.length dc,Iv m.action,.string (bs m.reason)] 39)):=Jd hbw.o hb2;have ci:=Jfc r.funcs m.cond _ (.slice fa i fc) 0 40 (wm.alloc (.cells #[Iv m.cond.kind,Iv m.cond.num,.string (bs m.cond.name),.slice da m.cond.kids.length dc,Iv m.action,.string (bs m.reason)] 39)) hnm zo zp (xA.cond.up hb2) (zA.up hb2);obtain⟨x,hx⟩:∃x,trC r m=x:=⟨_,rfl⟩
  have uA:QaK (r.funcs.map (·.params.length)) 0 40 m.cond=x:=hx;rw[uA]at ci;rw[show ((40:Nat):Int)=40 from rfl,show ((0:Nat):Int)=0 from rfl]at ci;have HX:=Zh hx;have HY:=Zh hm;have HBX:=Zh hbx;have HG:=Zh hg;have HHI:=Zh hj;obtain⟨b0,b1,b2⟩:=FF.o _ hbx;clear hb2 hbx hmem xA hbw hx uA hm hj hg zA gA hnm hsz kA;go_wp2_with fail;refine ci.mono ?_;rintro e w7 ⟨rfl,hb7⟩;have HB7:=Zh (Jd HBX.o hb7);clear ci hb7 b0 b1 b2 c0 c1 c2 c3 c4 c5 HBX
  cases x with
  |true=>
   have HFT:Hi ((r.clauses.take (j+1)).all (trC r)=true):=Vc hft.o HY.o HX.o;clear hft;go_wp2;go_roundg (cl-(j+1))
   case measure=>have:=HG.o;have:=HHI.o;omega
   case rel=>exact⟨j+1,by have:=HHI.o;omega,by go_num,HB7,HFT⟩
  |false=>
   have hqf:q=false:=by rw[<- HQ2.o,Vk HY.o HX.o]
   subst hqf;have HB8:=Zh (HKX.o _ HB7.o);clear hft HB7;go_wp2;go_ret;exact⟨rfl,HB8.o⟩
 have jA:¬(j:Int)<(cl:Int):=zo;obtain rfl:j=cl:=zo;have yA:=hft.o;rw[<- hA.o,List.take_length]at yA;have iA:q=true:=by rw[<- HQ2.o,yA]
 subst iA;have HBW:=Zh (HKX.o _ hbw.o);clear hft yA hg hj HQ2 hbw;go_wp2;go_ret;exact⟨rfl,HBW.o⟩
def IntsX.away{w W:World}{rb:Nat}{l:List Int}{v:Value}(h:QbR w (In w) l v)(hb:Bel w W)(hr:w.heap.size<=rb):Qbo W rb v l:=by
 obtain⟨ad,cc,rfl,h2,h3⟩:=h
 rcases h3 with h5|⟨b,o,h4,h5,h6⟩
 ·subst h5;exact .inl ⟨rfl,ad,cc,rfl⟩
 ·subst h4;have hlt:b<w.heap.size:=h5;have hs:w.heap.size<=W.heap.size:=hb.size;exact .inr ⟨b,o,cc,rfl,h2,by omega,by omega,λi n hi=>(hb.cell (p:=⟨b,o+i,none⟩) hlt).trans (h6 i n hi)⟩
def QiT(f:FnM):QaN:=⟨f.params,f.result⟩
def Jeb{w W:World}{rb:Nat}{fs:List FnM}{v:Value}(h:Qcy w v fs)(hb:Bel w W)(hr:w.heap.size<=rb):Qdh W rb v (fs.map QiT):=by
 obtain⟨ad,cc,rfl,_⟩:=h.form;refine⟨ad,cc,by rw[List.length_map],λhne=>?_⟩
 have xA:0<fs.length:=by
  cases fs with
  |nil=>exact absurd rfl hne
  |cons a l=>simp
 obtain⟨g,o,pa,pc,da,dc,yA,uA⟩:=h.get (i:=0) (List.getElem?_eq_getElem xA);refine⟨g,o,yA,by have:=uA.blt;omega,λi s hs=>?_⟩;rw[List.getElem?_map]at hs;obtain⟨f,hf,rfl⟩:=Option.map_eq_some_iff.1 hs;obtain⟨g',o',vA,aA,zA,bA,had',hc⟩:=h.get hf;rw[yA]at had';injection had' with had';injection had' with e1 e2 e3;subst e1 e2;refine⟨bs f.name,.slice vA f.params.length aA,f.body.kind,f.body.num,bs f.body.name,zA,f.body.kids.length,bA,IntsX.away hc.nums hb hr,λj u hj=>?_⟩;have hlt:=hc.blt;have hk:∀j u,w.cell? ⟨g,o+i*7+j,none⟩=some u->W.cell? ⟨g,o+i*7+j,none⟩=some u:=λj u hu=>(hb.cell (p:=⟨g,o+i*7+j,none⟩) hlt).trans hu
 match j,hj with
 |0,hj=>obtain rfl:=Option.some.inj hj;exact hk 0 _ hc.c0
 |1,hj=>obtain rfl:=Option.some.inj hj;exact hk 1 _ hc.c1
 |2,hj=>obtain rfl:=Option.some.inj hj;exact hk 2 _ hc.c2
 |3,hj=>obtain rfl:=Option.some.inj hj;exact hk 3 _ hc.c3
 |4,hj=>obtain rfl:=Option.some.inj hj;exact hk 4 _ hc.c4
 |5,hj=>obtain rfl:=Option.some.inj hj;exact hk 5 _ hc.c5
 |6,hj=>obtain rfl:=Option.some.inj hj;exact hk 6 _ hc.c6
 |j+7,hj=>cases hj
def tyF(r:Qah)(f:FnM):List Int:=QbF r.sigs f.params f.result (utN f.body)
def tyC(r:Qah)(c:ClM):List Int:=QbF r.sigs [] 1 (utN c.cond)
def QdX(r:Qah)(i:Nat):List Int:=((r.funcs.take i).map (tyF r)).flatten
def QeK(r:Qah)(i:Nat):List Int:=((r.clauses.take i).map (tyC r)).flatten
def JhU{r:Qah}{i:Nat}{f:FnM}(h:r.funcs[i]?=some f):QdX r (i+1)=QdX r i++tyF r f:=by unfold QdX;rw[J1 h];simp
def JhV{r:Qah}{i:Nat}{f:ClM}(h:r.clauses[i]?=some f):QeK r (i+1)=QeK r i++tyC r f:=by unfold QeK;rw[J1 h];simp
def Jec(x:Option Int)(l:List Int):(QaG x l).isSome=(x.isSome||!l.isEmpty):=by
 induction l generalizing x with
 |nil=>simp[QaG]
 |cons a l ih=>
  have:QaG x (a::l)=QaG (addF x a) l:=rfl;rw[this,ih];simp[addF]
def Jkk(r:Qah):Qbz r=!(QaG none (QdX r r.funcs.length++QeK r r.clauses.length)).isSome:=by
 rw[Jec];unfold QdX QeK Qbz;rw[List.take_length,List.take_length];simp only[Option.isSome_none,Bool.false_or,Bool.not_not];have e1:∀f,QcT r.sigs f.params f.result (utN f.body)=tyF r f:=λ_=>rfl
 have e2:∀c,QcT r.sigs [] 1 (utN c.cond)=tyC r c:=λ_=>rfl
 simp only[e1,e2];rw[Bool.eq_iff_iff];simp[List.all_eq_true,List.flatten_eq_nil_iff]
def Qfb{w W W':World}{rb:Nat}(hb:Bel w W)(hr:w.heap.size<=rb)(hc:Chg [rb] W W'):Bel w W':=
 Kr hb hc.os hc.tape hc.output hc.size λk hk=>hc.block k (Nat.lt_of_lt_of_le hk hb.size) zr
def JhW(r:Qah)(c:Array Value)(w:World)(hx:QaV w (In w) r c)(hz:RSz r)(ht:Qbq r=true):Calls prog 28 #[.agg c] w (Qbj w (.bool (Qbz r))):=by
 obtain⟨fa,fc,ca,cc,rfl,hF,hC⟩:=hx.parts;have hq:Qbz r=!(QaG none (QdX r r.funcs.length++QeK r r.clauses.length)).isSome:=Jkk r;rw[hq]
 have uB:∀f∈r.funcs,QdK r.sigs.length f.params.length (utN f.body)/\WfN (utN f.body):=by
  intro f hf;unfold Qbq at ht;simp only[Bool.and_eq_true,List.all_eq_true]at ht;have:=Yz f.body _ _ (ht.1 f hf);rw[show r.pa.length=r.sigs.length by simp[Qah.pa,Qah.sigs]]at this;exact this
 have vB:∀c∈r.clauses,QdK r.sigs.length 0 (utN c.cond)/\WfN (utN c.cond):=by
  intro c hc;unfold Qbq at ht;simp only[Bool.and_eq_true,List.all_eq_true]at ht;have:=Yz c.cond _ _ (ht.2 c hc);rw[show r.pa.length=r.sigs.length by simp[Qah.pa,Qah.sigs]]at this;exact this
 have hB:∀s∈r.sigs,s.params.length<=1000000000:=by
  intro s hs;unfold Qah.sigs at hs;obtain⟨f,hf,rfl⟩:=List.mem_map.1 hs;have:=(hz.fn f hf).2.1
  show f.params.length<=_
  omega
 have cB:Below w.heap.size w (w.alloc (.cells #[.slice fa r.funcs.length fc,.slice ca r.clauses.length cc,Iv r.action] 25)):=zO.alloc zP _;have xB:Below w.heap.size w ((w.alloc (.cells #[.slice fa r.funcs.length fc,.slice ca r.clauses.length cc,Iv r.action] 25)).alloc (.cells #[.bool false,Iv 0,.slice fa r.funcs.length fc] 123)):=cB.alloc zq _;have HCP:Hi (((w.alloc (.cells #[.slice fa r.funcs.length fc,.slice ca r.clauses.length cc,Iv r.action] 25)).alloc (.cells #[.bool false,Iv 0,.slice fa r.funcs.length fc] 123)).heap[w.heap.size]?=some (.cells #[.slice fa r.funcs.length fc,.slice ca r.clauses.length cc,Iv r.action] 25 (0,0))):=Jf (zQ w _)
 have mA:QaW ((w.alloc (.cells #[.slice fa r.funcs.length fc,.slice ca r.clauses.length cc,Iv r.action] 25)).alloc (.cells #[.bool false,Iv 0,.slice fa r.funcs.length fc] 123)) (w.heap.size+1) 123 none (.slice fa r.funcs.length fc):=by
  have e1:=zQ (w.alloc (.cells #[.slice fa r.funcs.length fc,.slice ca r.clauses.length cc,Iv r.action] 25)) (.cells #[.bool false,Iv 0,.slice fa r.funcs.length fc] 123);simp only[World.size_alloc]at e1;exact e1
 have HKX:Hi (∀W,Chg [w.heap.size+1] ((w.alloc (.cells #[.slice fa r.funcs.length fc,.slice ca r.clauses.length cc,Iv r.action] 25)).alloc (.cells #[.bool false,Iv 0,.slice fa r.funcs.length fc] 123)) W->Bel w W):=λW hW=>Qfb (rb:=w.heap.size+1) xB zo hW
 have aB:Hi (∀W,Chg [w.heap.size+1] ((w.alloc (.cells #[.slice fa r.funcs.length fc,.slice ca r.clauses.length cc,Iv r.action] 25)).alloc (.cells #[.bool false,Iv 0,.slice fa r.funcs.length fc] 123)) W->Qdh W (w.heap.size+1) (.slice fa r.funcs.length fc) r.sigs):=λW hW=>Jeb hF (Qfb (rb:=w.heap.size+1) xB zo hW) zo
 have nB:Hi (∀W l v,Bel w W->QbR w (In w) l v->Qbo W (w.heap.size+1) v l):=λW l v hb hn=>IntsX.away hn hb zo
 have dB:Hi (QaW ((w.alloc (.cells #[.slice fa r.funcs.length fc,.slice ca r.clauses.length cc,Iv r.action] 25)).alloc (.cells #[.bool false,Iv 0,.slice fa r.funcs.length fc] 123)) (w.heap.size+1) 123 (QaG none (QdX r 0)) (.slice fa r.funcs.length fc)):=mA;have bB:=Zh hF;have jB:=Zh hC;have HZ:=Zh hz;have rB:=Zh uB;have qB:=Zh vB;have HPS:=Zh hB;have aC:=hz.nf;have uC:=hz.nc;have yC:Hi (w.heap.size≠w.heap.size+1/\w.heap.size+1<((w.alloc (.cells #[.slice fa r.funcs.length fc,.slice ca r.clauses.length cc,Iv r.action] 25)).alloc (.cells #[.bool false,Iv 0,.slice fa r.funcs.length fc] 123)).heap.size):=⟨by omega,by simp⟩
 clear cB xB hx hF hC hz hq mA ht uB vB hB;go_enter func28,ntmps28;go_upto_region 1 with fail;have b0:(w.alloc (.cells #[.slice fa r.funcs.length fc,.slice ca r.clauses.length cc,Iv r.action] 25)).cell? ⟨w.heap.size,0,none⟩=some (.slice fa r.funcs.length fc):=by rw[Ja (zQ w (.cells #[.slice fa r.funcs.length fc,.slice ca r.clauses.length cc,Iv r.action] 25))];rfl
 go_upto_region 2 with fail;clear b0
 (try simp only[World.size_alloc])
 generalize World.alloc (World.alloc w _) _=w2 at *;generalize w.heap.size+1=rb at *;generalize w.heap.size=eb at *
 have FF:Hi (∀W,Chg [rb] w2 W->W.cell? ⟨eb,0,none⟩=some (.slice fa r.funcs.length fc)/\W.cell? ⟨eb,1,none⟩=some (.slice ca r.clauses.length cc)/\W.cell? ⟨eb,2,none⟩=some (Iv r.action)):=by
  intro W hW;have hh:=hW.heap_some (by simp;exact yC.o.1) HCP.o;refine⟨?_,?_,?_⟩<;>(rw[Ja hh];rfl)
 obtain⟨b0,b1,b2⟩:=FF.o _ (Chg.refl _ _);go_wp2_with fail;clear b0 b1 b2;go_loopg [15] r.funcs.length λg v15 wr=>∃i:Nat,g+i=r.funcs.length/\v15=Iv i/\Hi (Chg [rb] w2 wr)/\Hi (QaW wr rb 123 (QaG none (QdX r i)) (.slice fa r.funcs.length fc))
 case atStart=>exact⟨0,rfl,rfl,Chg.refl _ _,dB⟩
 case round=>
 clear dB;obtain⟨wl,rfl⟩:=zJ wr;obtain⟨i,hg,rfl,hbw,hft⟩:=hrel
 by_cases hi:i<r.funcs.length
 ·have hil:(i:Int)<(r.funcs.length:Int):=zo;obtain⟨f,hf⟩:∃f,r.funcs[i]?=some f:=⟨r.funcs[i],List.getElem?_eq_getElem hi⟩
  have hmem:=List.mem_of_getElem? hf;have eB:=bB.o.up (HKX.o _ hbw.o);obtain⟨b,o,pa,pc,da,dc,pA,xA⟩:=eB.get hf
  have aA:QbR w (In w) f.params (.slice pa f.params.length pc):=by
   obtain⟨b9,o9,vC,bC,dC,zC,jA,bA⟩:=bB.o.get hf;rw[pA]at jA;injection jA with e9;injection e9 with e1 e2;subst e1 e2;have hlt:b<w.heap.size:=bA.blt;have h1:=xA.c1;have h2:wl.cell? _=_:=((HKX.o _ hbw.o).cell (p:=⟨b,o+i*7+1,none⟩) hlt).trans bA.c1;rw[h1]at h2;injection h2 with h2;rw[h2];exact bA.nums
  obtain⟨_,hA,hnm,hsz⟩:=HZ.o.fn f hmem;have c0:=xA.c0;have c1:=xA.c1;have c2:=xA.c2;have c3:=xA.c3;have c4:=xA.c4;have c5:=xA.c5;have c6:=xA.c6;have wk:=zI i;have hb2:Below wl.heap.size wl (wl.alloc (.cells #[.string (bs f.name),.slice pa f.params.length pc,Iv f.result,Iv f.body.kind,Iv f.body.num,.string (bs f.body.name),.slice da f.body.kids.length dc] 41)):=zO.alloc zP _;have hbx:Chg [rb] w2 (wl.alloc (.cells #[.string (bs f.name),.slice pa f.params.length pc,Iv f.result,Iv f.body.kind,Iv f.body.num,.string (bs f.body.name),.slice da f.body.kids.length dc] 41)):=hbw.o.trans (Chg.of_below hb2 [rb]);have HNB:=Zh (zQ wl (.cells #[.string (bs f.name),.slice pa f.params.length pc,Iv f.result,Iv f.body.kind,Iv f.body.num,.string (bs f.body.name),.slice da f.body.kids.length dc] 41));have xC:Hi (∀W,Bel (wl.alloc (.cells #[.string (bs f.name),.slice pa f.params.length pc,Iv f.result,Iv f.body.kind,Iv f.body.num,.string (bs f.body.name),.slice da f.body.kids.length dc] 41)) W->XAt W (In W) f.body #[Iv f.body.kind,Iv f.body.num,.string (bs f.body.name),.slice da f.body.kids.length dc]):=λW hW=>(xA.body.up hb2).up hW
  have HFT:Hi (QaW (wl.alloc (.cells #[.string (bs f.name),.slice pa f.params.length pc,Iv f.result,Iv f.body.kind,Iv f.body.num,.string (bs f.body.name),.slice da f.body.kids.length dc] 41)) rb 123 (QaG none (QdX r i)) (.slice fa r.funcs.length fc)):=(hb2.block _ (Jb hft.o)).trans hft.o;obtain⟨gA,hwf⟩:=rB.o f hmem;have tA:=Zh gA;have sA:=Zh hwf;have HS:Hi (siz (utN f.body)<=1000000/\f.params.length<=1000000):=⟨hsz,hA⟩
  have sB:=Zh aA;have HY:=Zh (JhU hf);have HCB:=Zh hbx;have HG:=Zh hg;have HHI:=Zh hi;have mB:Hi (rb<wl.heap.size):=Jb hft.o;have tB:=Zh pA;subst pA;clear hb2 hbx hmem xA hbw hf hi hg eB hnm hsz hA hft gA hwf aA tB;go_upto_region 5 with fail;clear c0 c1 c2 c3 c4 c5 c6;generalize World.alloc wl _=w3 at *;generalize hcb:wl.heap.size=cb at *
  have F3:Hi (∀W,Chg [rb] w3 W->W.cell? ⟨cb,1,none⟩=some (.slice pa f.params.length pc)/\W.cell? ⟨cb,2,none⟩=some (Iv f.result)/\W.cell? ⟨cb,3,none⟩=some (Iv f.body.kind)/\W.cell? ⟨cb,4,none⟩=some (Iv f.body.num)/\W.cell? ⟨cb,5,none⟩=some (.string (bs f.body.name))/\W.cell? ⟨cb,6,none⟩=some (.slice da f.body.kids.length dc)):=by
   intro W hW;have hh:=hW.heap_some (by simp;have:=mB.o;omega) HNB.o;refine⟨?_,?_,?_,?_,?_,?_⟩<;>(rw[Ja hh];rfl)
  clear hcb;have rA:Chg [rb] w3 w3.drew:=Chg.of_below (Below.refl w3.heap.size w3).drew [rb];refine wp_region_held_drew (S:=(λW=>Chg [rb] w3 W/\W.cell? ⟨cb,1,none⟩=some (.slice pa f.params.length pc)/\W.cell? ⟨cb,2,none⟩=some (Iv f.result)/\W.cell? ⟨cb,3,none⟩=some (Iv f.body.kind)/\W.cell? ⟨cb,4,none⟩=some (Iv f.body.num)/\W.cell? ⟨cb,5,none⟩=some (.string (bs f.body.name))/\W.cell? ⟨cb,6,none⟩=some (.slice da f.body.kids.length dc))) zk (⟨rA,F3.o _ rA⟩) λhH=>?_;refine zK 0 ?_
  try simp only[zX]
  refine zK 1 ?_;try simp only[zX]
  refine zK 2 ?_;try simp only[zX]
  refine zK 4 ?_;try simp only[zX]
  refine zK 5 ?_;try simp only[zX]
  refine zK 6 ?_;try simp only[zX]
  refine zK 7 ?_;try simp only[zX]
  refine ZS 3 rfl λK hK=>?_;have cu:=YV (siz (utN f.body)) (zu HS.o.1) f.body _ w3.drew zP (xC.o _ (Below.refl w3.heap.size w3).drew)
  (go_simp;go_at_call 58;refine cu.mono ?_;rintro e w6 ⟨yb,rfl,zA,yA,vA,hb6⟩)
  clear cu;have hc6:Chg [rb] w3 w6:=rA.trans (Chg.of_below hb6 [rb]);have nA:Below w3.heap.size w3 w6:=Jd (Below.refl w3.heap.size w3).drew hb6;have uA:QaW w6 rb 123 (QaG none (QdX r i)) (.slice (some ⟨b,o,none⟩) r.funcs.length fc):=(nA.block _ (Jb HFT.o)).trans HFT.o;have cA:=Jb HFT.o;have eA:=Zh hc6;have cn:=JH r.sigs rb (.slice (some ⟨b,o,none⟩) r.funcs.length fc) yb f.params (.slice pa f.params.length pc) (QaG none (QdX r i)) f.result w6 ⟨yA,λhm=>by have:=(vA _ hm).1;have h9:w3.heap.size<=w3.drew.heap.size:=le_refl _;omega,uA,aB.o _ (HCB.o.trans hc6),nB.o _ _ _ (HKX.o _ (HCB.o.trans hc6)) sB.o,by rw[zA];exact tA.o,by rw[zA];exact sA.o⟩ (λW hp=>JcC _ rb _ HPS.o (siz yb.nd) yb f.params (.slice pa f.params.length pc) _ W zP (by have:=HS.o;rw[zA];omega) hp);rw[zA]at cn;have yB:QbF r.sigs f.params f.result (utN f.body)=tyF r f:=rfl;rw[yB]at cn;obtain⟨ya,yn,yc,kA⟩:=Jg yb;rw[kA]at cn |-;clear zA yA vA hb6 nA uA cA kA;refine zU hK (⟨eA.o,F3.o _ eA.o⟩) λhH=>?_;clear hK K
  try simp only[zX]
  refine ZS 8 rfl λK hK=>?_
  (go_simp;go_at_call 57;refine cn.mono ?_;rintro e w8 ⟨rfl,iA,dA⟩)
  clear cn;refine zU hK (⟨eA.o.trans dA,F3.o _ (eA.o.trans dA)⟩) λhH=>?_;clear hK K
  try simp only[zX]
  refine wpAnyH_done zk ?_ _;have zB:Hi (Chg [rb] w2 w8):=HCB.o.trans (eA.o.trans dA);have qA:Hi (QaW w8 rb 123 (QaG none (QdX r (i+1))) (.slice (some ⟨b,o,none⟩) r.funcs.length fc)):=by rw[Hi,HY.o,Jw];exact iA
  clear hH iA dA HCB HFT;go_wp2;go_roundg (r.funcs.length-(i+1))
  case measure=>have:=HG.o;have:=HHI.o;omega
  case rel=>exact⟨i+1,by have:=HHI.o;omega,by go_num,zB,qA⟩
 have hil:¬(i:Int)<(r.funcs.length:Int):=zo;obtain rfl:i=r.funcs.length:=zo;obtain⟨b0,b1,b2⟩:=FF.o _ hbw.o;have HBW:=Zh hbw.o;have HFT:Hi (QaW wl rb 123 (QaG none (QdX r r.funcs.length++QeK r 0)) (.slice fa r.funcs.length fc)):=by rw[Hi,show QeK r 0=[] from rfl,List.append_nil];exact hft.o
 clear hft hg hi hbw;go_wp2_with fail;clear b0 b1 b2 hil;go_loopg [32] r.clauses.length λg v32 wr=>∃j:Nat,g+j=r.clauses.length/\v32=Iv j/\Hi (Chg [rb] w2 wr)/\Hi (QaW wr rb 123 (QaG none (QdX r r.funcs.length++QeK r j)) (.slice fa r.funcs.length fc))
 case atStart=>exact⟨0,rfl,rfl,HBW,HFT⟩
 case round=>
 clear HBW HFT;obtain⟨wm,rfl⟩:=zJ wr;obtain⟨j,hg,rfl,hbw,hft⟩:=hrel
 by_cases hj:j<r.clauses.length
 ·have kB:(j:Int)<(r.clauses.length:Int):=zo;obtain⟨m,hm⟩:∃m,r.clauses[j]?=some m:=⟨r.clauses[j],List.getElem?_eq_getElem hj⟩
  have hmem:=List.mem_of_getElem? hm;have gB:=jB.o.up (HKX.o _ hbw.o);obtain⟨b,o,da,dc,iB,xA⟩:=gB.get hm;obtain⟨hnm,hsz,pB⟩:=HZ.o.cl m hmem;have c0:=xA.c0;have c1:=xA.c1;have c2:=xA.c2;have c3:=xA.c3;have c4:=xA.c4;have c5:=xA.c5;have wk:=zI j;have hb2:Below wm.heap.size wm (wm.alloc (.cells #[Iv m.cond.kind,Iv m.cond.num,.string (bs m.cond.name),.slice da m.cond.kids.length dc,Iv m.action,.string (bs m.reason)] 39)):=zO.alloc zP _;have hbx:Chg [rb] w2 (wm.alloc (.cells #[Iv m.cond.kind,Iv m.cond.num,.string (bs m.cond.name),.slice da m.cond.kids.length dc,Iv m.action,.string (bs m.reason)] 39)):=hbw.o.trans (Chg.of_below hb2 [rb]);have cu:=YV (siz (utN m.cond)) zo m.cond _ (wm.alloc (.cells #[Iv m.cond.kind,Iv m.cond.num,.string (bs m.cond.name),.slice da m.cond.kids.length dc,Iv m.action,.string (bs m.reason)] 39)) zP (xA.cond.up hb2);have HFT:Hi (QaW (wm.alloc (.cells #[Iv m.cond.kind,Iv m.cond.num,.string (bs m.cond.name),.slice da m.cond.kids.length dc,Iv m.action,.string (bs m.reason)] 39)) rb 123 (QaG none (QdX r r.funcs.length++QeK r j)) (.slice fa r.funcs.length fc)):=(hb2.block _ (Jb hft.o)).trans hft.o;obtain⟨gA,hwf⟩:=qB.o m hmem;have tA:=Zh gA;have sA:=Zh hwf;have HS:=Zh hsz;have HY:=Zh (JhV hm);have HCB:=Zh hbx;have HG:=Zh hg;have HHI:=Zh hj;subst iB;clear hb2 hbx hmem xA hbw hm hj hg gB hnm hsz pB hft gA hwf;go_wp2_with fail;clear c0 c1 c2 c3 c4 c5;generalize World.alloc wm _=w3 at *;refine cu.mono ?_;rintro e w6 ⟨yb,rfl,zA,yA,vA,hb6⟩;clear cu;have HC6:Hi (Chg [rb] w2 w6):=HCB.o.trans (Chg.of_below hb6 [rb]);have uA:QaW w6 rb 123 (QaG none (QdX r r.funcs.length++QeK r j)) (.slice fa r.funcs.length fc):=(hb6.block _ (Jb HFT.o)).trans HFT.o;have cA:=Jb HFT.o;have cn:=JH r.sigs rb (.slice fa r.funcs.length fc) yb [] Nl (QaG none (QdX r r.funcs.length++QeK r j)) 1 w6 ⟨yA,λhm=>by have:=(vA _ hm).1;omega,uA,aB.o _ HC6.o,.inl ⟨rfl,none,0,rfl⟩,by rw[zA];exact tA.o,by rw[zA];exact sA.o⟩ (λW hp=>JcC _ rb _ HPS.o (siz yb.nd) yb [] Nl _ W zP (by have:=HS.o;have:([]:List Int).length=0:=rfl;rw[zA];omega) hp);rw[zA]at cn;have yB:QbF r.sigs [] 1 (utN m.cond)=tyC r m:=rfl;rw[yB]at cn;obtain⟨ya,yn,yc,kA⟩:=Jg yb;rw[kA]at cn |-;clear zA yA vA hb6 uA cA HFT HCB kA;go_wp2_with fail;refine cn.mono ?_;rintro e w8 ⟨rfl,iA,dA⟩;have zB:Hi (Chg [rb] w2 w8):=HC6.o.trans dA;have qA:Hi (QaW w8 rb 123 (QaG none (QdX r r.funcs.length++QeK r (j+1))) (.slice fa r.funcs.length fc)):=by rw[Hi,HY.o,<- List.append_assoc,Jw];exact iA
  clear cn iA dA HC6;go_wp2;go_roundg (r.clauses.length-(j+1))
  case measure=>have:=HG.o;have:=HHI.o;omega
  case rel=>exact⟨j+1,by have:=HHI.o;omega,by go_num,zB,qA⟩
 have kB:¬(j:Int)<(r.clauses.length:Int):=zo;obtain rfl:j=r.clauses.length:=zo;have HBW:=Zh (HKX.o _ hbw.o);have hfl:=hft.o;unfold QaW at hfl;generalize QaG none (QdX r r.funcs.length++QeK r r.clauses.length)=x at *;have b0:=Ja hfl 0;simp only[zW]at b0;clear hft hg hj hbw hfl
 cases x with
 |none=>
  go_wp2;go_ret;exact⟨rfl,HBW.o⟩
 |some z=>
  go_wp2;go_ret;exact⟨rfl,HBW.o⟩
end Go.Proofs.YtfafpklefknomaaGreatDoor
