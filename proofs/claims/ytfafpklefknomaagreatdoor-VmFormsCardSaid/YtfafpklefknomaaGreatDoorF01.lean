import Derived.Deep.Slices
import Derived.Deep.Fields
import Derived.SliceStrings
import Derived.ChangeSlices
import Derived.ChangeMaps5
import Derived.ChangeArms
import Derived.Test.YtfafpklefknomaaGreatDoorR27
import Derived.Test.YtfafpklefknomaaGreatDoorR00
import Derived.Test.YtfafpklefknomaaGreatDoorR32
import Derived.Test.YtfafpklefknomaaGreatDoorR30
open List(getElem?_eq_getElem)
namespace Go.Proofs.YtfafpklefknomaaGreatDoor
open Go Go.ChangeShapes Go.WideShapes Go.ChangeAt Go.RowKit Go.Lib
open _root_.Go.Proofs.Tryz
set_option linter.all false
set_option maxRecDepth 100000
set_option maxHeartbeats 32000000
def sF(l:List FnM):Nat:=(l.map λf=>szE 0 f.body+f.params.length).sum
def sC(l:List ClM):Nat:=(l.map λc=>szE 0 c.cond).sum
def QfZ(r:Qah):Bool:=decide (r.funcs.length<=6)&&(decide (r.clauses.length<=6)&&decide (sF r.funcs+sC r.clauses<=300))
def Jnh{l:List FnM}{i:Nat}{f:FnM}(h:l[i]?=some f):sF (l.take (i+1))=sF (l.take i)+(szE 0 f.body+f.params.length):=by
 rw[List.take_add_one,h,Option.toList_some,sF,sF,List.map_append,List.sum_append];simp
def Jni{l:List ClM}{i:Nat}{f:ClM}(h:l[i]?=some f):sC (l.take (i+1))=sC (l.take i)+szE 0 f.cond:=by
 rw[List.take_add_one,h,Option.toList_some,sC,sC,List.map_append,List.sum_append];simp
def JbS{w0:World}(r:Qah)(c:Array Value)(W:World)(h1:QaV w0 (In w0) r c)(hb:Bel w0 W)(hp:∀f∈r.funcs,f.params.length<=200000000000000):Calls prog 9 #[.agg c] W (Qbj W (.bool (QfZ r))):=by
 obtain⟨fv,cv,rfl,f1,k1⟩:=h1;obtain⟨ad,cc,rfl,g1⟩:=Qdy.of FnX.len f1;obtain⟨bd,dc,rfl,g2⟩:=Qdy.of ClX.len k1;obtain⟨q,hq⟩:∃q,QfZ r=q:=⟨_,rfl⟩
 rw[hq];unfold QfZ at hq;obtain⟨fl,hfl⟩:∃fl,r.funcs.length=fl:=⟨_,rfl⟩
 obtain⟨cl,hcl⟩:∃cl,r.clauses.length=cl:=⟨_,rfl⟩
 rw[hfl,hcl]at hq;have cA:=Zh hfl;have dA:=Zh hcl;have HG1:=Zh g1;have HG2:=Zh g2;rw[hfl,hcl];clear f1 k1 g1 g2 hfl hcl;have HX:=Zh (BxB.of (zQ W (.cells #[.slice ad fl cc,.slice bd cl dc,Iv r.action] 25)));have HB0:Hi (Bel W (W.alloc (.cells #[.slice ad fl cc,.slice bd cl dc,Iv r.action] 25))):=zO.alloc (Nat.le_refl _) _;have HBW:=Zh (Jd hb HB0.o);clear hb;have HPL:=Zh hp;clear hp;go_enter func9,ntmps9;go_upto_region 1 with fail;generalize World.alloc W _=w1 at*;generalize W.heap.size=xb at*;have HBC:Hi (Bel w1 w1):=zO;obtain⟨x0,x1,x2⟩:=Qay (HX.o _ HBC.o)
 by_cases e3:6<fl
 ·have q3:decide ((fl:Int)>6)=true:=zG zo;have hqf:q=false:=by rw[<-hq,zH (by omega:¬fl<=6)];rfl
  subst hqf;clear hq e3;go_wp2;go_ret;exact⟨rfl,Jd HB0.o HBC.o⟩
 have q3:decide ((fl:Int)>6)=false:=zH zo
 by_cases e4:6<cl
 ·have q4:decide ((cl:Int)>6)=true:=zG zo;have hqf:q=false:=by rw[<-hq,zH (by omega:¬cl<=6)];simp
  subst hqf;clear hq e3 e4;go_wp2;go_ret;exact⟨rfl,Jd HB0.o HBC.o⟩
 have q4:decide ((cl:Int)>6)=false:=zH zo
 have eA:decide (sF r.funcs+sC r.clauses<=300)=q:=by
  rw[<-hq,zG (by omega:fl<=6),zG (by omega:cl<=6)];simp
 have HQ:=Zh eA;have HE:Hi (fl<=6/\cl<=6):=⟨by omega,by omega⟩
 clear hq eA e3 e4;go_wp2_with fail;go_loopg [3,4] fl λg v3 v4 wr=>∃i N:Nat,g+i=fl/\v3=Iv (N:Int)/\v4=Iv (i:Int)/\Hi (Bel w1 wr/\N=sF (r.funcs.take i)/\N<=i*200000000024801)
 case atStart=>exact⟨0,0,rfl,rfl,rfl,HBC.o,rfl,by decide⟩
 case round=>
 clear HBC q3 q4 x0 x1 x2;obtain⟨wl,rfl⟩:=zJ wr;obtain⟨i,N,hg,rfl,rfl,hws⟩:=hrel;have HBC:Hi (Bel w1 wl):=hws.o.1;have HN:=Zh hws.o.2.1;have HNB:=Zh hws.o.2.2;clear hws;obtain⟨x0,x1,x2⟩:=Qay (HX.o _ HBC.o)
 by_cases hi:i<fl
 ·have dil:decide ((i:Int)<(fl:Int))=true:=zG zo;have diN:decide (i<fl)=true:=zG hi;obtain⟨f,hf⟩:∃f,r.funcs[i]?=some f:=⟨_,List.getElem?_eq_getElem (by rw[cA.o];exact hi)⟩
  obtain⟨b1,o1,ha1,hk1⟩:=HG1.o (List.ne_nil_of_mem (List.mem_of_getElem? hf));subst ha1;obtain⟨d1,hr1,hc1⟩:=hk1 i f hf;obtain⟨pa,pc,xa,xc,rfl,uA,xA⟩:=hr1.form;have HBL:=Zh (Jd HBW.o HBC.o);have p0:wl.cell? ⟨b1,o1+i*7,none⟩=some (.string (bs f.name)):=hc1 wl HBL.o 0 _ rfl;have p1:wl.cell? ⟨b1,o1+i*7+1,none⟩=some (.slice pa f.params.length pc):=hc1 wl HBL.o 1 _ rfl;have p3:wl.cell? ⟨b1,o1+i*7+3,none⟩=some (Iv f.body.kind):=hc1 wl HBL.o 3 _ rfl;have p4:wl.cell? ⟨b1,o1+i*7+4,none⟩=some (Iv f.body.num):=hc1 wl HBL.o 4 _ rfl;have p5:wl.cell? ⟨b1,o1+i*7+5,none⟩=some (.string (bs f.body.name)):=hc1 wl HBL.o 5 _ rfl;have p6:wl.cell? ⟨b1,o1+i*7+6,none⟩=some (.slice xa f.body.kids.length xc):=hc1 wl HBL.o 6 _ rfl;have k0:0<=(i:Int):=zo;have k1:(i:Int)<(fl:Int):=zo;obtain⟨m,hm⟩:∃m,f.params.length=m:=⟨_,rfl⟩
  have gA:m<=200000000000000:=by rw[<-hm];exact HPL.o f (List.mem_of_getElem? hf)
  rw[hm]at p1;obtain⟨z,hz⟩:∃z,szE 0 f.body=z:=⟨_,rfl⟩
  have hzb:=JhY 0 f.body;rw[hz]at hzb;have cq:=YA f.body 0 _ wl zp xA HBL.o;rw[hz]at cq;rw[show ((0:Nat):Int)=0 from rfl]at cq;have yA:Hi (N+z+m=sF (r.funcs.take (i+1))):=by rw[Hi,Jnh hf,<-HN.o,hz,hm,Nat.add_assoc]
  have vA:=HNB.o;have zA:=HE.o;have HG:Hi (gk+i=fl/\i<fl/\N+z+m<=(i+1)*200000000024801):=⟨hg,hi,by omega⟩
  have wk:IntKind.i64.wrap ((i:Int)+1)=((i+1:Nat):Int):=by rw[IntWalk.i64_in _ zo];omega
  have wz:IntKind.i64.wrap ((N:Int)+(z:Int))=((N+z:Nat):Int):=by rw[IntWalk.i64_in _ zo];omega
  have jA:IntKind.i64.wrap (((N+z:Nat):Int)+(m:Int))=((N+z+m:Nat):Int):=by rw[IntWalk.i64_in _ zo];omega
  have iA:IntKind.i64.wrap ((N:Int)+(z:Int)+(m:Int))=(N:Int)+(z:Int)+(m:Int):=IntWalk.i64_in _ zo
  have aA:∀W,Bel w1 W->Calls prog 19 #[.agg #[Iv f.body.kind,Iv f.body.num,.string (bs f.body.name),.slice xa f.body.kids.length xc],Iv 0] W (Qbj W (Iv (z:Nat))):=λW hW=>by
   have cq:=YA f.body 0 _ W zp xA (Jd HBW.o hW);rw[hz]at cq;exact cq
  have KC:Hi (∀W,Bel w1 W->W.cell? ⟨b1,o1+i*7+1,none⟩=some (.slice pa m pc)/\W.cell? ⟨b1,o1+i*7+3,none⟩=some (Iv f.body.kind)/\W.cell? ⟨b1,o1+i*7+4,none⟩=some (Iv f.body.num)/\W.cell? ⟨b1,o1+i*7+5,none⟩=some (.string (bs f.body.name))/\W.cell? ⟨b1,o1+i*7+6,none⟩=some (.slice xa f.body.kids.length xc)):=λW hW=>by
   have hl:=Jd HBW.o hW;exact⟨by rw[<-hm];exact hc1 W hl 1 _ rfl,hc1 W hl 3 _ rfl,hc1 W hl 4 _ rfl,hc1 W hl 5 _ rfl,hc1 W hl 6 _ rfl⟩
  have CQ:=Zh aA;clear hg hi hf hk1 hr1 hc1 uA xA hz hzb vA zA gA hm HN HNB aA p0 p1 p3 p4 p5 p6;go_upto_region 7 with fail;have HD:Hi (Bel w1 wl.drew):=HBC.o.drew;clear x0 x1 x2;refine wp_region_held_drew (S:=(λW=>W.cell? ⟨xb,0,none⟩=some (.slice (some ⟨b1,o1,none⟩) fl cc)/\W.cell? ⟨b1,o1+i*7+1,none⟩=some (.slice pa m pc)/\W.cell? ⟨b1,o1+i*7+3,none⟩=some (Iv f.body.kind)/\W.cell? ⟨b1,o1+i*7+4,none⟩=some (Iv f.body.num)/\W.cell? ⟨b1,o1+i*7+5,none⟩=some (.string (bs f.body.name))/\W.cell? ⟨b1,o1+i*7+6,none⟩=some (.slice xa f.body.kids.length xc))) zk (⟨(Qay (HX.o _ HD.o)).1,KC.o _ HD.o⟩) λhH=>?_;refine zK 0 ?_
  try simp only[zX]
  refine zK 1 ?_;try simp only[zX]
  refine zK 2 ?_;try simp only[zX]
  refine zK 3 ?_;try simp only[zX]
  refine zK 4 ?_;try simp only[zX]
  refine zK 5 ?_;try simp only[zX]
  refine zK 6 ?_;try simp only[zX]
  refine zK 9 ?_;try simp only[zX]
  refine zK 10 ?_;try simp only[zX]
  refine zK 11 ?_;try simp only[zX]
  refine zK 12 ?_;try simp only[zX]
  refine zK 13 ?_;try simp only[zX]
  refine zK 14 ?_;try simp only[zX]
  refine zK 15 ?_;try simp only[zX]
  refine ZS 7 rfl λK hK=>?_
  (have cq:=CQ.o _ HD.o;go_simp;go_at_call 19;refine cq.mono ?_;clear cq;rintro e w8 ⟨rfl,hbb⟩)
  have HBD:Hi (Bel w1 w8):=Jd HD.o hbb;clear hbb;refine zU hK (⟨(Qay (HX.o _ HBD.o)).1,KC.o _ HBD.o⟩) λhH=>?_;clear hK K
  try simp only[zX]
  refine zK 8 ?_;try simp only[zX]
  refine zK 16 ?_;try simp only[zX]
  refine zK 17 ?_;try simp only[zX]
  refine wpAnyH_done zk ?_ _;clear hH CQ KC HD;go_wp2;go_roundg (fl-(i+1))
  case measure=>have:=HG.o;omega
  case rel=>exact⟨i+1,N+z+m,by have:=HG.o;omega,rfl,rfl,HBD.o,yA.o,HG.o.2.2⟩
 have dil:decide ((i:Int)<(fl:Int))=false:=zH zo;have diN:decide (i<fl)=false:=zH hi;have bA:r.funcs.take i=r.funcs:=List.take_of_length_le (by rw[cA.o];omega);have HQ2:=Zh HQ.o
 have yA:Hi (N=sF r.funcs/\N<=1300000000000000):=by
  have h:=HN.o;have h2:=HNB.o;have h3:=HE.o;rw[bA]at h;exact⟨h,by omega⟩
 clear hg hi bA HN HNB HQ;go_wp2_with fail;clear dil diN x0 x1 x2;go_loopg [3,5] cl λg v3 v5 wr=>∃i M:Nat,g+i=cl/\v3=Iv (M:Int)/\v5=Iv (i:Int)/\Hi (Bel w1 wr/\M=N+sC (r.clauses.take i)/\M<=1300000000000000+i*24801)
 case atStart=>exact⟨0,N,rfl,rfl,rfl,HBC.o,rfl,by have:=yA.o;omega⟩
 case round=>
 clear HBC;obtain⟨wm,rfl⟩:=zJ wr;obtain⟨j,M,hg,rfl,rfl,hws⟩:=hrel;have HBC:Hi (Bel w1 wm):=hws.o.1;have HN:=Zh hws.o.2.1;have HNB:=Zh hws.o.2.2;clear hws;obtain⟨x0,x1,x2⟩:=Qay (HX.o _ HBC.o)
 by_cases hi:j<cl
 ·have dil:decide ((j:Int)<(cl:Int))=true:=zG zo;have diN:decide (j<cl)=true:=zG hi;obtain⟨f,hf⟩:∃f,r.clauses[j]?=some f:=⟨_,List.getElem?_eq_getElem (by rw[dA.o];exact hi)⟩
  obtain⟨b1,o1,ha1,hk1⟩:=HG2.o (List.ne_nil_of_mem (List.mem_of_getElem? hf));subst ha1;obtain⟨d1,hr1,hc1⟩:=hk1 j f hf;obtain⟨xa,xc,rfl,xA⟩:=hr1.form;have HBL:=Zh (Jd HBW.o HBC.o);have p0:wm.cell? ⟨b1,o1+j*6,none⟩=some (Iv f.cond.kind):=hc1 wm HBL.o 0 _ rfl;have p1:wm.cell? ⟨b1,o1+j*6+1,none⟩=some (Iv f.cond.num):=hc1 wm HBL.o 1 _ rfl;have p2:wm.cell? ⟨b1,o1+j*6+2,none⟩=some (.string (bs f.cond.name)):=hc1 wm HBL.o 2 _ rfl;have p3:wm.cell? ⟨b1,o1+j*6+3,none⟩=some (.slice xa f.cond.kids.length xc):=hc1 wm HBL.o 3 _ rfl;have k0:0<=(j:Int):=zo;have k1:(j:Int)<(cl:Int):=zo;obtain⟨z,hz⟩:∃z,szE 0 f.cond=z:=⟨_,rfl⟩
  have hzb:=JhY 0 f.cond;rw[hz]at hzb;have cq:=YA f.cond 0 _ wm zp xA HBL.o;rw[hz]at cq;rw[show ((0:Nat):Int)=0 from rfl]at cq;have HN3:Hi (M+z=N+sC (r.clauses.take (j+1))):=by rw[Hi,Jni hf,HN.o,hz,Nat.add_assoc]
  have vA:=HNB.o;have zA:=HE.o;have HG:Hi (gk+j=cl/\j<cl/\M+z<=1300000000000000+(j+1)*24801):=⟨hg,hi,by omega⟩
  have wk:IntKind.i64.wrap ((j:Int)+1)=((j+1:Nat):Int):=by rw[IntWalk.i64_in _ zo];omega
  have wz:IntKind.i64.wrap ((M:Int)+(z:Int))=((M+z:Nat):Int):=by rw[IntWalk.i64_in _ zo];omega
  clear hg hi hf hk1 hr1 hc1 xA hz hzb vA zA HN HNB;go_wp2_with fail;refine cq.mono ?_;rintro e w8 ⟨rfl,hbb⟩;have HBD:Hi (Bel w1 w8):=Jd HBC.o hbb;clear cq x0 x1 x2 p0 p1 p2 p3 hbb;go_wp2;go_roundg (cl-(j+1))
  case measure=>have:=HG.o;omega
  case rel=>exact⟨j+1,M+z,by have:=HG.o;omega,rfl,rfl,HBD.o,HN3.o,HG.o.2.2⟩
 have dil:decide ((j:Int)<(cl:Int))=false:=zH zo;have diN:decide (j<cl)=false:=zH hi
 have hA:decide ((M:Int)<=300)=q:=by
  have h:=HN.o;rw[List.take_of_length_le (by rw[dA.o];omega),yA.o.1]at h;rw[<-HQ2.o,<-h];exact decide_eq_decide.2 zo
 clear hg hi HN HNB;go_wp2;go_ret;exact⟨rfl,Jd HB0.o HBC.o⟩
open Go.ChangeShapes Go.WideShapes Go.RowKit Go.Deep
open Go.Joins
section
variable {H:Type}{enc:TypeId×Value->H}{P:Program}{w:World}{base:Nat}{spare:Nat->Bool}{held:Bool}
def JfA{r:Go.Reach}{b0:Nat}{t:TypeId}{fs:Array Field}{v:Value}{d:DataW H}{p:List MemPlace}(hs:P.underlying t=some (.struct fs))(hone:oneCellFields P fs=true)(hC:P.cellsOf t=fs.size)
  (hv:Value.okWide P w r b0 t v) (h:DataW.Trod enc P w base spare held t v d p):
  ∃cs:List Value,v=.agg cs.toArray/\cs.length=fs.size/\∀(j:Nat)(f:Field),fs[j]?=some f->∃(v:Value) (y:DataW H×List MemPlace) (n:Nat),cs[j]?=some v/\DataW.trod enc P w base spare held n f.type [v]=some y:=by
 obtain⟨cs,rfl,hsz⟩:=okWide_struct hs hv;obtain⟨l⟩:=cs;obtain⟨zA,hf⟩:=h;obtain⟨ys,n,_,hx,_,vA,hg⟩:=DataW.trod_struct hs hf;have yA:l.length=fs.size:=hsz.trans hC;refine⟨l,rfl,yA,λj f hj=>?_⟩;obtain⟨ho,hk⟩:=hone_of hone j f hj;have aA:j<fs.size:=(Array.getElem?_eq_some_iff.1 hj).1;have h1:=hg j f hj;rw[ho,hk]at h1;have hcl:(Value.cells (.agg l.toArray)).toList=l:=rfl;rw[hcl]at h1
 have xA:(l.drop j).take 1=[l[j]'(by omega)]:=by
  rw[List.drop_eq_getElem_cons zo];rfl
 rw[xA]at h1;have uA:ys[j]?=some (ys[j]'(by omega)):=getElem?_eq_getElem zo;exact⟨_,_,n,getElem?_eq_getElem zo,h1.trans uA⟩
end
def Jdr{α:Type}(z:α){n:Nat}{P:Nat->α->Prop}(h:∀i,i<n->∃x,P i x):∃f:Nat->α,∀i,i<n->P i (f i):=
 ⟨λi=>if hi:i<n then (h i hi).choose else z,λi hi=>by
  have:=(h i hi).choose_spec
  simpa[hi] using this⟩
def Jbg{α:Type}(z:α){n:Nat}{P:Nat->α->Prop}(h:∀i,i<n->∃x,P i x):∃l:List α,l.length=n/\(∀i x,l[i]?=some x->P i x)/\∀x,x∈l->∃i,i<n/\P i x:=by
 obtain⟨f,hf⟩:=Jdr z h;refine⟨(List.range n).map f,by simp,λi x hx=>?_,λx hx=>?_⟩
 ·simp only[List.getElem?_map]at hx
  have hil:i<n:=by
   rcases Nat.lt_or_ge i n with h|h
   ·exact h
   ·rw[List.getElem?_eq_none (by simpa using h)]at hx;simp at hx
  rw[List.getElem?_range hil]at hx;simp only[Option.map_some,Option.some.injEq]at hx;subst hx;exact hf i hil
 ·obtain⟨i,hi,rfl⟩:=List.mem_map.1 hx;exact⟨i,by simpa using hi,hf i (by simpa using hi)⟩
def Jds{w:World}{a:Addr}{v:Value}(h:w.cell? a=some v):a.spot=none:=by
 unfold World.cell? at h;split at h
 ·cases hs:a.spot with
  |none=>rfl
  |some x=>simp[hs]at h
 ·cases h
def Jjd{w:World}{a:Addr}{v:Value}(h:w.cell? a=some v):a.block<w.heap.size:=by
 refine Nat.lt_of_not_le λhn=>?_
 unfold World.cell? at h;rw[Array.getElem?_eq_none hn]at h;simp at h
def Jje{a:Addr}(h:a.spot=none)(n:Nat):a.add n=⟨a.block,a.off+n,none⟩:=by
 unfold Addr.add;split
 ·next e=>subst e;cases a;simp_all
 ·rfl
def YK:maxLen=9223372036854775807:=rfl
theorem Qhk{P:Prop}(h:P:=by
  refine⟨b,?_,?_⟩
  ·rw[Nat.div_eq_sub_div hm (by omega)];exact h1
  ·rw[Nat.mod_eq_sub_mod (by omega)]
   exact h2):P:=h
def Qdt{α:Type}(g:α->List Value)(m:Nat)(hm:0<m):∀(l:List α),(∀a∈l,(g a).length=m)->∀(i:Nat)(u:Value),(l.flatMap g)[i]?=some u->∃a,l[i / m]?=some a/\(g a)[i % m]?=some u
 |[],_,i,u,h=>by simp at h
 |a::l,hg,i,u,h=>by
  have ha:=hg a zq;rw[List.flatMap_cons]at h
  by_cases hi:i<m
  ·rw[List.getElem?_append_left (by rw[ha];exact hi)]at h;exact⟨a,by rw[Nat.div_eq_of_lt hi];rfl,by rw[Nat.mod_eq_of_lt hi];exact h⟩
  ·rw[List.getElem?_append_right (by rw[ha];omega),ha]at h;obtain⟨b,h1,h2⟩:=Qdt g m hm l (λb hb=>hg b (by simp[hb])) (i-m) u h;exact Qhk
def Jav{α:Type}{R:α->List Value->Prop}:∀(l:List (α×List Value)),(∀p∈l,R p.1 p.2)->QbM R (l.map (·.1)) (l.flatMap (·.2))
 |[],_=>rfl
 |p::l,h=>⟨p.2,_,h p zq,by simp,Jav l λq hq=>h q (by simp[hq])⟩
section
variable {H:Type}{enc:TypeId×Value->H}{P:Program}{w:World}{base:Nat}{spare:Nat->Bool}{held:Bool}
def YM{t e:TypeId}{m fuel:Nat}{v:Value}{x:DataW H×List MemPlace}{α:Type}(z:α)(R:α->List Value->Prop)(hm:0<m)(ht:P.underlying t=some (.slice e))(hC:P.cellsOf e=m)
  (hel:∀n,n<fuel->∀cs x,cs.length=m->DataW.trod enc P w base spare held n e cs=some x->∃a,R a cs) (h:DataW.trod enc P w base spare held fuel t [v]=some x):∃l:List α,Qan w (In w) R l v/\l.length<=9223372036854775807/\∀y∈l,∃cs,R y cs:=by
 rcases DataW.trod_slice ht h with⟨hcs,_⟩|⟨a,len,cap,elems,rest,n,hf,hcs,_,_,hle,hcm,hlen,hel',_,_⟩
 ·simp at hcs;subst hcs;exact⟨[],⟨none,0,[],rfl,Nat.le_refl _,rfl,.inl rfl⟩,by simp,λy hy=>by cases hy⟩
 ·simp at hcs;subst hcs hf
  have bA:∀i,i<len->∃p:α×List Value,p.2.length=m/\R p.1 p.2/\∀j,j<m->w.cell? (a.add (i*m+j))=p.2[j]?:=by
   intro i hi;have h1:=hel' i hi;rw[hC,List.getElem?_eq_getElem zo]at h1;obtain⟨zA,hc,cA⟩:=Option.bind_eq_some_iff.1 h1;obtain⟨_,hcl,hat⟩:=World.cells?_some hc;obtain⟨y,hy⟩:=hel n (Nat.lt_succ_self _) zA _ hcl cA;exact⟨(y,zA),hcl,hy,λj hj=>by rw[<-Go.Deep.add_add];exact hat j hj⟩
  obtain⟨l,yA,vA,xA⟩:=Jbg (z,([]:List Value)) bA;rw[YK]at hcm
  refine⟨l.map (·.1),⟨some a,cap,l.flatMap (·.2),by simp[yA],by simpa[yA] using hle,Jav l λp hp=>?_,?_⟩,by rw[List.length_map];omega,λy hy=>by
   obtain⟨p,hp,rfl⟩:=List.mem_map.1 hy;obtain⟨i,_,_,h2,_⟩:=xA p hp
   exact⟨_,h2⟩⟩
  ·obtain⟨i,_,_,h2,_⟩:=xA p hp;exact h2
  ·cases l with
   |nil=>exact .inl rfl
   |cons p0 l0=>
    refine .inr ?_;obtain⟨q1,_,q3⟩:=vA 0 p0 rfl;have h0:=q3 0 hm;obtain⟨u0,dA⟩:∃u,p0.2[0]?=some u:=⟨_,List.getElem?_eq_getElem zo⟩
    rw[dA]at h0;have aA:w.cell? a=some u0:=by simpa[Addr.add] using h0
    have uA:=Jds aA;refine⟨a.block,a.off,by rw[<-uA],Jjd aA,λj u hj=>?_⟩;obtain⟨p,hp,hu⟩:=Qdt (λp:α×List Value=>p.2) m hm _ (λp hp=>by obtain⟨_,_,h1,_⟩:=xA p hp;exact h1) _ _ hj;obtain⟨h1,_,h3⟩:=vA _ p hp;have h4:=h3 (j % m) (Nat.mod_lt _ hm);rw[Jje uA,show j / m*m+j % m=j by rw[Nat.mul_comm];exact Nat.div_add_mod j m]at h4;exact h4.trans hu
end
def Jjg{W:World}{P:Nat->Prop}:∀{l:List Exp}{xs:List Value},QbM (λe c=>XAt W P e c.toArray/\NmN e) l xs->QcR W P l xs/\NmL l
 |[],xs,h=>⟨by unfold QcR;exact h,by unfold NmL;trivial⟩
 |e::l,xs,⟨c,r,h1,h2,h3⟩=>by
  obtain⟨g1,g2⟩:=Jjg h3;exact⟨by unfold QcR;exact⟨c.toArray,r,h1.1,h2,g1⟩,by unfold NmL;exact⟨h1.2,g2⟩⟩
section
variable {H:Type}{enc:TypeId×Value->H}{w:World}{base:Nat}{spare:Nat->Bool}{held:Bool}
def Ky{n:Nat}{t:TypeId}{l:List Value}{i:Nat}{o:Option (DataW H×List MemPlace)}{v:Value}(h:DataW.trod enc prog w base spare held n t ((l.drop i).take 1)=o)(ho:o.isSome=true)(hv:l[i]?=some v):∃y,DataW.trod enc prog w base spare held n t [v]=some y:=by
 obtain⟨y,hy⟩:=Option.isSome_iff_exists.1 ho;have hi:=(List.getElem?_eq_some_iff.1 hv).1
 have e:(l.drop i).take 1=[v]:=by
  rw[List.drop_eq_getElem_cons hi];have:=(List.getElem?_eq_some_iff.1 hv).2;rw[this];rfl
 exact⟨y,by rw[<-e,h,hy]⟩
def JfC:∀(yA:Nat)(cs:List Value)(x:DataW H×List MemPlace),DataW.trod enc prog w base spare held yA 37 cs=some x->∃E:Exp,XAt w (In w) E cs.toArray/\NmN E:=by
 intro yA
 induction yA using Nat.strongRecOn with
 |_ yA ih=>
  intro cs x h;obtain⟨xs,n,hf,_,hl,vA,hg⟩:=DataW.trod_struct underlying37 h;have uA:prog.cellsOf 37=4:=zk;rw[uA]at hl
  match cs,hl with
  |[v0,v1,v2,v3],_=>
  have g0:=hg 0 _ rfl;have g1:=hg 1 _ rfl;have g2:=hg 2 _ rfl;have g3:=hg 3 _ rfl;have xA:∀i,i<4->(xs[i]?).isSome=true:=λi hi=>by rw[List.getElem?_eq_getElem (by rw[vA];exact hi)];rfl
  obtain⟨y0,t0⟩:=Ky g0 (xA 0 zp) rfl;obtain⟨y1,t1⟩:=Ky g1 (xA 1 zp) rfl;obtain⟨y2,t2⟩:=Ky g2 (xA 2 zp) rfl;obtain⟨y3,t3⟩:=Ky g3 (xA 3 zp) rfl;obtain⟨k,e0,_,_⟩:=DataW.trod_int underlying3 t0;obtain⟨nn,e1,_,_⟩:=DataW.trod_int underlying3 t1;obtain⟨s0,e2,_,zA⟩:=DataW.trod_string underlying9 t2;simp at e0 e1 e2;obtain⟨s,rfl⟩:=Zv s0;subst e0 e1 e2;obtain⟨l,⟨ad,cc,ys,rfl,h2,h3,h4⟩,_,_⟩:=YM (m:=4) (.mk 0 0 [] []:Exp) (λe c=>XAt w (In w) e c.toArray/\NmN e) zp underlying35 uA (λn' hn' cs' x' _ ht'=>ih n' zo cs' x' ht') t3;obtain⟨g1,g2⟩:=Jjg h3;rw[YK,JJ]at zA;refine⟨.mk k nn s l,?_,?_⟩
  ·unfold XAt;exact⟨ad,cc,ys,rfl,h2,g1,h4⟩
  ·unfold NmN;exact⟨zA,g2⟩
def Jaw{n:Nat}{t:TypeId}{l:List Value}{i:Nat}{o:Option (DataW H×List MemPlace)}{v0 v1 v2 v3:Value}(h:DataW.trod enc prog w base spare held n t ((l.drop i).take 4)=o)(ho:o.isSome=true)(hv:(l.drop i).take 4=[v0,v1,v2,v3]):∃y,DataW.trod enc prog w base spare held n t [v0,v1,v2,v3]=some y:=by
 obtain⟨y,hy⟩:=Option.isSome_iff_exists.1 ho;exact⟨y,by rw[<-hv,h,hy]⟩
def Jjh{fuel:Nat}{v:Value}{x:DataW H×List MemPlace}(h:DataW.trod enc prog w base spare held fuel 29 [v]=some x):∃l:List Int,QbR w (In w) l v/\l.length<=9223372036854775807:=by
 obtain⟨l,⟨ad,cc,ys,h1,h2,h3,h4⟩,xA,_⟩:=YM (m:=1) (0:Int) (λn c=>c=[Iv n]) zp underlying29 zk (λn' _ cs' x' hc ht'=>by
  match cs',hc with
  |[u],_=>
   obtain⟨k,e,_,_⟩:=DataW.trod_int underlying3 ht'
   exact⟨k,e⟩) h
 refine⟨l,⟨ad,cc,h1,h2,h4.imp id ?_⟩,xA⟩;rintro⟨b,o,h5,h6,h7⟩;refine⟨b,o,h5,h6,λi n hi=>h7 i _ ?_⟩
 have hg:∀(l:List Int)(ys:List Value)(i:Nat)(n:Int),QbM (λn c=>c=[Value.int .i64 n]) l ys->l[i]?=some n->ys[i]?=some (Iv n):=by
  intro l
  induction l with
  |nil=>intro ys i n _ hi;simp at hi
  |cons a l ih=>
   rintro ys i n ⟨c,r,rfl,rfl,hr⟩ hi
   cases i with
   |zero=>simpa using hi
   |succ i=>simpa using ih r i n hr (by simpa using hi)
 exact hg l ys i n h3 hi
def Jnj{fuel:Nat}{cs:List Value}{x:DataW H×List MemPlace}(hl:cs.length=7)(h:DataW.trod enc prog w base spare held fuel 41 cs=some x):∃f:FnM,FnX w (In w) f cs/\f.name.length<=9223372036854775807/\f.params.length<=9223372036854775807/\NmN f.body:=by
 obtain⟨xs,n,_,_,_,zA,hg⟩:=DataW.trod_struct underlying41 h
 match cs,hl with
 |[v0,v1,v2,v3,v4,v5,v6],_=>
 have g0:=hg 0 _ rfl;have g1:=hg 1 _ rfl;have g2:=hg 2 _ rfl;have g3:=hg 3 _ rfl;have xA:∀i,i<4->(xs[i]?).isSome=true:=λi hi=>by rw[List.getElem?_eq_getElem (by rw[zA];exact hi)];rfl
 obtain⟨y0,t0⟩:=Ky g0 (xA 0 zp) rfl;obtain⟨y1,t1⟩:=Ky g1 (xA 1 zp) rfl;obtain⟨y2,t2⟩:=Ky g2 (xA 2 zp) rfl;obtain⟨y3,t3⟩:=Jaw g3 (xA 3 zp) rfl;obtain⟨s0,e0,_,yA⟩:=DataW.trod_string underlying9 t0;obtain⟨rt,e2,_,_⟩:=DataW.trod_int underlying3 t2;simp at e0 e2;obtain⟨s,rfl⟩:=Zv s0;subst e0 e2;obtain⟨ps,vA,uA⟩:=Jjh t1;obtain⟨E,hE,hn⟩:=JfC n _ _ t3;rw[YK,JJ]at yA;exact⟨⟨s,ps,rt,E⟩,⟨v1,_,vA,hE,rfl⟩,yA,uA,hn⟩
def Jnk{fuel:Nat}{cs:List Value}{x:DataW H×List MemPlace}(hl:cs.length=6)(h:DataW.trod enc prog w base spare held fuel 39 cs=some x):∃c:ClM,ClX w (In w) c cs/\NmN c.cond/\c.reason.length<=9223372036854775807:=by
 obtain⟨xs,n,_,_,_,zA,hg⟩:=DataW.trod_struct underlying39 h
 match cs,hl with
 |[v0,v1,v2,v3,v4,v5],_=>
 have g0:=hg 0 _ rfl;have g1:=hg 1 _ rfl;have g2:=hg 2 _ rfl;have xA:∀i,i<3->(xs[i]?).isSome=true:=λi hi=>by rw[List.getElem?_eq_getElem (by rw[zA];exact hi)];rfl
 obtain⟨y0,t0⟩:=Jaw g0 (xA 0 zp) rfl;obtain⟨y1,t1⟩:=Ky g1 (xA 1 zp) rfl;obtain⟨y2,t2⟩:=Ky g2 (xA 2 zp) rfl;obtain⟨ac,e1,_,_⟩:=DataW.trod_int underlying3 t1;obtain⟨s0,e2,_,yA⟩:=DataW.trod_string underlying9 t2;simp at e1 e2;obtain⟨s,rfl⟩:=Zv s0;subst e1 e2;obtain⟨E,hE,hn⟩:=JfC n _ _ t0;rw[YK,JJ]at yA;exact⟨⟨E,ac,s⟩,⟨_,hE,rfl⟩,hn,yA⟩
structure RNm(r:Qah):Prop where
 nf:r.funcs.length<=9223372036854775807
 nc:r.clauses.length<=9223372036854775807
 fn:∀f∈r.funcs,f.name.length<=9223372036854775807/\f.params.length<=9223372036854775807/\NmN f.body
 cl:∀c∈r.clauses,NmN c.cond/\c.reason.length<=9223372036854775807
def Jax{r:Go.Reach}{b0:Nat}{v:Value}{d:DataW H}{p:List MemPlace}(hv:Value.okWide prog w r b0 25 v)(h:DataW.Trod enc prog w base spare held 25 v d p):∃(q:Qah) (c:Array Value),v=.agg c/\QaV w (In w) q c/\RNm q:=by
 obtain⟨cs,rfl,xA,hg⟩:=JfA underlying25 zk zk hv h;obtain⟨v0,y0,k0,c0,t0⟩:=hg 0 _ rfl;obtain⟨v1,y1,k1,c1,t1⟩:=hg 1 _ rfl;obtain⟨v2,y2,k2,c2,t2⟩:=hg 2 _ rfl;obtain⟨ac,e2,_,_⟩:=DataW.trod_int underlying3 t2;simp at e2;subst e2;obtain⟨fs,aA,hfl,yA⟩:=YM (m:=7) (⟨[],[],0,.mk 0 0 [] []⟩:FnM) (λf c=>FnX w (In w) f c/\f.name.length<=9223372036854775807/\f.params.length<=9223372036854775807/\NmN f.body) zp underlying22 zk (λn' _ cs' x' hc ht'=>Jnj hc ht') t0;obtain⟨ks,vA,zA,uA⟩:=YM (m:=6) (⟨.mk 0 0 [] [],0,[]⟩:ClM) (λf c=>ClX w (In w) f c/\NmN f.cond/\f.reason.length<=9223372036854775807) zp underlying23 zk (λn' _ cs' x' hc ht'=>Jnk hc ht') t1
 match cs,xA with
 |[u0,u1,u2],_=>
 simp at c0 c1 c2;subst c0 c1 c2;exact⟨⟨fs,ks,ac⟩,_,rfl,⟨_,_,rfl,aA.keep (λ_ _=>rfl) (λ_ h=>h) λ_ _ h=>h.1,vA.keep (λ_ _=>rfl) (λ_ h=>h) λ_ _ h=>h.1⟩,hfl,zA,λf hf=>by obtain⟨_,h⟩:=yA f hf;exact h.2,λc hc=>by obtain⟨_,h⟩:=uA c hc;exact h.2⟩
end
def Jls:∀{l:List FnM}{f:FnM},f∈l->szE 0 f.body+f.params.length<=sF l
 |x::l,f,h=>by
  rw[show sF (x::l)=(szE 0 x.body+x.params.length)+sF l from rfl]
  rcases List.mem_cons.1 h with rfl|h
  ·omega
  ·have:=Jls h;omega
def Jlt:∀{l:List ClM}{c:ClM},c∈l->szE 0 c.cond<=sC l
 |x::l,c,h=>by
  rw[show sC (x::l)=szE 0 x.cond+sC l from rfl]
  rcases List.mem_cons.1 h with rfl|h
  ·omega
  ·have:=Jlt h;omega
def V0{r:Qah}(h:QfZ r=true)(hn:RNm r):RSz r/\(Qac r).ops.length<=40000000/\r.funcs.length<=6/\r.clauses.length<=6:=by
 unfold QfZ at h;simp only[Bool.and_eq_true,decide_eq_true_eq]at h;obtain⟨h1,h2,h3⟩:=h
 have hF:∀f∈r.funcs,f.params.length<=300/\siz (utN f.body)<=300:=λf hf=>by
  have g2:=Jls hf;have g3:=Jed f.body 0 zo;exact⟨by omega,by omega⟩
 have hC:∀c∈r.clauses,siz (utN c.cond)<=300:=λc hc=>by
  have g2:=Jlt hc;have g3:=Jed c.cond 0 zo;omega
 refine⟨⟨by omega,by omega,λf hf=>?_,λc hc=>?_⟩,?_,h1,h2⟩
 ·obtain⟨g1,g2⟩:=hF f hf;exact⟨(hn.fn f hf).1,by omega,(hn.fn f hf).2.2,by omega⟩
 ·have g:=hC c hc;exact⟨(hn.cl c hc).1,by omega,(hn.cl c hc).2⟩
 ·have:=Jeh h1 h2 (λf hf=>(hF f hf).2) hC;omega
end Go.Proofs.YtfafpklefknomaaGreatDoor


