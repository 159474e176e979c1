import Derived.SizedLaws
import Derived.Test.YtfafpklefknomaaGreatDoorCards
import Derived.Test.YtfafpklefknomaaGreatDoorTie
import Derived.SevenTiedAt
import Derived.ChangeVars
import Derived.JoinedOf
import Derived.JoinedAt
import Derived.RowKit
import Derived.RowKit3
import Derived.RowKitTokens
import Derived.Test.YtfafpklefknomaaGreatDoorF00
import Derived.Test.YtfafpklefknomaaGreatDoorF01
open Nat(le_refl)
open List(getElem?_map mem_map)
namespace Go.Proofs.YtfafpklefknomaaGreatDoor
open Go Go.ChangeShapes Go.WideShapes Go.ChangeAt Go.RowKit Go.Lib
open _root_.Go.Proofs.Tryz
set_option linter.all false
set_option maxRecDepth 100000
set_option maxHeartbeats 32000000
structure Qfm(v:World)(k:Nat)(c:Qaf)(d:Array Value):Prop where
 box:BxB 31 v k d
 cv:CV v v.heap.size c d
def Qfm.of{u:World}{c:Qaf}{d:Array Value}(h:CV u u.heap.size c d):Qfm (u.alloc (.cells d 31)) u.heap.size c d:=
 ⟨BxB.of (zQ u _),(h.up (zO.alloc zP _)).mono zq⟩
open Go Go.ChangeShapes Go.WideShapes Go.RowKit Go.Deep Go.Lib
section
variable {H:Type}{enc:TypeId×Value->H}{P:Program}{w:World}{base:Nat}{spare:Nat->Bool}{held:Bool}
def Qbs(P:Program)(t:TypeId)(d:DataW H):Prop:=∀n∈d.weights P t,n<=reachBytes
def V4{e:TypeId}:∀{l:List (DataW H)}{d:DataW H},d∈l->∀n∈d.weights P e,n∈DataW.weightsAll P e l
 |x::l,d,h,n,hn=>by
  rw[DataW.weightsAll,List.mem_append]
  rcases List.mem_cons.1 h with rfl|h
  ·exact .inl hn
  ·exact .inr (V4 h n hn)
def Qbs.slice{t e:TypeId}{a b:List (DataW H)}(h:Qbs P t (.slice a b))(hu:P.underlying t=some (.slice e)):(a.length+b.length)*P.bytesOf e<=reachBytes/\∀d∈a,Qbs P e d:=by
 unfold Qbs at h
 have e1:DataW.weights P t (.slice a b)=(a.length+b.length)*P.bytesOf e::(DataW.weightsAll P e a++DataW.weightsAll P e b):=by
  rw[DataW.weights,hu]
 rw[e1]at h;refine⟨h _ zq,λd hd n hn=>h n ?_⟩;rw[List.mem_cons,List.mem_append];exact .inr (.inl (V4 hd n hn))
def Qbs.agg{t:TypeId}{fs:Array Field}{l:List (DataW H)}(h:Qbs P t (.agg l))(hu:P.underlying t=some (.struct fs)){i:Nat}{f:Field}{d:DataW H}(hf:fs[i]?=some f)(hd:l[i]?=some d):Qbs P f.type d:=by
 unfold Qbs at h
 have e1:DataW.weights P t (.agg l)=DataW.weightsEach P (fs.toList.map (·.type)) l:=by
  rw[DataW.weights,hu]
 rw[e1]at h;refine λn hn=>h n (DataW.weights_mem_each (t:=f.type) (d:=d) (j:=i) ?_ hd n hn)
 rw[getElem?_map,Array.getElem?_toList,hf];rfl
def Jay{t e:TypeId}{fuel:Nat}{x:DataW H×List MemPlace}{ad:Option Addr}{n c:Nat}(hu:P.underlying t=some (.slice e))(hb:1<=P.bytesOf e)(h:DataW.trod enc P w base spare held fuel t [.slice ad n c]=some x)(hw:Qbs P t x.1):n<=reachBytes:=by
 rcases DataW.trod_slice hu h with⟨hcs,_⟩|⟨a,len,cap,elems,rest,m,hf,hcs,hx,_,hle,hcm,hlen,_⟩
 ·simp at hcs;omega
 ·simp at hcs;obtain⟨_,rfl,_⟩:=hcs;rw[hx]at hw;obtain⟨h1,_⟩:=hw.slice hu;rw[List.length_map,hlen]at h1;have:n*1<=(n+(rest.map (·.1)).length)*P.bytesOf e:=Nat.mul_le_mul zo hb;omega
end
section
variable {H:Type}{enc:TypeId×Value->H}{w:World}{base:Nat}{spare:Nat->Bool}{held:Bool}
def JkZ{l:List Value}{i:Nat}{v:Value}(hv:l[i]?=some v):(l.drop i).take 1=[v]:=by
 have hi:=(List.getElem?_eq_some_iff.1 hv).1;rw[List.drop_eq_getElem_cons hi,(List.getElem?_eq_some_iff.1 hv).2];rfl
def Yf{d:DataW H}{p:List MemPlace}{q:Qah}{c:Array Value}(h:DataW.Trod enc prog w base spare held 25 (.agg c) d p)(hx:QaV w (In w) q c)(hw:Qbs prog 25 d):∀f∈q.funcs,f.params.length<=200000000000000:=by
 obtain⟨kA,hf⟩:=h;obtain⟨xs,n,rfl,dA,_,cA,hg⟩:=DataW.trod_struct underlying25 hf;obtain⟨rfl,_⟩:=Prod.mk.inj dA;obtain⟨fv,cv,rfl,f1,_⟩:=hx;obtain⟨ad,cc,rfl,g1⟩:=Qdy.of FnX.len f1;obtain⟨x0,bA⟩:∃x0,xs[0]?=some x0:=⟨_,List.getElem?_eq_getElem (by rw[cA];decide)⟩
 have t0:DataW.trod enc prog w base spare held n 22 [.slice ad q.funcs.length cc]=some x0:=(hg 0 _ rfl).trans bA;have uA:Qbs prog 22 x0.1:=hw.agg underlying25 (i:=0) rfl (by rw[getElem?_map,bA];rfl);intro f zA;obtain⟨i,hi⟩:=List.getElem?_of_mem zA;have hil:=(List.getElem?_eq_some_iff.1 hi).1
 rcases DataW.trod_slice underlying22 t0 with⟨hcs,_⟩|⟨a,len,cap,elems,rest,m,hfu,hcs,hxx,_,hle,hcm,hlen,hel,_⟩
 ·simp only[List.cons.injEq,Value.slice.injEq]at hcs;omega
 ·simp only[List.cons.injEq,Value.slice.injEq,and_true]at hcs;obtain⟨rfl,rfl,rfl⟩:=hcs;obtain⟨b,o,ha,hk⟩:=g1 (List.ne_nil_of_mem zA);obtain rfl:=Option.some.inj ha;obtain⟨c1,hc1,xA⟩:=hk i f hi;obtain⟨pa,pc,xa,xc,rfl,_,_⟩:=hc1.form;obtain⟨el,yA⟩:∃el,elems[i]?=some el:=⟨_,List.getElem?_eq_getElem zo⟩
  have h1:=(hel i hil).trans yA;obtain⟨jA,hc,iA⟩:=Option.bind_eq_some_iff.1 h1;have hc7:prog.cellsOf 41=7:=zk;rw[hc7]at hc;obtain⟨_,hcl,hat⟩:=World.cells?_some hc;have h2:=hat (i:=1) zp;have h3:=xA w zO 1 _ rfl
  have h4:jA[1]?=some (.slice pa f.params.length pc):=by
   rw[<-h3,<-h2,Go.Deep.add_add,Jje rfl,Nat.add_assoc]
  rw[hxx]at uA;have aA:=(uA.slice underlying22).2 el.1 (List.mem_map.2 ⟨el,List.mem_of_getElem? yA,rfl⟩);obtain⟨ys,k,_,mA,_,gA,eA⟩:=DataW.trod_struct underlying41 iA;obtain⟨y1,vA⟩:∃y,ys[1]?=some y:=⟨_,List.getElem?_eq_getElem (by rw[gA];decide)⟩
  rw[mA]at aA;have hA:Qbs prog 29 y1.1:=aA.agg underlying41 (i:=1) rfl (by rw[getElem?_map,vA];rfl)
  have t1:DataW.trod enc prog w base spare held k 29 [.slice pa f.params.length pc]=some y1:=by
   rw[<-JkZ h4];exact(eA 1 _ rfl).trans vA
  have:=Jay underlying29 (by decide +kernel) t1 hA;have h9:reachBytes<=200000000000000:=zp;omega
end
open Go.ChangeMaps (open_string shut_string)
end Go.Proofs.YtfafpklefknomaaGreatDoor


