import Derived.Maps.Own
import Derived.Maps.OwnSet
import Derived.Maps.Views
import Derived.Maps.Keyed
import Derived.StringKeys
import Derived.Test.YtdlkcjkjnehnkaaGreatDoorH14
open List(getElem?_map map_append map_cons map_nil mem_of_getElem? sum_nil)
open Nat(le_trans)
namespace Go.Proofs.YtdlkcjkjnehnkaaGreatDoor
open _root_.Go.Proofs.Tryz
set_option linter.all false
set_option maxRecDepth 100000
set_option maxHeartbeats 32000000
theorem JE:Qbq []=0:=by rw[Qbq]
theorem Jdz(l:List Nd)(a:Nd):Qbq (l++[a])=Qbq l+siz a:=by
 induction l with
 |nil=>simp[Qbq]
 |cons x r ih=>simp[Qbq,ih,Nat.add_assoc]
theorem Jki(a:Nd)(o:Int):siz (.mk a.kind a.num a.name o a.kids)=siz a:=by cases a;rw[JG,JG];rfl
mutual
theorem JdC:∀ a:Nd,QaC a<=siz a
 |.mk k n s o l=>by
  rw[JG];unfold QaC;have:=Y6 l;omega
theorem Y6:∀ l:List Nd,Qbs l<=Qbq l
 |[]=>by simp[Qbs]
 |a::l=>by
  rw[Ju];unfold Qbs;have:=JdC a;have:=Y6 l;omega
end
def QdF:Md->Nat
 |.loop _ _ a=>siz a
 |.args _ _ l=>Qbq l+1
 |_=>0
theorem JhT(t:Tok)(k:Int)(a b:Nd):siz (Qdn t k a b)<=siz a+siz b+2:=by
 unfold Qdn;split
 ·simp only[JG,Ju,JE];omega
 ·split
  ·simp only[JG,Ju,JE];omega
  ·simp only[JG,Ju,JE];omega
theorem Qmg{P:Prop}(h:P:=by
  obtain⟨_,r2,h2,h⟩:=Je h;injection h with h0 h;subst h h0;have:=Jp (by decide) h1;have:=Kr f _ _ _ _ h2;simp only[JG,Ju,JE,QdF]at *
  omega):P:=h
theorem Qmc{P:Prop}(h:P:=by
  have:=Jn (by decide) h3;have:=Kr f _ _ _ _ h4;have:=Jn (by decide) h5;have:=Kr f _ _ _ _ h6;simp only[JG,Ju,JE,QdF]at *
  omega):P:=h
theorem QlX{P:Prop}(h:P:=by
  obtain⟨_,r2,h2,h⟩:=Je h;injection h with h0 h;subst h h0;have:=Jp (by decide) h1;have:=YR h2;simp only[JG,JE]
  omega):P:=h
theorem Kr:∀ (f:Nat) (md:Md) (r r':List Tok) (a:Nd),pM f md r=.ok a r'->siz a+2*r'.length<=2*r.length+QdF md
 |0,md,r,r',a,h=>by unfold pM at h;cases h
 |f+1,.expr,r,r',a,h=>by
  simp only[QdF];rw[pM]at h;split at h
  ·rename_i r1 h1;obtain⟨_,r2,h2,h⟩:=Je h;obtain⟨_,r3,h3,h⟩:=Je h;obtain⟨_,r4,h4,h⟩:=Je h;obtain⟨_,r5,h5,h⟩:=Je h;obtain⟨_,r6,h6,h⟩:=Je h;injection h with h0 h;subst h h0;have:=Jp (by decide) h1;have:=JW h2;exact Qmc
  ·split at h
   ·rename_i r1 h1;obtain⟨_,r2,h2,h⟩:=Je h;obtain⟨_,r3,h3,h⟩:=Je h;obtain⟨_,r4,h4,h⟩:=Je h;obtain⟨_,r5,h5,h⟩:=Je h;obtain⟨_,r6,h6,h⟩:=Je h;injection h with h0 h;subst h h0;have:=Jp (by decide) h1;have:=Kr f _ _ _ _ h2;exact Qmc
   ·have:=Kr f _ _ _ _ h;simpa[QdF] using this
 |f+1,.level lv,r,r',a,h=>by
  simp only[QdF];rw[pM]at h;split at h
  ·split at h
   ·rename_i r1 h1;exact Qmg
   ·have:=Kr f _ _ _ _ h;simpa[QdF] using this
  ·split at h
   ·split at h
    ·rename_i r1 h1;exact Qmg
    ·have:=Kr f _ _ _ _ h;simpa[QdF] using this
   ·obtain⟨_,r1,h1,h⟩:=Je h;have:=Kr f _ _ _ _ h1;have:=Kr f _ _ _ _ h;simp only[QdF]at *;omega
 |f+1,.loop lv o b,r,r',a,h=>by
  simp only[QdF];rw[pM]at h;split at h
  ·injection h with h0 h;subst h h0;omega
  ·rename_i k hk;have:=Jfb hk;obtain⟨_,r1,h1,h⟩:=Je h;have:=Kr f _ _ _ _ h1;have:=Kr f _ _ _ _ h;simp only[JG,Ju,JE,QdF]at *;omega
 |f+1,.cmp,r,r',a,h=>by
  simp only[QdF];rw[pM]at h;obtain⟨x,r1,h1,h⟩:=Je h;have:=Kr f _ _ _ _ h1;split at h
  ·injection h with h0 h;subst h h0;simpa[QdF] using this
  ·rename_i k hk;have:=Jdj hk;obtain⟨y,r2,h2,h⟩:=Je h;have:=Kr f _ _ _ _ h2;injection h with h0 h;subst h h0;have:=JhT (hd r1) k x y;simp only[QdF]at *;omega
 |f+1,.prim,r,r',a,h=>by
  simp only[QdF];rw[pM]at h;split at h
  ·rename_i hk;injection h with h0 h;subst h h0
   have:r.tail.length+1=r.length:=by
    cases r with
    |nil=>exact absurd hk (by decide)
    |cons a l=>rfl
   simp only[JG,JE];omega
  split at h
  ·rename_i r1 h1;obtain⟨x,r2,h2,h⟩:=Je h;obtain⟨_,r3,h3,h⟩:=Je h;injection h with h0 h;subst h h0;have:=Jp (by decide) h1;have:=Kr f _ _ _ _ h2;have:=Jn (by decide) h3;rw[Jki];simp only[QdF]at *;omega
  split at h
  ·rename_i r1 h1;injection h with h0 h;subst h h0;have:=Jp (by decide) h1;simp only[JG,JE];omega
  split at h
  ·rename_i r1 h1;injection h with h0 h;subst h h0;have:=Jp (by decide) h1;simp only[JG,JE];omega
  split at h
  ·rename_i r1 h1;exact QlX
  split at h
  ·rename_i r1 h1;exact QlX
  split at h
  ·rename_i hk;injection h with h0 h;subst h h0
   have:r.tail.length+1=r.length:=by
    cases r with
    |nil=>exact absurd hk.1 (by decide)
    |cons a l=>rfl
   simp only[JG,JE];omega
  ·have:=Kr f _ _ _ _ h;simpa[QdF] using this
 |f+1,.named,r,r',a,h=>by
  simp only[QdF];rw[pM]at h;obtain⟨nm,r1,h1,h⟩:=Je h;have:=JW h1;split at h
  ·injection h with h0 h;subst h h0;simp only[JG,JE];omega
  ·rename_i r2 h2;have:=Jp (by decide) h2;split at h
   ·rename_i r3 h3;have:=Jp (by decide) h3;injection h with h0 h;subst h h0;simp only[JG,JE];omega
   ·have:=Kr f _ _ _ _ h;simp only[QdF,JE]at *;omega
 |f+1,.args nm o l,r,r',a,h=>by
  simp only[QdF];rw[pM]at h;obtain⟨x,r1,h1,h⟩:=Je h;have:=Kr f _ _ _ _ h1;split at h
  ·rename_i r2 h2;have:=Jp (by decide) h2;have:=Kr f _ _ _ _ h;simp only[QdF,Jdz]at *;omega
  ·obtain⟨_,r2,h2,h⟩:=Je h;have:=Jn (by decide) h2;injection h with h0 h;subst h h0;simp only[JG,Jdz,QdF]at *;omega
def FnS.siz(f:FnS):Nat:=Go.Proofs.YtdlkcjkjnehnkaaGreatDoor.siz f.body+f.params.length+f.types.length+1
def ClS.siz(c:ClS):Nat:=Go.Proofs.YtdlkcjkjnehnkaaGreatDoor.siz c.cond+1
def QcI(l:List FnS):Nat:=(l.map FnS.siz).sum
def QcJ(l:List ClS):Nat:=(l.map ClS.siz).sum
theorem Y7:∀ (f:Nat) (ps:List (List UInt8 × Int)) (ts:List Int) (r r':List Tok) a,Qak f ps ts r=.ok a r'->a.1.length+a.2.length+2*r'.length<=2*r.length+ps.length+ts.length
 |0,_,_,_,_,_,h=>by cases h
 |f+1,ps,ts,r,r',a,h=>by
  rw[Qak]at h;obtain⟨_,r1,h1,h⟩:=Je h;obtain⟨_,r2,h2,h⟩:=Je h;obtain⟨_,r3,h3,h⟩:=Je h;have:=JW h1;have:=Jn (by decide) h2;have:=Vn h3;split at h
  ·rename_i r4 h4;have:=Jp (by decide) h4;have:=Y7 f _ _ _ _ _ h;simp only[List.length_append,List.length_singleton]at this;omega
  ·obtain⟨_,r4,h4,h⟩:=Je h;have:=Jn (by decide) h4;injection h with h0 h;subst h h0;simp only[List.length_append,List.length_singleton];omega
theorem VR:∀ (f:Nat) (ps:List (List UInt8 × Int)) (ts:List Int) (r r':List Tok) a,ps.length=ts.length->Qak f ps ts r=.ok a r'->a.1.length=a.2.length
 |0,_,_,_,_,_,_,h=>by cases h
 |f+1,ps,ts,r,r',a,he,h=>by
  rw[Qak]at h;obtain⟨_,r1,h1,h⟩:=Je h;obtain⟨_,r2,h2,h⟩:=Je h;obtain⟨_,r3,h3,h⟩:=Je h;split at h
  ·exact VR f _ _ _ _ _ (by simp[he]) h
  ·obtain⟨_,r4,h4,h⟩:=Je h;injection h with h0 h;subst h h0;simp[he]
theorem JhU{f:Nat}{r r':List Tok}{x:FnS}(h:Qdb f r=.ok x r'):x.siz+2*r'.length<=2*r.length/\x.params.length=x.types.length:=by
 unfold Qdb at h;obtain⟨nm,r1,h1,h⟩:=Je h;obtain⟨_,r2,h2,h⟩:=Je h;obtain⟨pt,r3,h3,h⟩:=Je h;obtain⟨_,r4,h4,h⟩:=Je h;obtain⟨_,r5,h5,h⟩:=Je h;obtain⟨_,r6,h6,h⟩:=Je h;obtain⟨_,r7,h7,h⟩:=Je h;injection h with h0 h;subst h h0;have:=JW h1;have:=Jn (by decide) h2
 have hp:pt.1.length+pt.2.length+2*r3.length<=2*r2.length/\pt.1.length=pt.2.length:=by
  split at h3
  ·rename_i r9 h9;have:=Jp (by decide) h9;injection h3 with h0 h3;subst h3 h0;simp;omega
  ·have:=Y7 _ _ _ _ _ _ h3;exact⟨by simpa using this,VR _ _ _ _ _ _ rfl h3⟩
 have:=Jn (by decide) h4;have:=Vn h5;have:=Jn (by decide) h6;have:=Kr _ _ _ _ _ h7;simp only[FnS.siz,QdF]at *;exact⟨by omega,hp.2⟩
theorem Jbm(g:Nat):∀ (f:Nat) (l:List FnS) (r r':List Tok) a,(∀ x∈l,x.params.length=x.types.length)->Qbc g f l r=.ok a r'->QcI a+2*r'.length<=2*r.length+QcI l/\∀ x∈a,x.params.length=x.types.length
 |0,_,_,_,_,_,h=>by cases h
 |f+1,l,r,r',a,hl,h=>by
  rw[Qbc]at h;split at h
  ·rename_i r1 h1;have:=Jp (by decide) h1;obtain⟨x,r2,h2,h⟩:=Je h;obtain⟨g1,g2⟩:=JhU h2
   obtain⟨e1,e2⟩:=Jbm g f _ _ _ _ (by
    intro y hy
    rcases List.mem_append.1 hy with hy|hy
    ·exact hl y hy
    ·obtain rfl:y=x:=by simpa using hy
     exact g2) h
   refine⟨?_,e2⟩;simp only[QcI,map_append,List.sum_append,map_cons,map_nil,List.sum_cons,sum_nil]at *;omega
  ·injection h with h0 h;subst h h0;exact⟨by omega,hl⟩
theorem Yr(g:Nat):∀ (f:Nat) (l:List ClS) (r r':List Tok) a,Qad g f l r=.ok a r'->QcJ a+2*r'.length<=2*r.length+QcJ l
 |0,_,_,_,_,h=>by cases h
 |f+1,l,r,r',a,h=>by
  rw[Qad]at h;split at h
  ·rename_i r1 h1;have:=Jp (by decide) h1;obtain⟨x,r2,h2,h⟩:=Je h;obtain⟨_,r3,h3,h⟩:=Je h;obtain⟨_,r4,h4,h⟩:=Je h;obtain⟨_,r5,h5,h⟩:=Je h;have:=Kr _ _ _ _ _ h2;have:=Jn (by decide) h3;have:=Jdi h4;have:=YP h5;have:=Yr g f _ _ _ _ h;simp only[QcJ,ClS.siz,QdF,map_append,List.sum_append,map_cons,map_nil,List.sum_cons,sum_nil]at *;omega
  ·injection h with h0 h;subst h h0;omega
theorem JhV{f:Nat}{r r':List Tok}{s:Src}(h:QcO f r=.ok s r'):QcI s.funcs+QcJ s.clauses<=2*r.length/\∀ x∈s.funcs,x.params.length=x.types.length:=by
 unfold QcO at h;obtain⟨fs,r1,h1,h⟩:=Je h;obtain⟨cs,r2,h2,h⟩:=Je h;obtain⟨_,r3,h3,h⟩:=Je h;obtain⟨_,r4,h4,h⟩:=Je h;obtain⟨e1,e2⟩:=Jbm _ _ _ _ _ _ (by simp) h1;have e3:=Yr _ _ _ _ _ _ h2;simp only[QcI,QcJ,map_nil,sum_nil]at e1 e3;split at h
 ·injection h with h0 h;subst h0;exact⟨by simp only[QcI,QcJ];omega,e2⟩
 ·cases h
open Go.ChangeShapes Go.WideShapes Go.ChangeAt Go.RowKit Go.Lib
theorem Jo(b c:Nat)(l:List An):∃ ad cc,QaB b c l=.slice ad l.length cc/\(l≠[]->ad=some ⟨b,0,none⟩):=by
 unfold QaB;split
 ·rename_i h;subst h;exact⟨none,0,rfl,fun h=>absurd rfl h⟩
 ·exact⟨_,c,rfl,fun _=>rfl⟩
theorem JT{W:World}{b:Nat}:∀ {l:List An} {m i:Nat} {x:An},AtL W b m l->l[i]?=some x->(∀ j u,(Qaa x).toList[j]?=some u->W.cell? ⟨b,(m+i)*5+j,none⟩=some u)/\x.At W
 |[],m,i,x,h,hx=>by cases hx
 |a::l,m,0,x,h,hx=>by
  unfold AtL at h;obtain rfl:a=x:=by simpa using hx
  exact⟨h.1,h.2.1⟩
 |a::l,m,i+1,x,h,hx=>by
  unfold AtL at h;have:=JT (i:=i) h.2.2 (by simpa using hx);rw[show m+1+i=m+(i+1) by omega]at this;exact this
theorem JfG(l:List Nd)(a:Nd):Qbs (l++[a])=max (Qbs l) (QaC a):=by
 induction l with
 |nil=>simp[Qbs]
 |cons x r ih=>simp[Qbs,ih,Nat.max_assoc]
theorem Kj(l:List An):ndL l=l.map An.nd:=by
 induction l with
 |nil=>simp[ndL]
 |cons x r ih=>simp[ndL,ih]
theorem Jet{l:List An}{i:Nat}{x:An}(hx:l[i]?=some x):Qbs (ndL (l.take (i+1)))=max (Qbs (ndL (l.take i))) (QaC x.nd):=by
 rw[List.take_add_one,hx];simp only[Option.toList_some];rw[K3,JfG]
theorem JhW{l:List An}(i:Nat):Qbs (ndL (l.take i))<=Qbs (ndL l):=by
 induction l generalizing i with
 |nil=>simp
 |cons a r ih=>
  cases i with
  |zero=>simp[ndL,Qbs]
  |succ i=>
   simp only[List.take_succ_cons,ndL,Qbs];have:=ih i;omega
theorem Y8(k n:Int)(s:List UInt8)(o:Int)(b c:Nat)(l:List An):siz (An.mk k n s o b c l).nd=Qbq (ndL l)+1:=by unfold An.nd;rw[JG]
theorem JL{l:List An}{x:An}(hx:x∈l):siz x.nd<=Qbq (ndL l):=JdA (by rw[Kj];exact List.mem_map.2 ⟨x,hx,rfl⟩)
theorem Jx(l:List An):l.length<=Qbq (ndL l):=by have:=JdB (ndL l);rw[Kj,List.length_map]at this;rw[Kj];exact this
theorem Y9:∀ (n:Nat) (a:An) (w:World),siz a.nd<=n->n<=1000000000->a.At w->Calls prog 74 #[.agg (Qaa a)] w (Qhq w (QaC a.nd))
 |0,a,w,hn,_,_=>by
  have:=VC a.nd;omega
 |n+1,a,w,hn,hb,hat=>by
  have IH:=fun (x:An) (W:World) h1 h2=>Y9 n x W h1 (by omega) h2
  obtain⟨k,nn,s,o,b,c,l⟩:=a;have hN:QaC (An.mk k nn s o b c l).nd=Qbs (ndL l)+1:=by unfold An.nd QaC;rfl
  rw[Y8]at hn;rw[hN];unfold An.At at hat;replace hat:=hat.2;obtain⟨ad,cc,hkv,had⟩:=Jo b c l
  have hcs:Qaa (An.mk k nn s o b c l)=#[.int .i64 k,.int .i64 nn,.string (bs s),.int .i64 o,.slice ad l.length cc]:=by
   show #[_,_,_,_,QaB b c l]=_
   rw[hkv]
  rw[hcs];have HAT:=Zh hat;have HAD:=Zh had;obtain⟨M,hM⟩:∃ M,Qbs (ndL l)=M:=⟨_,rfl⟩
  have HM:=Zh hM;have hMn:M<=n:=by have:=Y6 (ndL l);omega
  rw[hM];have hlen:l.length<=n:=by have:=Jx l;omega
  have HSZ:Hid (Qbq (ndL l)<=n):=by rw[Hid];omega
  clear hat had hkv hcs hN hM hn;go_enter func74,ntmps74;go_wp2_with fail;have HB1:Hid (Below w.heap.size w (w.alloc (.cells #[.int .i64 k,.int .i64 nn,.string (bs s),.int .i64 o,.slice ad l.length cc] 103))):=zzb.alloc zzl _;go_loopg [3,9] l.length (fun g v3 v9 wr=>∃ i m:Nat,g+i=l.length/\v3=.int .i64 m/\v9=.int .i64 i/\Hid (m=Qbs (ndL (l.take i)))/\Hid (Below w.heap.size w wr))
  case atStart=>exact⟨0,0,rfl,rfl,rfl,by simp[Hid,ndL,Qbs],HB1⟩
  case round=>
  clear HB1;obtain⟨wl,rfl⟩:∃ wl:World,wl=wr:=⟨_,rfl⟩
  obtain⟨i,m,hg,rfl,rfl,hm,hw⟩:=hrel
  by_cases hi:i<l.length
  ·have hil:(i:Int)<(l.length:Int):=by omega
   obtain⟨x,hx⟩:∃ x,l[i]?=some x:=⟨l[i],List.getElem?_eq_getElem hi⟩
   have hmem:x∈l:=mem_of_getElem? hx;have had:ad=some ⟨b,0,none⟩:=HAD.out (List.ne_nil_of_mem hmem);obtain⟨hc,hxa⟩:=JT HAT.out hx;rw[Nat.zero_add]at hc;obtain⟨xA,xn,xc,hcf⟩:=Jf x;rw[hcf]at hc;have hcl:∀ j u,(#[.int .i64 x.kind,.int .i64 x.num,.string (bs x.name),.int .i64 x.off,.slice xA xn xc]:Array Value).toList[j]?=some u->wl.cell? ⟨b,i*5+j,none⟩=some u:=fun j u hj=>(hw.out.cell (World.block_lt_of_cell? _ _ (hc j u hj))).trans (hc j u hj)
   have c0:=hcl 0 _ rfl;have c1:=hcl 1 _ rfl;have c2:=hcl 2 _ rfl;have c3:=hcl 3 _ rfl;have c4:=hcl 4 _ rfl;simp only[Nat.add_zero]at c0;have hxw:x.At wl:=JJ x hxa fun q hq=>hw.out.block q (Jbn x hxa q hq)
   have hxn:siz x.nd<=n:=le_trans (JL hmem) HSZ.out;have HMM:Hid (max m (QaC x.nd)=Qbs (ndL (l.take (i+1)))):=by rw[Hid,Jet hx,hm.out]
   have hmn:m<=n:=by rw[hm.out];have:=JhW (l:=l) i;have:=HM.out;omega
   have wk:IntKind.i64.wrap ((i:Int)+1)=(i:Int)+1:=IntWalk.i64_in _ (by omega);have HXA:=Zh hxw;have HW:=Zh hw;have HCF:=Zh hcf;have HG:=Zh hg;subst had;clear hc hcl hx hmem hcf hxa hxw hm hw hi HAD hg;have hbA:Below wl.heap.size wl (wl.alloc (.cells #[.int .i64 x.kind,.int .i64 x.num,.string (bs x.name),.int .i64 x.off,.slice xA xn xc] 103)):=zzb.alloc zzl _;have cx:=IH x _ hxn (Jbo HXA.out hbA);rw[HCF.out]at cx;have HW2:=Zh (HW.out.trans (hbA.mono HW.out.size));clear hbA;go_wp2_with fail;refine cx.mono ?_;rintro e w2 ⟨rfl,hb2⟩;have HW3:=Zh (HW2.out.trans (hb2.mono HW2.out.size));clear hb2 cx;go_wp2;go_roundg (l.length-(i+1))
   case measure=>have:=HG.out;omega
   case rel=>exact⟨i+1,max m (QaC x.nd),by omega,by go_num,by go_num,HMM,HW3⟩
  ·have hil:¬ (i:Int)<(l.length:Int):=by omega
   obtain rfl:i=l.length:=by omega
   have hmm:m=M:=by rw[hm.out,List.take_length];exact HM.out
   subst hmm;have wk:IntKind.i64.wrap ((m:Int)+1)=(m:Int)+1:=IntWalk.i64_in _ (by omega);have dil:((l.length:Int)<(l.length:Int))=False:=by simp
   clear hil hm;go_wp2;go_ret;exact⟨by go_num,hw.out⟩
theorem JfH{w w':World}{base n e size:Nat}{v:Value}{xs:List Value}(h:w.ownsRow base e size v n xs)(hb:Below w.heap.size w w'):w'.ownsRow base e size v n xs:=Jz h (Chg.of_below hb []) (by simp)
theorem JdE{w:World}{base e size n:Nat}{v:Value}{xs:List Value}(h:w.ownsRow base e size v n xs):∀ k,v.ownBlock=some k->base<=k:=fun k hk=>(h.lt k hk).1
def Value.blk(v:Value):Nat:=v.ownBlock.getD 0
theorem Va{w:World}{base e size n:Nat}{v:Value}{xs:List Value}(h:w.ownsRow base e size v n xs):∃ ad cc,v=.slice ad n cc/\(0<n->ad=some ⟨Value.blk v,0,none⟩):=by
 rcases h.2 with⟨rfl,rfl⟩|⟨g,cap,cur,rfl,_⟩
 ·exact⟨none,0,rfl,fun h=>absurd h (by omega)⟩
 ·exact⟨_,cap,rfl,fun _=>rfl⟩
theorem KV(w:World)(cs:Array Value)(e:TypeId)(j:Nat):(w.alloc (.cells cs e)).cell? ((⟨w.heap.size,0,none⟩:Addr).add j)=cs[j]?:=by
 exact Qmh
def QeK(g size off n:Nat):List Value:=(List.range n).map fun i=>.pointer (some ⟨g,i*size+off,none⟩)
theorem Jbp(g size off n:Nat):QeK g size off (n+1)=QeK g size off n++[.pointer (some ⟨g,n*size+off,none⟩)]:=by simp[QeK,List.range_succ]
theorem QiT:(prog.info? 137).map (fun i=>(i.zero,i.size,i.bytes))=some (some (.pointer none),1,8):=by kernel_rfl
def QfQ(w:World)(S:Qap)(e:Ending)(w':World):Prop:=
 ∃ v,e=.returned v/\w'.ownsRow w.heap.size 137 1 v (S.funcs.length+S.clauses.length) (QeK (Value.blk S.fv) 10 5 S.funcs.length++QeK (Value.blk S.cv) 7 0 S.clauses.length)/\Below w.heap.size w w'
theorem JfI(w:World)(sb:Nat)(S:Qap)(h:QaL w sb S)(h1:S.funcs.length<=100000000)(h2:S.clauses.length<=100000000):Calls prog 73 #[.pointer (some ⟨sb,0,none⟩)] w (QfQ w S):=by
 obtain⟨R,hR⟩:∃ R,QfQ w S=R:=⟨_,rfl⟩
 rw[hR];have HR:Hid (R=QfQ w S):=hR.symm;have HB:=Zh h.box;obtain⟨fa,fc,hfv,hfa⟩:=Va h.fown;obtain⟨ca,cc,hcv,hca⟩:=Va h.cown;have HFA:=Zh hfa;have HCA:=Zh hca;obtain⟨fs,cs,act,fv,cv⟩:=S;dsimp only at hfv hcv h1 h2 HB HFA HCA;generalize hfb:Value.blk fv=fb at *;generalize hcb:Value.blk cv=cb at *;have HFB:=Zh hfb;have HCB:=Zh hcb;rw[hfv,hcv]at HB;generalize hnf:fs.length=nf at *;generalize hnc:cs.length=nc at *;have HNF:=Zh hnf;have HNC:=Zh hnc;clear h hR hfa hca hfb hcb hfv hcv hnf hnc;obtain⟨i0,hi,hz0,hz1,hz2⟩:=info_parts QiT;have HI:=Zh hi;clear hi;have b0:=Ja HB.out 0;have b1:=Ja HB.out 1;simp only[ZD,ZE,ZF]at b0 b1;go_enter func73,ntmps73;go_wp2_with fail;go_loopg [3,11] nf (fun g v3 v11 wr=>∃ i:Nat,g+i=nf/\v11=.int .i64 i/\Hid (wr.ownsRow w.heap.size 137 1 v3 i (QeK fb 10 5 i))/\Hid (Below w.heap.size w wr))
 case atStart=>exact⟨0,rfl,rfl,World.ownsRow_nil _ _ _ _,Below.refl _ _⟩
 case round=>
 clear b0 b1;obtain⟨wl,rfl⟩:∃ wl:World,wl=wr:=⟨_,rfl⟩
 obtain⟨i,hg,rfl,ho,hw⟩:=hrel;have hbx:=(hw.out.block _ (Jb HB.out)).trans HB.out;have b0:=Ja hbx 0;have b1:=Ja hbx 1;simp only[ZD,ZE,ZF]at b0 b1
 by_cases hil:i<nf
 ·have hl:(i:Int)<(nf:Int):=by omega
  have had:fa=some ⟨fb,0,none⟩:=HFA.out (by omega);obtain⟨va,vn,vc,hv3⟩:=Jh ho.out;subst hv3;have wk:IntKind.i64.wrap ((i:Int)+1)=(i:Int)+1:=IntWalk.i64_in _ (by omega);have HG:=Zh hg;subst had;clear HFA hg hbx;go_wp2_with (at_builtin;refine wpList_append_own _ rfl _ _ 135 rfl w.heap.size 137 i0 (.pointer none) 1 8 underlying135 HI.out hz0 hz1 hz2 rfl (by decide) _ _ _ rfl (ho.out.alloc _) ⟨wl.heap.size,0,none⟩ 1 1 [.pointer (some ⟨fb,i*10+5,none⟩)] rfl rfl ?c1 ?c2 ?c3 ?c4 ?c5 ?_)
  case c1=>
   intro j u hj;rw[KV];simpa using hj
  case c2=>intro u hu;simp at hu;subst hu;rfl
  case c3=>unfold maxLen;omega
  case c4=>omega
  case c5=>simp;exact le_trans hw.out.size (by omega)
  intro v' w' hown' hgrow _;have hb1:=(hw.out.alloc hw.out.size (.cells #[.pointer (some ⟨fb,i*10+5,none⟩)] 137))
  have HW:=Zh (hb1.grown hgrow (by simp;exact le_trans hw.out.size (by omega)) (JdE ho.out));rw[<- Jbp]at hown';have HO:=Zh hown';clear hown' hgrow hb1 ho hw;go_wp2;go_roundg (nf-(i+1))
  case measure=>have:=HG.out;omega
  case rel=>exact⟨i+1,by omega,by go_num,HO,HW⟩
 ·have hl:¬ (i:Int)<(nf:Int):=by omega
  obtain rfl:i=nf:=by omega
  have HO:=Zh ho.out;have HW:=Zh hw.out;have wk0:True:=trivial;clear hil hbx hg ho hw b0 HFA;go_wp2_with fail;go_loopg [3,30] nc (fun g v3 v30 wr=>∃ j:Nat,g+j=nc/\v30=.int .i64 j/\Hid (wr.ownsRow w.heap.size 137 1 v3 (i+j) (QeK fb 10 5 i++QeK cb 7 0 j))/\Hid (Below w.heap.size w wr))
  case atStart=>exact⟨0,rfl,rfl,by simpa[QeK,Hid] using HO.out,HW⟩
  case round=>
  clear b1 HO HW;obtain⟨wm,rfl⟩:∃ wm:World,wm=wr:=⟨_,rfl⟩
  obtain⟨j,hg,rfl,ho,hw⟩:=hrel;have hbx:=(hw.out.block _ (Jb HB.out)).trans HB.out;have b1:=Ja hbx 1;simp only[ZD,ZE,ZF]at b1
  by_cases hjl:j<nc
  ·have hl:(j:Int)<(nc:Int):=by omega
   have had:ca=some ⟨cb,0,none⟩:=HCA.out (by omega);obtain⟨va,vn,vc,hv3⟩:=Jh ho.out;subst hv3;have wk:IntKind.i64.wrap ((j:Int)+1)=(j:Int)+1:=IntWalk.i64_in _ (by omega);have HG:=Zh hg;subst had;clear HCA hg hbx;go_wp2_with (at_builtin;refine wpList_append_own _ rfl _ _ 135 rfl w.heap.size 137 i0 (.pointer none) 1 8 underlying135 HI.out hz0 hz1 hz2 rfl (by decide) _ _ _ rfl (ho.out.alloc _) ⟨wm.heap.size,0,none⟩ 1 1 [.pointer (some ⟨cb,j*7,none⟩)] rfl rfl ?c1 ?c2 ?c3 ?c4 ?c5 ?_)
   case c1=>
    intro j u hj;rw[KV];simpa using hj
   case c2=>intro u hu;simp at hu;subst hu;rfl
   case c3=>unfold maxLen;omega
   case c4=>omega
   case c5=>simp;exact le_trans hw.out.size (by omega)
   intro v' w' hown' hgrow _;have hb1:=(hw.out.alloc hw.out.size (.cells #[.pointer (some ⟨cb,j*7,none⟩)] 137))
   have HW:=Zh (hb1.grown hgrow (by simp;exact le_trans hw.out.size (by omega)) (JdE ho.out));rw[show QeK cb 7 0 j++[Value.pointer (some ⟨cb,j*7,none⟩)]=QeK cb 7 0 (j+1) by rw[Jbp,Nat.add_zero]]at hown';have HO:=Zh hown';clear hown' hgrow hb1 ho hw;go_wp2;go_roundg (nc-(j+1))
   case measure=>have:=HG.out;omega
   case rel=>exact⟨j+1,by omega,by go_num,HO,HW⟩
  ·have hl:¬ (j:Int)<(nc:Int):=by omega
   obtain rfl:j=nc:=by omega
   clear b1 hbx hg hjl;go_wp2;rw[HR.out];refine⟨_,rfl,?_,hw.out⟩;simp only[HNF.out,HNC.out,HFB.out,HCB.out];exact ho.out
def QcE(g:Nat):Nat->List FnA->List (Addr × An)
 |_,[]=>[]
 |i,f::l=>(⟨g,i*10+5,none⟩,f.body)::QcE g (i+1) l
def QcF(g:Nat):Nat->List ClA->List (Addr × An)
 |_,[]=>[]
 |i,c::l=>(⟨g,i*7,none⟩,c.cond)::QcF g (i+1) l
def Qap.rootsA(S:Qap):List (Addr × An):=QcE (Value.blk S.fv) 0 S.funcs++QcF (Value.blk S.cv) 0 S.clauses
theorem Ye(g:Nat):∀ (l:List FnA) (i j:Nat),(QcE g i l)[j]?=l[j]?.map fun f=>(⟨g,(i+j)*10+5,none⟩,f.body)
 |[],i,j=>by simp[QcE]
 |f::l,i,0=>by simp[QcE]
 |f::l,i,j+1=>by
  simp only[QcE,List.getElem?_cons_succ];rw[Ye g l (i+1) j,show i+1+j=i+(j+1) by omega]
theorem Yf(g:Nat):∀ (l:List ClA) (i j:Nat),(QcF g i l)[j]?=l[j]?.map fun c=>(⟨g,(i+j)*7,none⟩,c.cond)
 |[],i,j=>by simp[QcF]
 |f::l,i,0=>by simp[QcF]
 |f::l,i,j+1=>by
  simp only[QcF,List.getElem?_cons_succ];rw[Yf g l (i+1) j,show i+1+j=i+(j+1) by omega]
theorem VS(g:Nat):∀ (l:List FnA) (i:Nat),(QcE g i l).length=l.length
 |[],i=>rfl
 |f::l,i=>by simp[QcE,VS g l]
theorem VT(g:Nat):∀ (l:List ClA) (i:Nat),(QcF g i l).length=l.length
 |[],i=>rfl
 |f::l,i=>by simp[QcF,VT g l]
theorem JdF(g size off n j:Nat):(QeK g size off n)[j]?=if j<n then some (.pointer (some ⟨g,j*size+off,none⟩)) else none:=by
 unfold QeK;rw[getElem?_map]
 by_cases h:j<n
 ·rw[if_pos h,List.getElem?_range h];rfl
 ·rw[if_neg h,List.getElem?_eq_none (by simp;omega)];rfl
theorem Qkm{P:Prop}(h:P:=by
  by_cases h:j<l.length
  ·rw[if_pos h,List.getElem?_eq_getElem h];simp
  ·rw[if_neg h,List.getElem?_eq_none (by omega)];rfl):P:=h
theorem Jcz(g:Nat)(l:List FnA):(QcE g 0 l).map (fun r=>Value.pointer (some r.1))=QeK g 10 5 l.length:=by
 refine List.ext_getElem? fun j=>?_
 rw[getElem?_map,Ye,JdF];exact Qkm
theorem JcA(g:Nat)(l:List ClA):(QcF g 0 l).map (fun r=>Value.pointer (some r.1))=QeK g 7 0 l.length:=by
 refine List.ext_getElem? fun j=>?_
 rw[getElem?_map,Yf,JdF];exact Qkm
theorem Jeu(S:Qap):S.rootsA.map (fun r=>Value.pointer (some r.1))=QeK (Value.blk S.fv) 10 5 S.funcs.length++QeK (Value.blk S.cv) 7 0 S.clauses.length:=by
 unfold Qap.rootsA;rw[map_append,Jcz,JcA]
theorem Jbq(g:Nat):∀ (l:List FnA) (i:Nat),(QcE g i l).map (fun r=>r.2.nd)=(l.map FnA.src).map (·.body)
 |[],i=>rfl
 |f::l,i=>by simp[QcE,Jbq g l,FnA.src]
theorem Jbr(g:Nat):∀ (l:List ClA) (i:Nat),(QcF g i l).map (fun r=>r.2.nd)=(l.map ClA.src).map (·.cond)
 |[],i=>rfl
 |f::l,i=>by simp[QcF,Jbr g l,ClA.src]
theorem JdG(S:Qap):S.rootsA.map (fun r=>r.2.nd)=S.src.roots:=by
 unfold Qap.rootsA Src.roots Qap.src;rw[map_append,Jbq,Jbr]
theorem Kp{α:Type}{cells:α->List Value}{size:Nat}(hs:∀ x,(cells x).length=size):∀ (l:List α) (i j:Nat) (x:α) (u:Value),l[i]?=some x->(cells x)[j]?=some u->(l.flatMap cells)[i*size+j]?=some u
 |[],i,j,x,u,h,hj=>by cases h
 |a::l,0,j,x,u,h,hj=>by
  obtain rfl:a=x:=by simpa using h
  have hlt:=(List.getElem?_eq_some_iff.1 hj).1;rw[List.flatMap_cons,Nat.zero_mul,Nat.zero_add,List.getElem?_append_left hlt];exact hj
 |a::l,i+1,j,x,u,h,hj=>by
  rw[List.flatMap_cons,List.getElem?_append_right (by rw[hs,Nat.succ_mul];omega),hs,show (i+1)*size+j-size=i*size+j by rw[Nat.succ_mul];omega];exact Kp hs l i j x u (by simpa using h) hj
theorem JZ{W:World}{base e size n:Nat}{v:Value}{xs:List Value}(h:W.ownsRow base e size v n xs){j:Nat}{u:Value}(hj:xs[j]?=some u):W.cell? ⟨Value.blk v,j,none⟩=some u:=by
 rcases h.2 with⟨rfl,rfl⟩|⟨g,cap,cur,rfl,_⟩
 ·have:=h.1;rw[Nat.zero_mul]at this;rw[List.eq_nil_of_length_eq_zero this]at hj
  cases hj
 ·have:=h.cells (g:=g) rfl j u hj;rw[show (⟨g,0,none⟩:Addr).add j=⟨g,j,none⟩ by unfold Addr.add;split<;>simp_all]at this;exact this
theorem FnA.cells_length(f:FnA):f.cells.length=10:=by simp[FnA.cells,J4]
theorem ClA.cells_length(c:ClA):c.cells.length=7:=by simp[ClA.cells,J4]
def QfR(W:World)(r:Addr × An):Prop:=r.1.spot=none/\(∀ j u,(Qaa r.2).toList[j]?=some u->W.cell? ⟨r.1.block,r.1.off+j,none⟩=some u)/\r.2.At W
theorem QfR.below{W W':World}{r:Addr × An}(h:QfR W r)(hb:Below W.heap.size W W'):QfR W' r:=
 ⟨h.1,fun j u hj=>(hb.cell (World.block_lt_of_cell? _ _ (h.2.1 j u hj))).trans (h.2.1 j u hj),Jbo h.2.2 hb⟩
theorem JhX{W:World}{sb:Nat}{S:Qap}(h:QaL W sb S):∀ r∈S.rootsA,QfR W r:=by
 intro r hr
 rcases List.mem_append.1 hr with hr|hr
 ·obtain⟨i,hi⟩:=List.getElem?_of_mem hr;rw[Ye]at hi;obtain⟨f,hf,rfl⟩:=Option.map_eq_some_iff.1 hi;refine⟨rfl,fun j u hj=>?_,(h.fok f (mem_of_getElem? hf)).1.bat⟩
  have h1:f.cells[5+j]?=some u:=by
   unfold FnA.cells;rw[List.getElem?_append_right (by simp)];simpa using hj
  have:=JZ h.fown (Kp FnA.cells_length S.funcs i (5+j) f u hf h1);rw[<- Nat.add_assoc]at this;simpa using this
 ·obtain⟨i,hi⟩:=List.getElem?_of_mem hr;rw[Yf]at hi;obtain⟨c,hf,rfl⟩:=Option.map_eq_some_iff.1 hi;refine⟨rfl,fun j u hj=>?_,(h.cok c (mem_of_getElem? hf)).1.at'⟩
  have h1:c.cells[j]?=some u:=by
   unfold ClA.cells;rw[List.getElem?_append_left (List.getElem?_eq_some_iff.1 hj).1];exact hj
  have:=JZ h.cown (Kp ClA.cells_length S.clauses i j c u hf h1);simpa using this
def Qgl(er o:Int):Value:=.iface 77 (.agg #[.int .i64 er,.int .i64 o])
def Qit(w:World)(er:Int)(x:Option Int)(e:Ending)(w':World):Prop:=
 match x with
 |none=>e=.returned (.tuple #[])/\Below w.heap.size w w'
 |some o=>e=.panicked [{ v:=Qgl er o,recovered:=false }]/\Below w.heap.size w w'
theorem Jev{l:List (Addr × An)}{i:Nat}{r:Addr × An}(h:l[i]?=some r):(((l.drop i).map (fun r=>r.2.nd)).find? (fun n=>decide (40<QaC n)))=if 40<QaC r.2.nd then some r.2.nd else ((l.drop (i+1)).map (fun r=>r.2.nd)).find? (fun n=>decide (40<QaC n)):=by
 rw[List.drop_eq_getElem_cons (List.getElem?_eq_some_iff.1 h).1,(List.getElem?_eq_some_iff.1 h).2,map_cons,List.find?_cons]
 by_cases hn:40<QaC r.2.nd
 ·rw[if_pos hn];simp[hn]
 ·rw[if_neg hn];simp[hn]
theorem JfJ(w:World)(sb:Nat)(S:Qap)(h:QaL w sb S)(h1:S.funcs.length<=100000000)(h2:S.clauses.length<=100000000)(h3:∀ r∈S.rootsA,siz r.2.nd<=1000000000):Calls prog 38 #[.pointer (some ⟨sb,0,none⟩)] w (Qit w 7 (Qbd S.src)):=by
 have cr:=JfI w sb S h h1 h2;obtain⟨X,hX⟩:∃ X,Qbd S.src=X:=⟨_,rfl⟩
 rw[hX];obtain⟨R,hR⟩:∃ R,Qit w 7 X=R:=⟨_,rfl⟩
 rw[hR];have HR:Hid (R=Qit w 7 X):=hR.symm;have hra:=JhX h;unfold QfQ at cr;rw[<- Jeu]at cr;have hlen:S.funcs.length+S.clauses.length=S.rootsA.length:=by unfold Qap.rootsA;rw[List.length_append,VS,VT]
 have hln:S.rootsA.length<=200000000:=by omega
 rw[hlen]at cr;unfold Qbd at hX;rw[<- JdG]at hX;generalize S.rootsA=L at *;have HX:=Zh hX;have HRA:=Zh hra;have HSZ:=Zh h3;clear h hR hX hra h1 h2 h3 hlen;go_enter func38,ntmps38;go_wp2_with fail;refine cr.mono ?_;rintro e w1 ⟨v,rfl,hown,hb1⟩;obtain⟨ad,cc,hv,had⟩:=Va hown;have HOW:=Zh hown;have HAD:=Zh had;have HBV:Hid (∃ b,b=Value.blk v):=⟨_,rfl⟩
 generalize hvb:Value.blk v=vb at *;have HVB:=Zh hvb;subst hv;have HB1:=Zh hb1;clear cr hown had hvb hb1 HBV;go_wp2_with fail;go_loopg [7] L.length (fun g v7 wr=>∃ i:Nat,g+i=L.length/\v7=.int .i64 i/\Hid ((((L.drop i).map (fun r=>r.2.nd)).find? (fun n=>decide (40<QaC n))).map Nd.off=X)/\Hid (Below w.heap.size w wr)/\Hid (Below w1.heap.size w1 wr))
 case atStart=>exact⟨0,rfl,rfl,HX.out,HB1,Below.refl _ _⟩
 case round=>
 clear HX HB1;obtain⟨wl,rfl⟩:∃ wl:World,wl=wr:=⟨_,rfl⟩
 obtain⟨i,hg,rfl,hx,hw,hw1⟩:=hrel
 by_cases hil:i<L.length
 ·have hl:(i:Int)<(L.length:Int):=by omega
  obtain⟨r,hr⟩:∃ r,L[i]?=some r:=⟨L[i],List.getElem?_eq_getElem hil⟩
  have had:ad=some ⟨vb,0,none⟩:=HAD.out (by omega);have hc:=JZ HOW.out (j:=i) (u:=.pointer (some r.1)) (by rw[getElem?_map,hr];rfl);rw[HVB.out]at hc;have c0:=(hw1.out.cell (World.block_lt_of_cell? _ _ hc)).trans hc;have hrt:=(HRA.out r (mem_of_getElem? hr)).below hw.out;have hsz:=HSZ.out r (mem_of_getElem? hr);have hst:=Jev hr;have wk:IntKind.i64.wrap ((i:Int)+1)=(i:Int)+1:=IntWalk.i64_in _ (by omega);obtain⟨⟨rb,ro,rp⟩,x⟩:=r;obtain⟨hrp,hrc,hxa⟩:=hrt;dsimp only at hrp hrc hxa hsz hst c0;subst hrp;obtain⟨xA,xn,xc,hcf⟩:=Jf x;rw[hcf]at hrc;have d0:=hrc 0 _ rfl;have d1:=hrc 1 _ rfl;have d2:=hrc 2 _ rfl;have d3:=hrc 3 _ rfl;have d4:=hrc 4 _ rfl;simp only[Nat.add_zero]at d0;have cx:=Y9 1000000000 x wl hsz zzl hxa;rw[hcf]at cx;have HG:=Zh hg;have HX:=Zh hx.out;rw[hst]at HX;have HW:=Zh hw.out;have HW1:=Zh hw1.out;have hnb:QaC x.nd<=1000000000:=le_trans (JdC _) hsz;subst had;clear hc hr hst hsz hcf hrc hxa hg hx hw hw1 HAD;go_wp2_with fail;refine cx.mono ?_;rintro e w2 ⟨rfl,hb2⟩;have d3':=(hb2.cell (World.block_lt_of_cell? _ _ d3)).trans d3;have HW3:=Zh (HW.out.trans (hb2.mono HW.out.size));have HW4:=Zh (HW1.out.trans (hb2.mono HW1.out.size));clear cx hb2 d0 d1 d2 d3 d4 HW HW1 c0
  by_cases hn:40<QaC x.nd
  ·have dn:(40:Int)<(QaC x.nd:Int):=by omega
   rw[if_pos hn]at HX;clear hn;go_wp2;refine⟨rfl,?_⟩;rw[HR.out,<- HX.out];exact⟨by rw[Y4];rfl,HW3.out⟩
  ·have dn:¬ (40:Int)<(QaC x.nd:Int):=by omega
   rw[if_neg hn]at HX;clear hn d3';go_wp2;go_roundg (L.length-(i+1))
   case measure=>have:=HG.out;omega
   case rel=>exact⟨i+1,by omega,by go_num,HX,HW3,HW4⟩
 ·have hl:¬ (i:Int)<(L.length:Int):=by omega
  obtain rfl:i=L.length:=by omega
  have HX:=Zh hx.out;rw[List.drop_length]at HX;clear hil hg hx HAD;go_wp2;go_end0;rw[HR.out,<- HX.out];exact⟨rfl,hw.out⟩
theorem Qcn:Go.Maps.Keyed prog 9:=Go.Maps.string_keyed underlying9
theorem YB{s:List UInt8}(hs:s.length<=1000000):keyOf prog 9 (.string (bs s))=some (.string s):=by
 rw[Go.WideMaps.keyOf_string_mk underlying9 (by rw[JF];unfold maxLen;omega),Vy]
theorem JhY{a:Int}(h:0<=a/\a<=1000000000):(Lit.int .i64 a).wf=true:=by
 simp[Lit.wf,IntKind.min,IntKind.max,IntKind.signed,IntKind.bits];omega
def Qbg(w:World)(b n:Nat)(f:List UInt8->Option Nat):Prop:=
 ∃ D:DataW Unit,w.ownsMap prog 9 (plainElem prog 3) b n D/\Go.Maps.IsMap D/\
  ∀ s:List UInt8,s.length<=1000000->Go.Maps.has D (.string s)=(f s).isSome/\D.atKey (.string s) (.lit (.int .i64 0))=.lit (.int .i64 ((f s).getD 0:Nat))
theorem Qiu(w:World):(zeroValue 3).run prog w=.ok (.int .i64 0) w:=by kernel_rfl
theorem Qbg.look{w:World}{b n:Nat}{f:List UInt8->Option Nat}(h:Qbg w b n f){s:List UInt8}(hs:s.length<=1000000) :
  (Instr.lookup 140 (.map (some b)) (.string (bs s)) true).run prog w=.ok (.tuple #[.int .i64 ((f s).getD 0:Nat),.bool (f s).isSome]) w:=by
 obtain⟨D,ho,hm,hf⟩:=h;obtain⟨h1,h2⟩:=hf s hs;obtain⟨v,ps,hrun,hv⟩:=ho.look_ok Qcn underlying140 (Qiu w) (plainElem_int underlying3 (by decide)) (YB hs);rw[hrun];rw[h2]at hv;obtain⟨c,rfl,hc,hw⟩:=plainElem_int_inv underlying3 hv;simp only[Prod.mk.injEq,DataW.lit.injEq,Lit.int.injEq]at hc;rw[h1,<- hc.1.2]
theorem Qbg.upd{w:World}{b n:Nat}{f:List UInt8->Option Nat}(h:Qbg w b n f)(hn:n<maxLen){s:List UInt8}(hs:s.length<=1000000){v:Nat}(hv:v<=1000000000) :
  ∃ w',(Instr.mapUpdate 140 (.map (some b)) (.string (bs s)) (.int .i64 v)).run prog w=.ok () w'/\Qbg w' b (n+1) (fun x=>if x=s then some v else f x)/\Chg [b] w w':=by
 obtain⟨D,ho,hm,hf⟩:=h;have hk:=YB hs;obtain⟨w',hrun,ho',hg⟩:=ho.update Qcn underlying140 hn hk (plainElem_int underlying3 (JhY (a:=(v:Nat)) (by omega)));refine⟨w',hrun,⟨_,ho',hm.put _ _,fun x hx=>?_⟩,Chg.of_grownBy hg⟩;dsimp only
 by_cases e:x=s
 ·subst e;rw[if_pos rfl,Go.Maps.has_put_same hm (Qcn.key hk),Go.Maps.atKey_put_same hm (Qcn.key hk)];exact⟨rfl,rfl⟩
 ·rw[if_neg e];have hne:(Lit.string x)≠Lit.string s:=fun h=>e (by injection h)
  rw[Go.Maps.has_put_other hne,Go.Maps.atKey_put_other hne];exact hf x hx
theorem Qbg.new(w:World):Qbg (w.alloc (.map #[] 0)) w.heap.size 0 (fun _=>none):=
 ⟨.map [],World.ownsMap_made w _ _ _,Go.Maps.isMap_empty,fun _ _=>⟨rfl,rfl⟩⟩
theorem Qbg.lt{w:World}{b n:Nat}{f:List UInt8->Option Nat}(h:Qbg w b n f):b<w.heap.size:=h.choose_spec.1.lt
theorem Qbg.same{w w':World}{b n:Nat}{f:List UInt8->Option Nat}(h:Qbg w b n f)(hc:w'.heap[b]?=w.heap[b]?):Qbg w' b n f:=by
 obtain⟨D,⟨es,clock,hb,r⟩,q⟩:=h;exact⟨D,⟨es,clock,hc.trans hb,r⟩,q⟩
theorem Qbg.keep{S:List Nat}{w w':World}{b n:Nat}{f:List UInt8->Option Nat}(h:Qbg w b n f)(hc:Chg S w w')(hn:b∉S):Qbg w' b n f:=h.same (hc.block b h.lt hn)
def addF(x:Option Int)(o:Int):Option Int:=some (match x with|none=>o|some b=>if o<b then o else b)
def QaK(x:Option Int)(l:List Int):Option Int:=l.foldl addF x
theorem Jv(x:Option Int)(a b:List Int):QaK x (a++b)=QaK (QaK x a) b:=List.foldl_append
theorem JdH(x:Option Int):QaK x []=x:=rfl
theorem JfK(o:Int):addF none o=some o:=rfl
theorem Za(b o:Int):addF (some b) o=some (if o<b then o else b):=rfl
theorem Z5(a:Int)(l:List Int):QaG (a::l)=some (match QaG l with|none=>a|some b=>min a b):=rfl
theorem Qml{P:Prop}(h:P:=by
  cases QaG l with
  |none=>
   dsimp only
   congr 1
   simp only[Int.min_def]
   repeat' split
   all_goals omega
  |some c=>
   dsimp only
   congr 1
   simp only[Int.min_def]
   repeat' split
   all_goals omega):P:=h
theorem Jbs(b:Int):∀ l:List Int,QaK (some b) l=some (match QaG l with|none=>b|some c=>min b c)
 |[]=>rfl
 |a::l=>by
  show QaK (addF (some b) a) l=_
  rw[Za,Jbs _ l,Z5]
  by_cases h:a<b
  ·rw[if_pos h];exact Qml
  ·rw[if_neg h];exact Qml
theorem Z6(l:List Int):QaK none l=QaG l:=by
 cases l with
 |nil=>rfl
 |cons a l=>
  show QaK (addF none a) l=_
  rw[JfK,Jbs,Z5]
def Qba(W:World)(rb:Nat)(t:TypeId)(x:Option Int)(M:Value):Prop:=W.heap[rb]?=some (.cells #[.bool x.isSome,.int .i64 (x.getD 0),M] t (0,0))
def QkI(w:World)(rb:Nat)(t:TypeId)(x:Option Int)(M:Value)(e:Ending)(w':World):Prop:=e=.returned (.tuple #[])/\Qba w' rb t x M/\Chg [rb] w w'
theorem VD(w:World)(rb:Nat)(t:TypeId)(x:Option Int)(M:Value)(o:Int)(h:Qba w rb t x M):Calls prog 75 #[.pointer (some ⟨rb,0,none⟩),.int .i64 o] w (QkI w rb t (addF x o) M):=by
 unfold Qba at h;obtain⟨R,hR⟩:∃ R,QkI w rb t (addF x o) M=R:=⟨_,rfl⟩
 rw[hR];have HR:Hid (R=QkI w rb t (addF x o) M):=hR.symm;have b0:=Ja h 0;have b1:=Ja h 1;simp only[ZD,ZE,ZF]at b0 b1;have f0:=Jc h 0;have f1:=Jc h 1;have hl:=Jb h;have H:=Zh h;clear hR h
 have HP:Hid (Qba ((w.setCell ⟨rb,0,none⟩ (.bool true)).setCell ⟨rb,1,none⟩ (.int .i64 o)) rb t (some o) M/\Chg [rb] w ((w.setCell ⟨rb,0,none⟩ (.bool true)).setCell ⟨rb,1,none⟩ (.int .i64 o))):=by
  have h0:=J3 H.out 0 (.bool true);have h1:=J3 h0 1 (.int .i64 o);exact⟨h1,((Chg.refl [rb] w).setCell (.inl (by simp)) (p:=⟨rb,0,none⟩) _).setCell (.inl (by simp)) (p:=⟨rb,1,none⟩) _⟩
 cases x with
 |none=>
  simp only[Option.isSome,Option.getD]at b0 b1;clear H;go_enter func75,ntmps75;go_wp2;go_end0;rw[HR.out];exact⟨rfl,HP.out⟩
 |some b=>
  simp only[Option.isSome,Option.getD]at b0 b1
  by_cases hlt:o<b
  ·have e:addF (some b) o=some o:=by rw[Za,if_pos hlt]
   have HE:=Zh e;clear H e;go_enter func75,ntmps75;go_wp2;go_end0;rw[HR.out,HE.out];exact⟨rfl,HP.out⟩
  ·have e:addF (some b) o=some b:=by rw[Za,if_neg hlt]
   have HE:=Zh e;clear HP e;go_enter func75,ntmps75;go_wp2;go_end0;rw[HR.out,HE.out];exact⟨rfl,H.out,Chg.refl _ _⟩
end Go.Proofs.YtdlkcjkjnehnkaaGreatDoor
