import Derived.Test.YtdlkcjkjnehnkaaGreatDoorH20
open Nat(le_trans)
namespace Go.Proofs.YtdlkcjkjnehnkaaGreatDoor
open Go.ChangeShapes Go.WideShapes Go.ChangeAt Go.RowKit Go.Lib
open _root_.Go.Proofs.Tryz
set_option linter.all false
set_option maxRecDepth 100000
set_option maxHeartbeats 32000000
theorem Ks(fs:List Qbn)(vars:List Int)(k n:Int)(s:List UInt8)(o:Int)(l:List Nd):ofN fs vars (.mk k n s o l) =
  if k=1\/k=5 then (1,[])
  else if k=2 then (vars.getD n.toNat 0,[])
  else if k=3 then ((QaD s).getD 0,[])
  else if k=6\/(8<=k/\k<=12) then (0,Qbt fs vars 0 l)
  else if k=13\/k=14 then (1,Qbt fs vars 0 l)
  else if k=15 then
   match l with
   |[a,b]=>(1,(ofN fs vars a).2++(ofN fs vars b).2++if (ofN fs vars b).1≠(ofN fs vars a).1 then [b.off] else [])
   |_=>(1,[])
  else if k=7\/k=16\/k=17 then (1,Qbt fs vars 1 l)
  else if k=18 then
   match l with
   |[c,a,b]=>((ofN fs vars a).1,(ofN fs vars c).2++(if (ofN fs vars c).1≠1 then [c.off] else [])++(ofN fs vars a).2++(ofN fs vars b).2++if (ofN fs vars b).1≠(ofN fs vars a).1 then [b.off] else [])
   |_=>(0,[])
  else if k=19 then
   match l with
   |[a,b]=>((ofN fs (vars++[(ofN fs vars a).1]) b).1,(ofN fs vars a).2++(ofN fs (vars++[(ofN fs vars a).1]) b).2)
   |_=>(0,[])
  else if k=20 then ((fs.getD n.toNat ⟨[],0⟩).result,Qji fs vars n o l)
  else (0,[]):=by
 conv=>lhs;unfold ofN
 try rfl
def Qed(fs:List Qbn)(rb:Nat)(M:Value)(n:Nat):Prop:=∀ (a:An) (vars:List Int) (vv:Value) (x:Option Int) (w:World),siz a.nd<=n->n+vars.length<=1000000000->Qas fs rb M w x vars vv a->Calls prog 85 #[.pointer (some ⟨rb,0,none⟩),.agg (Qaa a),vv] w (TyP w rb M x (ofN fs vars a.nd).2 (.int .i64 (ofN fs vars a.nd).1))
theorem Qlx{P:Prop}(h:P:=by
  go_wp2;rw[HR.out];obtain⟨rfl,rfl⟩:=HRV.out
  exact⟨rfl,HP2.out.flt,HBA.out⟩):P:=h
theorem Qkj{P:Prop}(h:P:=by
  clear hR hbA hkv had hcs hrl HP hpre hn;simp at hr;have HRV:=Zh hr;clear hr;go_enter func85,ntmps85
  exact Qlx):P:=h
theorem QmU(fs:List Qbn)(rb:Nat)(M:Value)(hps:∀ s∈fs,s.params.length<=1000000000)(n:Nat)(IH:Qed fs rb M n)(nn:Int)(s:List UInt8)(off:Int)(b c:Nat)(l:List An)(vars:List Int)(vv:Value)(x:Option Int)(w:World)(hn:Qbq (ndL l)<=n)(hb:n+1+vars.length<=1000000000)(hpre:Qas fs rb M w x vars vv (.mk 1 nn s off b c l))  :
  Calls prog 85 #[.pointer (some ⟨rb,0,none⟩),.agg (Qaa (.mk 1 nn s off b c l)),vv] w (TyP w rb M x (ofN fs vars (An.mk 1 nn s off b c l).nd).2 (.int .i64 (ofN fs vars (An.mk 1 nn s off b c l).nd).1)):=by
 obtain⟨r,hr⟩:∃ r,ofN fs vars (An.mk 1 nn s off b c l).nd=r:=⟨_,rfl⟩
 rw[hr];obtain⟨ty,es⟩:=r;dsimp only;obtain⟨R,hR⟩:∃ R,TyP w rb M x es (.int .i64 ty)=R:=⟨_,rfl⟩
 rw[hR];have HR:Hid (R=TyP w rb M x es (.int .i64 ty)):=hR.symm;rw[An.nd,Ks]at hr;have hlen:l.length<=n:=by have:=Jx l;omega
 obtain⟨ad,cc,hkv,had⟩:=Jo b c l
 have hcs:Qaa (.mk 1 nn s off b c l)=#[.int .i64 1,.int .i64 nn,.string (bs s),.int .i64 off,.slice ad l.length cc]:=by
  show #[_,_,_,_,QaB b c l]=_
  rw[hkv]
 have hbA:Below w.heap.size w (w.alloc (.cells (Qaa (.mk 1 nn s off b c l)) 103)):=zzb.alloc zzl _;have hrl:=Jb hpre.flt;have hcb:w.heap.size≠rb:=by omega
 have HP:=Zh (hpre.up hbA);have HBA:=Zh (Chg.of_below hbA [rb]);have HCP:=Zh (zzw w (.cells (Qaa (.mk 1 nn s off b c l)) 103));have HAD:=Zh had;have HCS:=Zh hcs;have HN:=Zh hn;rw[hcs]at HBA HCP |-;have HP2:Hid (Qas fs rb M (w.alloc (.cells #[.int .i64 1,.int .i64 nn,.string (bs s),.int .i64 off,.slice ad l.length cc] 103)) x vars vv (.mk 1 nn s off b c l)):=by rw[<- hcs];exact HP.out
 exact Qkj
theorem QmR(fs:List Qbn)(rb:Nat)(M:Value)(hps:∀ s∈fs,s.params.length<=1000000000)(n:Nat)(IH:Qed fs rb M n)(nn:Int)(s:List UInt8)(off:Int)(b c:Nat)(l:List An)(vars:List Int)(vv:Value)(x:Option Int)(w:World)(hn:Qbq (ndL l)<=n)(hb:n+1+vars.length<=1000000000)(hpre:Qas fs rb M w x vars vv (.mk 5 nn s off b c l))  :
  Calls prog 85 #[.pointer (some ⟨rb,0,none⟩),.agg (Qaa (.mk 5 nn s off b c l)),vv] w (TyP w rb M x (ofN fs vars (An.mk 5 nn s off b c l).nd).2 (.int .i64 (ofN fs vars (An.mk 5 nn s off b c l).nd).1)):=by
 obtain⟨r,hr⟩:∃ r,ofN fs vars (An.mk 5 nn s off b c l).nd=r:=⟨_,rfl⟩
 rw[hr];obtain⟨ty,es⟩:=r;dsimp only;obtain⟨R,hR⟩:∃ R,TyP w rb M x es (.int .i64 ty)=R:=⟨_,rfl⟩
 rw[hR];have HR:Hid (R=TyP w rb M x es (.int .i64 ty)):=hR.symm;rw[An.nd,Ks]at hr;have hlen:l.length<=n:=by have:=Jx l;omega
 obtain⟨ad,cc,hkv,had⟩:=Jo b c l
 have hcs:Qaa (.mk 5 nn s off b c l)=#[.int .i64 5,.int .i64 nn,.string (bs s),.int .i64 off,.slice ad l.length cc]:=by
  show #[_,_,_,_,QaB b c l]=_
  rw[hkv]
 have hbA:Below w.heap.size w (w.alloc (.cells (Qaa (.mk 5 nn s off b c l)) 103)):=zzb.alloc zzl _;have hrl:=Jb hpre.flt;have hcb:w.heap.size≠rb:=by omega
 have HP:=Zh (hpre.up hbA);have HBA:=Zh (Chg.of_below hbA [rb]);have HCP:=Zh (zzw w (.cells (Qaa (.mk 5 nn s off b c l)) 103));have HAD:=Zh had;have HCS:=Zh hcs;have HN:=Zh hn;rw[hcs]at HBA HCP |-;have HP2:Hid (Qas fs rb M (w.alloc (.cells #[.int .i64 5,.int .i64 nn,.string (bs s),.int .i64 off,.slice ad l.length cc] 103)) x vars vv (.mk 5 nn s off b c l)):=by rw[<- hcs];exact HP.out
 exact Qkj
theorem QmT(fs:List Qbn)(rb:Nat)(M:Value)(hps:∀ s∈fs,s.params.length<=1000000000)(n:Nat)(IH:Qed fs rb M n)(nn:Int)(s:List UInt8)(off:Int)(b c:Nat)(l:List An)(vars:List Int)(vv:Value)(x:Option Int)(w:World)(hn:Qbq (ndL l)<=n)(hb:n+1+vars.length<=1000000000)(hpre:Qas fs rb M w x vars vv (.mk 2 nn s off b c l))  :
  Calls prog 85 #[.pointer (some ⟨rb,0,none⟩),.agg (Qaa (.mk 2 nn s off b c l)),vv] w (TyP w rb M x (ofN fs vars (An.mk 2 nn s off b c l).nd).2 (.int .i64 (ofN fs vars (An.mk 2 nn s off b c l).nd).1)):=by
 obtain⟨r,hr⟩:∃ r,ofN fs vars (An.mk 2 nn s off b c l).nd=r:=⟨_,rfl⟩
 rw[hr];obtain⟨ty,es⟩:=r;dsimp only;obtain⟨R,hR⟩:∃ R,TyP w rb M x es (.int .i64 ty)=R:=⟨_,rfl⟩
 rw[hR];have HR:Hid (R=TyP w rb M x es (.int .i64 ty)):=hR.symm;rw[An.nd,Ks]at hr;have hlen:l.length<=n:=by have:=Jx l;omega
 obtain⟨ad,cc,hkv,had⟩:=Jo b c l
 have hcs:Qaa (.mk 2 nn s off b c l)=#[.int .i64 2,.int .i64 nn,.string (bs s),.int .i64 off,.slice ad l.length cc]:=by
  show #[_,_,_,_,QaB b c l]=_
  rw[hkv]
 have hbA:Below w.heap.size w (w.alloc (.cells (Qaa (.mk 2 nn s off b c l)) 103)):=zzb.alloc zzl _;have hrl:=Jb hpre.flt;have hcb:w.heap.size≠rb:=by omega
 have HP:=Zh (hpre.up hbA);have HBA:=Zh (Chg.of_below hbA [rb]);have HCP:=Zh (zzw w (.cells (Qaa (.mk 2 nn s off b c l)) 103));have HAD:=Zh had;have HCS:=Zh hcs;have HN:=Zh hn;rw[hcs]at HBA HCP |-;have HP2:Hid (Qas fs rb M (w.alloc (.cells #[.int .i64 2,.int .i64 nn,.string (bs s),.int .i64 off,.slice ad l.length cc] 103)) x vars vv (.mk 2 nn s off b c l)):=by rw[<- hcs];exact HP.out
 clear hR hbA hkv had hcs hrl HP hpre hn;have hok:=HP2.out.ok;unfold An.nd QdW at hok;obtain⟨h0,h1⟩:=hok.1 rfl;obtain⟨ix,rfl⟩:∃ ix:Nat,nn=(ix:Int):=⟨nn.toNat,by omega⟩
 have hix:ix<vars.length:=by omega
 have hixi:(ix:Int)<(vars.length:Int):=by omega
 simp at hr;have HRV:=Zh hr;obtain⟨u,hu⟩:∃ u,vars[ix]?=some u:=⟨vars[ix],List.getElem?_eq_getElem hix⟩
 have HU:=Zh hu
 obtain⟨g,o,hvv,hcell⟩:∃ g o,(∃ vc,vv=.slice (some ⟨g,o,none⟩) vars.length vc)/\(w.alloc (.cells #[.int .i64 2,.int .i64 (ix:Nat),.string (bs s),.int .i64 off,.slice ad l.length cc] 103)).cell? ⟨g,o+ix,none⟩=some (.int .i64 u):=by
  rcases HP2.out.ints with⟨e,_⟩|⟨g,o,vc,e,_,_,_,e5⟩
  ·rw[e]at hix;exact absurd hix (by simp)
  ·exact⟨g,o,⟨vc,e⟩,e5 ix u hu⟩
 obtain⟨vc,rfl⟩:=hvv;clear hr hok h0 h1 hu;go_enter func85,ntmps85;go_wp2;rw[HR.out];obtain⟨h1,rfl⟩:=HRV.out;rw[HU.out]at h1;simp at h1;subst h1;exact⟨rfl,HP2.out.flt,HBA.out⟩
theorem QmS(fs:List Qbn)(rb:Nat)(M:Value)(hps:∀ s∈fs,s.params.length<=1000000000)(n:Nat)(IH:Qed fs rb M n)(nn:Int)(s:List UInt8)(off:Int)(b c:Nat)(l:List An)(vars:List Int)(vv:Value)(x:Option Int)(w:World)(hn:Qbq (ndL l)<=n)(hb:n+1+vars.length<=1000000000)(hpre:Qas fs rb M w x vars vv (.mk 3 nn s off b c l))  :
  Calls prog 85 #[.pointer (some ⟨rb,0,none⟩),.agg (Qaa (.mk 3 nn s off b c l)),vv] w (TyP w rb M x (ofN fs vars (An.mk 3 nn s off b c l).nd).2 (.int .i64 (ofN fs vars (An.mk 3 nn s off b c l).nd).1)):=by
 obtain⟨r,hr⟩:∃ r,ofN fs vars (An.mk 3 nn s off b c l).nd=r:=⟨_,rfl⟩
 rw[hr];obtain⟨ty,es⟩:=r;dsimp only;obtain⟨R,hR⟩:∃ R,TyP w rb M x es (.int .i64 ty)=R:=⟨_,rfl⟩
 rw[hR];have HR:Hid (R=TyP w rb M x es (.int .i64 ty)):=hR.symm;rw[An.nd,Ks]at hr;have hlen:l.length<=n:=by have:=Jx l;omega
 obtain⟨ad,cc,hkv,had⟩:=Jo b c l
 have hcs:Qaa (.mk 3 nn s off b c l)=#[.int .i64 3,.int .i64 nn,.string (bs s),.int .i64 off,.slice ad l.length cc]:=by
  show #[_,_,_,_,QaB b c l]=_
  rw[hkv]
 have hbA:Below w.heap.size w (w.alloc (.cells (Qaa (.mk 3 nn s off b c l)) 103)):=zzb.alloc zzl _;have hrl:=Jb hpre.flt;have hcb:w.heap.size≠rb:=by omega
 have HP:=Zh (hpre.up hbA);have HBA:=Zh (Chg.of_below hbA [rb]);have HCP:=Zh (zzw w (.cells (Qaa (.mk 3 nn s off b c l)) 103));have HAD:=Zh had;have HCS:=Zh hcs;have HN:=Zh hn;rw[hcs]at HBA HCP |-;have HP2:Hid (Qas fs rb M (w.alloc (.cells #[.int .i64 3,.int .i64 nn,.string (bs s),.int .i64 off,.slice ad l.length cc] 103)) x vars vv (.mk 3 nn s off b c l)):=by rw[<- hcs];exact HP.out
 clear hR hbA hkv had hcs hrl HP hpre hn;simp at hr;have HRV:=Zh hr;clear hr;go_enter func85,ntmps85;go_wp2_with fail;refine(Yy s _).mono ?_;rintro e w2 ⟨rfl,rfl⟩;exact Qlx
theorem Qhl{P:Prop}(h:P:=by
  rw[HCS.out]at ca;clear hr IH;go_enter func85,ntmps85;go_wp2_with fail;refine ca.mono ?_;rintro e w2 ⟨rfl,hf2,hc2⟩;have HF2:=Zh hf2;have HC2:=Zh hc2;clear ca hf2 hc2;go_wp2;rw[HR.out];obtain⟨rfl,rfl⟩:=HRV.out
  exact⟨rfl,HF2.out,HBA.out.trans HC2.out⟩):P:=h
theorem QmQ(fs:List Qbn)(rb:Nat)(M:Value)(hps:∀ s∈fs,s.params.length<=1000000000)(n:Nat)(IH:Qed fs rb M n)(nn:Int)(s:List UInt8)(off:Int)(b c:Nat)(l:List An)(vars:List Int)(vv:Value)(x:Option Int)(w:World)(hn:Qbq (ndL l)<=n)(hb:n+1+vars.length<=1000000000)(hpre:Qas fs rb M w x vars vv (.mk 6 nn s off b c l))  :
  Calls prog 85 #[.pointer (some ⟨rb,0,none⟩),.agg (Qaa (.mk 6 nn s off b c l)),vv] w (TyP w rb M x (ofN fs vars (An.mk 6 nn s off b c l).nd).2 (.int .i64 (ofN fs vars (An.mk 6 nn s off b c l).nd).1)):=by
 obtain⟨r,hr⟩:∃ r,ofN fs vars (An.mk 6 nn s off b c l).nd=r:=⟨_,rfl⟩
 rw[hr];obtain⟨ty,es⟩:=r;dsimp only;obtain⟨R,hR⟩:∃ R,TyP w rb M x es (.int .i64 ty)=R:=⟨_,rfl⟩
 rw[hR];have HR:Hid (R=TyP w rb M x es (.int .i64 ty)):=hR.symm;rw[An.nd,Ks]at hr;have hlen:l.length<=n:=by have:=Jx l;omega
 obtain⟨ad,cc,hkv,had⟩:=Jo b c l
 have hcs:Qaa (.mk 6 nn s off b c l)=#[.int .i64 6,.int .i64 nn,.string (bs s),.int .i64 off,.slice ad l.length cc]:=by
  show #[_,_,_,_,QaB b c l]=_
  rw[hkv]
 have hbA:Below w.heap.size w (w.alloc (.cells (Qaa (.mk 6 nn s off b c l)) 103)):=zzb.alloc zzl _;have hrl:=Jb hpre.flt;have hcb:w.heap.size≠rb:=by omega
 have HP:=Zh (hpre.up hbA);have HBA:=Zh (Chg.of_below hbA [rb]);have HCP:=Zh (zzw w (.cells (Qaa (.mk 6 nn s off b c l)) 103));have HAD:=Zh had;have HCS:=Zh hcs;have HN:=Zh hn;rw[hcs]at HBA HCP |-;have HP2:Hid (Qas fs rb M (w.alloc (.cells #[.int .i64 6,.int .i64 nn,.string (bs s),.int .i64 off,.slice ad l.length cc] 103)) x vars vv (.mk 6 nn s off b c l)):=by rw[<- hcs];exact HP.out
 clear hR hbA hkv had hcs hrl HP hpre hn;simp at hr;have HRV:=Zh hr;have ca:=Zg fs rb M 6 nn s off b c l vars vv x 0 _ (by decide) (by omega) HP2.out (fun y hy W x' hp=>JH fs rb M y vars vv x' 0 W hp (fun W2 hp2=>IH y vars vv x' W2 (le_trans (JL hy) HN.out) (by omega) hp2));exact Qhl
theorem QmO(fs:List Qbn)(rb:Nat)(M:Value)(hps:∀ s∈fs,s.params.length<=1000000000)(n:Nat)(IH:Qed fs rb M n)(nn:Int)(s:List UInt8)(off:Int)(b c:Nat)(l:List An)(vars:List Int)(vv:Value)(x:Option Int)(w:World)(hn:Qbq (ndL l)<=n)(hb:n+1+vars.length<=1000000000)(hpre:Qas fs rb M w x vars vv (.mk 8 nn s off b c l))  :
  Calls prog 85 #[.pointer (some ⟨rb,0,none⟩),.agg (Qaa (.mk 8 nn s off b c l)),vv] w (TyP w rb M x (ofN fs vars (An.mk 8 nn s off b c l).nd).2 (.int .i64 (ofN fs vars (An.mk 8 nn s off b c l).nd).1)):=by
 obtain⟨r,hr⟩:∃ r,ofN fs vars (An.mk 8 nn s off b c l).nd=r:=⟨_,rfl⟩
 rw[hr];obtain⟨ty,es⟩:=r;dsimp only;obtain⟨R,hR⟩:∃ R,TyP w rb M x es (.int .i64 ty)=R:=⟨_,rfl⟩
 rw[hR];have HR:Hid (R=TyP w rb M x es (.int .i64 ty)):=hR.symm;rw[An.nd,Ks]at hr;have hlen:l.length<=n:=by have:=Jx l;omega
 obtain⟨ad,cc,hkv,had⟩:=Jo b c l
 have hcs:Qaa (.mk 8 nn s off b c l)=#[.int .i64 8,.int .i64 nn,.string (bs s),.int .i64 off,.slice ad l.length cc]:=by
  show #[_,_,_,_,QaB b c l]=_
  rw[hkv]
 have hbA:Below w.heap.size w (w.alloc (.cells (Qaa (.mk 8 nn s off b c l)) 103)):=zzb.alloc zzl _;have hrl:=Jb hpre.flt;have hcb:w.heap.size≠rb:=by omega
 have HP:=Zh (hpre.up hbA);have HBA:=Zh (Chg.of_below hbA [rb]);have HCP:=Zh (zzw w (.cells (Qaa (.mk 8 nn s off b c l)) 103));have HAD:=Zh had;have HCS:=Zh hcs;have HN:=Zh hn;rw[hcs]at HBA HCP |-;have HP2:Hid (Qas fs rb M (w.alloc (.cells #[.int .i64 8,.int .i64 nn,.string (bs s),.int .i64 off,.slice ad l.length cc] 103)) x vars vv (.mk 8 nn s off b c l)):=by rw[<- hcs];exact HP.out
 clear hR hbA hkv had hcs hrl HP hpre hn;simp at hr;have HRV:=Zh hr;have ca:=Zg fs rb M 8 nn s off b c l vars vv x 0 _ (by decide) (by omega) HP2.out (fun y hy W x' hp=>JH fs rb M y vars vv x' 0 W hp (fun W2 hp2=>IH y vars vv x' W2 (le_trans (JL hy) HN.out) (by omega) hp2));exact Qhl
theorem QmN(fs:List Qbn)(rb:Nat)(M:Value)(hps:∀ s∈fs,s.params.length<=1000000000)(n:Nat)(IH:Qed fs rb M n)(nn:Int)(s:List UInt8)(off:Int)(b c:Nat)(l:List An)(vars:List Int)(vv:Value)(x:Option Int)(w:World)(hn:Qbq (ndL l)<=n)(hb:n+1+vars.length<=1000000000)(hpre:Qas fs rb M w x vars vv (.mk 9 nn s off b c l))  :
  Calls prog 85 #[.pointer (some ⟨rb,0,none⟩),.agg (Qaa (.mk 9 nn s off b c l)),vv] w (TyP w rb M x (ofN fs vars (An.mk 9 nn s off b c l).nd).2 (.int .i64 (ofN fs vars (An.mk 9 nn s off b c l).nd).1)):=by
 obtain⟨r,hr⟩:∃ r,ofN fs vars (An.mk 9 nn s off b c l).nd=r:=⟨_,rfl⟩
 rw[hr];obtain⟨ty,es⟩:=r;dsimp only;obtain⟨R,hR⟩:∃ R,TyP w rb M x es (.int .i64 ty)=R:=⟨_,rfl⟩
 rw[hR];have HR:Hid (R=TyP w rb M x es (.int .i64 ty)):=hR.symm;rw[An.nd,Ks]at hr;have hlen:l.length<=n:=by have:=Jx l;omega
 obtain⟨ad,cc,hkv,had⟩:=Jo b c l
 have hcs:Qaa (.mk 9 nn s off b c l)=#[.int .i64 9,.int .i64 nn,.string (bs s),.int .i64 off,.slice ad l.length cc]:=by
  show #[_,_,_,_,QaB b c l]=_
  rw[hkv]
 have hbA:Below w.heap.size w (w.alloc (.cells (Qaa (.mk 9 nn s off b c l)) 103)):=zzb.alloc zzl _;have hrl:=Jb hpre.flt;have hcb:w.heap.size≠rb:=by omega
 have HP:=Zh (hpre.up hbA);have HBA:=Zh (Chg.of_below hbA [rb]);have HCP:=Zh (zzw w (.cells (Qaa (.mk 9 nn s off b c l)) 103));have HAD:=Zh had;have HCS:=Zh hcs;have HN:=Zh hn;rw[hcs]at HBA HCP |-;have HP2:Hid (Qas fs rb M (w.alloc (.cells #[.int .i64 9,.int .i64 nn,.string (bs s),.int .i64 off,.slice ad l.length cc] 103)) x vars vv (.mk 9 nn s off b c l)):=by rw[<- hcs];exact HP.out
 clear hR hbA hkv had hcs hrl HP hpre hn;simp at hr;have HRV:=Zh hr;have ca:=Zg fs rb M 9 nn s off b c l vars vv x 0 _ (by decide) (by omega) HP2.out (fun y hy W x' hp=>JH fs rb M y vars vv x' 0 W hp (fun W2 hp2=>IH y vars vv x' W2 (le_trans (JL hy) HN.out) (by omega) hp2));exact Qhl
theorem Jmq(fs:List Qbn)(rb:Nat)(M:Value)(hps:∀ s∈fs,s.params.length<=1000000000)(n:Nat)(IH:Qed fs rb M n)(nn:Int)(s:List UInt8)(off:Int)(b c:Nat)(l:List An)(vars:List Int)(vv:Value)(x:Option Int)(w:World)(hn:Qbq (ndL l)<=n)(hb:n+1+vars.length<=1000000000)(hpre:Qas fs rb M w x vars vv (.mk 10 nn s off b c l))  :
  Calls prog 85 #[.pointer (some ⟨rb,0,none⟩),.agg (Qaa (.mk 10 nn s off b c l)),vv] w (TyP w rb M x (ofN fs vars (An.mk 10 nn s off b c l).nd).2 (.int .i64 (ofN fs vars (An.mk 10 nn s off b c l).nd).1)):=by
 obtain⟨r,hr⟩:∃ r,ofN fs vars (An.mk 10 nn s off b c l).nd=r:=⟨_,rfl⟩
 rw[hr];obtain⟨ty,es⟩:=r;dsimp only;obtain⟨R,hR⟩:∃ R,TyP w rb M x es (.int .i64 ty)=R:=⟨_,rfl⟩
 rw[hR];have HR:Hid (R=TyP w rb M x es (.int .i64 ty)):=hR.symm;rw[An.nd,Ks]at hr;have hlen:l.length<=n:=by have:=Jx l;omega
 obtain⟨ad,cc,hkv,had⟩:=Jo b c l
 have hcs:Qaa (.mk 10 nn s off b c l)=#[.int .i64 10,.int .i64 nn,.string (bs s),.int .i64 off,.slice ad l.length cc]:=by
  show #[_,_,_,_,QaB b c l]=_
  rw[hkv]
 have hbA:Below w.heap.size w (w.alloc (.cells (Qaa (.mk 10 nn s off b c l)) 103)):=zzb.alloc zzl _;have hrl:=Jb hpre.flt;have hcb:w.heap.size≠rb:=by omega
 have HP:=Zh (hpre.up hbA);have HBA:=Zh (Chg.of_below hbA [rb]);have HCP:=Zh (zzw w (.cells (Qaa (.mk 10 nn s off b c l)) 103));have HAD:=Zh had;have HCS:=Zh hcs;have HN:=Zh hn;rw[hcs]at HBA HCP |-;have HP2:Hid (Qas fs rb M (w.alloc (.cells #[.int .i64 10,.int .i64 nn,.string (bs s),.int .i64 off,.slice ad l.length cc] 103)) x vars vv (.mk 10 nn s off b c l)):=by rw[<- hcs];exact HP.out
 clear hR hbA hkv had hcs hrl HP hpre hn;simp at hr;have HRV:=Zh hr;have ca:=Zg fs rb M 10 nn s off b c l vars vv x 0 _ (by decide) (by omega) HP2.out (fun y hy W x' hp=>JH fs rb M y vars vv x' 0 W hp (fun W2 hp2=>IH y vars vv x' W2 (le_trans (JL hy) HN.out) (by omega) hp2));exact Qhl
theorem Jmr(fs:List Qbn)(rb:Nat)(M:Value)(hps:∀ s∈fs,s.params.length<=1000000000)(n:Nat)(IH:Qed fs rb M n)(nn:Int)(s:List UInt8)(off:Int)(b c:Nat)(l:List An)(vars:List Int)(vv:Value)(x:Option Int)(w:World)(hn:Qbq (ndL l)<=n)(hb:n+1+vars.length<=1000000000)(hpre:Qas fs rb M w x vars vv (.mk 11 nn s off b c l))  :
  Calls prog 85 #[.pointer (some ⟨rb,0,none⟩),.agg (Qaa (.mk 11 nn s off b c l)),vv] w (TyP w rb M x (ofN fs vars (An.mk 11 nn s off b c l).nd).2 (.int .i64 (ofN fs vars (An.mk 11 nn s off b c l).nd).1)):=by
 obtain⟨r,hr⟩:∃ r,ofN fs vars (An.mk 11 nn s off b c l).nd=r:=⟨_,rfl⟩
 rw[hr];obtain⟨ty,es⟩:=r;dsimp only;obtain⟨R,hR⟩:∃ R,TyP w rb M x es (.int .i64 ty)=R:=⟨_,rfl⟩
 rw[hR];have HR:Hid (R=TyP w rb M x es (.int .i64 ty)):=hR.symm;rw[An.nd,Ks]at hr;have hlen:l.length<=n:=by have:=Jx l;omega
 obtain⟨ad,cc,hkv,had⟩:=Jo b c l
 have hcs:Qaa (.mk 11 nn s off b c l)=#[.int .i64 11,.int .i64 nn,.string (bs s),.int .i64 off,.slice ad l.length cc]:=by
  show #[_,_,_,_,QaB b c l]=_
  rw[hkv]
 have hbA:Below w.heap.size w (w.alloc (.cells (Qaa (.mk 11 nn s off b c l)) 103)):=zzb.alloc zzl _;have hrl:=Jb hpre.flt;have hcb:w.heap.size≠rb:=by omega
 have HP:=Zh (hpre.up hbA);have HBA:=Zh (Chg.of_below hbA [rb]);have HCP:=Zh (zzw w (.cells (Qaa (.mk 11 nn s off b c l)) 103));have HAD:=Zh had;have HCS:=Zh hcs;have HN:=Zh hn;rw[hcs]at HBA HCP |-;have HP2:Hid (Qas fs rb M (w.alloc (.cells #[.int .i64 11,.int .i64 nn,.string (bs s),.int .i64 off,.slice ad l.length cc] 103)) x vars vv (.mk 11 nn s off b c l)):=by rw[<- hcs];exact HP.out
 clear hR hbA hkv had hcs hrl HP hpre hn;simp at hr;have HRV:=Zh hr;have ca:=Zg fs rb M 11 nn s off b c l vars vv x 0 _ (by decide) (by omega) HP2.out (fun y hy W x' hp=>JH fs rb M y vars vv x' 0 W hp (fun W2 hp2=>IH y vars vv x' W2 (le_trans (JL hy) HN.out) (by omega) hp2));exact Qhl
theorem Jms(fs:List Qbn)(rb:Nat)(M:Value)(hps:∀ s∈fs,s.params.length<=1000000000)(n:Nat)(IH:Qed fs rb M n)(nn:Int)(s:List UInt8)(off:Int)(b c:Nat)(l:List An)(vars:List Int)(vv:Value)(x:Option Int)(w:World)(hn:Qbq (ndL l)<=n)(hb:n+1+vars.length<=1000000000)(hpre:Qas fs rb M w x vars vv (.mk 12 nn s off b c l))  :
  Calls prog 85 #[.pointer (some ⟨rb,0,none⟩),.agg (Qaa (.mk 12 nn s off b c l)),vv] w (TyP w rb M x (ofN fs vars (An.mk 12 nn s off b c l).nd).2 (.int .i64 (ofN fs vars (An.mk 12 nn s off b c l).nd).1)):=by
 obtain⟨r,hr⟩:∃ r,ofN fs vars (An.mk 12 nn s off b c l).nd=r:=⟨_,rfl⟩
 rw[hr];obtain⟨ty,es⟩:=r;dsimp only;obtain⟨R,hR⟩:∃ R,TyP w rb M x es (.int .i64 ty)=R:=⟨_,rfl⟩
 rw[hR];have HR:Hid (R=TyP w rb M x es (.int .i64 ty)):=hR.symm;rw[An.nd,Ks]at hr;have hlen:l.length<=n:=by have:=Jx l;omega
 obtain⟨ad,cc,hkv,had⟩:=Jo b c l
 have hcs:Qaa (.mk 12 nn s off b c l)=#[.int .i64 12,.int .i64 nn,.string (bs s),.int .i64 off,.slice ad l.length cc]:=by
  show #[_,_,_,_,QaB b c l]=_
  rw[hkv]
 have hbA:Below w.heap.size w (w.alloc (.cells (Qaa (.mk 12 nn s off b c l)) 103)):=zzb.alloc zzl _;have hrl:=Jb hpre.flt;have hcb:w.heap.size≠rb:=by omega
 have HP:=Zh (hpre.up hbA);have HBA:=Zh (Chg.of_below hbA [rb]);have HCP:=Zh (zzw w (.cells (Qaa (.mk 12 nn s off b c l)) 103));have HAD:=Zh had;have HCS:=Zh hcs;have HN:=Zh hn;rw[hcs]at HBA HCP |-;have HP2:Hid (Qas fs rb M (w.alloc (.cells #[.int .i64 12,.int .i64 nn,.string (bs s),.int .i64 off,.slice ad l.length cc] 103)) x vars vv (.mk 12 nn s off b c l)):=by rw[<- hcs];exact HP.out
 clear hR hbA hkv had hcs hrl HP hpre hn;simp at hr;have HRV:=Zh hr;have ca:=Zg fs rb M 12 nn s off b c l vars vv x 0 _ (by decide) (by omega) HP2.out (fun y hy W x' hp=>JH fs rb M y vars vv x' 0 W hp (fun W2 hp2=>IH y vars vv x' W2 (le_trans (JL hy) HN.out) (by omega) hp2));exact Qhl
theorem Jmt(fs:List Qbn)(rb:Nat)(M:Value)(hps:∀ s∈fs,s.params.length<=1000000000)(n:Nat)(IH:Qed fs rb M n)(nn:Int)(s:List UInt8)(off:Int)(b c:Nat)(l:List An)(vars:List Int)(vv:Value)(x:Option Int)(w:World)(hn:Qbq (ndL l)<=n)(hb:n+1+vars.length<=1000000000)(hpre:Qas fs rb M w x vars vv (.mk 13 nn s off b c l))  :
  Calls prog 85 #[.pointer (some ⟨rb,0,none⟩),.agg (Qaa (.mk 13 nn s off b c l)),vv] w (TyP w rb M x (ofN fs vars (An.mk 13 nn s off b c l).nd).2 (.int .i64 (ofN fs vars (An.mk 13 nn s off b c l).nd).1)):=by
 obtain⟨r,hr⟩:∃ r,ofN fs vars (An.mk 13 nn s off b c l).nd=r:=⟨_,rfl⟩
 rw[hr];obtain⟨ty,es⟩:=r;dsimp only;obtain⟨R,hR⟩:∃ R,TyP w rb M x es (.int .i64 ty)=R:=⟨_,rfl⟩
 rw[hR];have HR:Hid (R=TyP w rb M x es (.int .i64 ty)):=hR.symm;rw[An.nd,Ks]at hr;have hlen:l.length<=n:=by have:=Jx l;omega
 obtain⟨ad,cc,hkv,had⟩:=Jo b c l
 have hcs:Qaa (.mk 13 nn s off b c l)=#[.int .i64 13,.int .i64 nn,.string (bs s),.int .i64 off,.slice ad l.length cc]:=by
  show #[_,_,_,_,QaB b c l]=_
  rw[hkv]
 have hbA:Below w.heap.size w (w.alloc (.cells (Qaa (.mk 13 nn s off b c l)) 103)):=zzb.alloc zzl _;have hrl:=Jb hpre.flt;have hcb:w.heap.size≠rb:=by omega
 have HP:=Zh (hpre.up hbA);have HBA:=Zh (Chg.of_below hbA [rb]);have HCP:=Zh (zzw w (.cells (Qaa (.mk 13 nn s off b c l)) 103));have HAD:=Zh had;have HCS:=Zh hcs;have HN:=Zh hn;rw[hcs]at HBA HCP |-;have HP2:Hid (Qas fs rb M (w.alloc (.cells #[.int .i64 13,.int .i64 nn,.string (bs s),.int .i64 off,.slice ad l.length cc] 103)) x vars vv (.mk 13 nn s off b c l)):=by rw[<- hcs];exact HP.out
 clear hR hbA hkv had hcs hrl HP hpre hn;simp at hr;have HRV:=Zh hr;have ca:=Zg fs rb M 13 nn s off b c l vars vv x 0 _ (by decide) (by omega) HP2.out (fun y hy W x' hp=>JH fs rb M y vars vv x' 0 W hp (fun W2 hp2=>IH y vars vv x' W2 (le_trans (JL hy) HN.out) (by omega) hp2));exact Qhl
theorem Jmu(fs:List Qbn)(rb:Nat)(M:Value)(hps:∀ s∈fs,s.params.length<=1000000000)(n:Nat)(IH:Qed fs rb M n)(nn:Int)(s:List UInt8)(off:Int)(b c:Nat)(l:List An)(vars:List Int)(vv:Value)(x:Option Int)(w:World)(hn:Qbq (ndL l)<=n)(hb:n+1+vars.length<=1000000000)(hpre:Qas fs rb M w x vars vv (.mk 14 nn s off b c l))  :
  Calls prog 85 #[.pointer (some ⟨rb,0,none⟩),.agg (Qaa (.mk 14 nn s off b c l)),vv] w (TyP w rb M x (ofN fs vars (An.mk 14 nn s off b c l).nd).2 (.int .i64 (ofN fs vars (An.mk 14 nn s off b c l).nd).1)):=by
 obtain⟨r,hr⟩:∃ r,ofN fs vars (An.mk 14 nn s off b c l).nd=r:=⟨_,rfl⟩
 rw[hr];obtain⟨ty,es⟩:=r;dsimp only;obtain⟨R,hR⟩:∃ R,TyP w rb M x es (.int .i64 ty)=R:=⟨_,rfl⟩
 rw[hR];have HR:Hid (R=TyP w rb M x es (.int .i64 ty)):=hR.symm;rw[An.nd,Ks]at hr;have hlen:l.length<=n:=by have:=Jx l;omega
 obtain⟨ad,cc,hkv,had⟩:=Jo b c l
 have hcs:Qaa (.mk 14 nn s off b c l)=#[.int .i64 14,.int .i64 nn,.string (bs s),.int .i64 off,.slice ad l.length cc]:=by
  show #[_,_,_,_,QaB b c l]=_
  rw[hkv]
 have hbA:Below w.heap.size w (w.alloc (.cells (Qaa (.mk 14 nn s off b c l)) 103)):=zzb.alloc zzl _;have hrl:=Jb hpre.flt;have hcb:w.heap.size≠rb:=by omega
 have HP:=Zh (hpre.up hbA);have HBA:=Zh (Chg.of_below hbA [rb]);have HCP:=Zh (zzw w (.cells (Qaa (.mk 14 nn s off b c l)) 103));have HAD:=Zh had;have HCS:=Zh hcs;have HN:=Zh hn;rw[hcs]at HBA HCP |-;have HP2:Hid (Qas fs rb M (w.alloc (.cells #[.int .i64 14,.int .i64 nn,.string (bs s),.int .i64 off,.slice ad l.length cc] 103)) x vars vv (.mk 14 nn s off b c l)):=by rw[<- hcs];exact HP.out
 clear hR hbA hkv had hcs hrl HP hpre hn;simp at hr;have HRV:=Zh hr;have ca:=Zg fs rb M 14 nn s off b c l vars vv x 0 _ (by decide) (by omega) HP2.out (fun y hy W x' hp=>JH fs rb M y vars vv x' 0 W hp (fun W2 hp2=>IH y vars vv x' W2 (le_trans (JL hy) HN.out) (by omega) hp2));exact Qhl
theorem QmP(fs:List Qbn)(rb:Nat)(M:Value)(hps:∀ s∈fs,s.params.length<=1000000000)(n:Nat)(IH:Qed fs rb M n)(nn:Int)(s:List UInt8)(off:Int)(b c:Nat)(l:List An)(vars:List Int)(vv:Value)(x:Option Int)(w:World)(hn:Qbq (ndL l)<=n)(hb:n+1+vars.length<=1000000000)(hpre:Qas fs rb M w x vars vv (.mk 7 nn s off b c l))  :
  Calls prog 85 #[.pointer (some ⟨rb,0,none⟩),.agg (Qaa (.mk 7 nn s off b c l)),vv] w (TyP w rb M x (ofN fs vars (An.mk 7 nn s off b c l).nd).2 (.int .i64 (ofN fs vars (An.mk 7 nn s off b c l).nd).1)):=by
 obtain⟨r,hr⟩:∃ r,ofN fs vars (An.mk 7 nn s off b c l).nd=r:=⟨_,rfl⟩
 rw[hr];obtain⟨ty,es⟩:=r;dsimp only;obtain⟨R,hR⟩:∃ R,TyP w rb M x es (.int .i64 ty)=R:=⟨_,rfl⟩
 rw[hR];have HR:Hid (R=TyP w rb M x es (.int .i64 ty)):=hR.symm;rw[An.nd,Ks]at hr;have hlen:l.length<=n:=by have:=Jx l;omega
 obtain⟨ad,cc,hkv,had⟩:=Jo b c l
 have hcs:Qaa (.mk 7 nn s off b c l)=#[.int .i64 7,.int .i64 nn,.string (bs s),.int .i64 off,.slice ad l.length cc]:=by
  show #[_,_,_,_,QaB b c l]=_
  rw[hkv]
 have hbA:Below w.heap.size w (w.alloc (.cells (Qaa (.mk 7 nn s off b c l)) 103)):=zzb.alloc zzl _;have hrl:=Jb hpre.flt;have hcb:w.heap.size≠rb:=by omega
 have HP:=Zh (hpre.up hbA);have HBA:=Zh (Chg.of_below hbA [rb]);have HCP:=Zh (zzw w (.cells (Qaa (.mk 7 nn s off b c l)) 103));have HAD:=Zh had;have HCS:=Zh hcs;have HN:=Zh hn;rw[hcs]at HBA HCP |-;have HP2:Hid (Qas fs rb M (w.alloc (.cells #[.int .i64 7,.int .i64 nn,.string (bs s),.int .i64 off,.slice ad l.length cc] 103)) x vars vv (.mk 7 nn s off b c l)):=by rw[<- hcs];exact HP.out
 clear hR hbA hkv had hcs hrl HP hpre hn;simp at hr;have HRV:=Zh hr;have ca:=Zg fs rb M 7 nn s off b c l vars vv x 1 _ (by decide) (by omega) HP2.out (fun y hy W x' hp=>JH fs rb M y vars vv x' 1 W hp (fun W2 hp2=>IH y vars vv x' W2 (le_trans (JL hy) HN.out) (by omega) hp2));exact Qhl
theorem Jmv(fs:List Qbn)(rb:Nat)(M:Value)(hps:∀ s∈fs,s.params.length<=1000000000)(n:Nat)(IH:Qed fs rb M n)(nn:Int)(s:List UInt8)(off:Int)(b c:Nat)(l:List An)(vars:List Int)(vv:Value)(x:Option Int)(w:World)(hn:Qbq (ndL l)<=n)(hb:n+1+vars.length<=1000000000)(hpre:Qas fs rb M w x vars vv (.mk 16 nn s off b c l))  :
  Calls prog 85 #[.pointer (some ⟨rb,0,none⟩),.agg (Qaa (.mk 16 nn s off b c l)),vv] w (TyP w rb M x (ofN fs vars (An.mk 16 nn s off b c l).nd).2 (.int .i64 (ofN fs vars (An.mk 16 nn s off b c l).nd).1)):=by
 obtain⟨r,hr⟩:∃ r,ofN fs vars (An.mk 16 nn s off b c l).nd=r:=⟨_,rfl⟩
 rw[hr];obtain⟨ty,es⟩:=r;dsimp only;obtain⟨R,hR⟩:∃ R,TyP w rb M x es (.int .i64 ty)=R:=⟨_,rfl⟩
 rw[hR];have HR:Hid (R=TyP w rb M x es (.int .i64 ty)):=hR.symm;rw[An.nd,Ks]at hr;have hlen:l.length<=n:=by have:=Jx l;omega
 obtain⟨ad,cc,hkv,had⟩:=Jo b c l
 have hcs:Qaa (.mk 16 nn s off b c l)=#[.int .i64 16,.int .i64 nn,.string (bs s),.int .i64 off,.slice ad l.length cc]:=by
  show #[_,_,_,_,QaB b c l]=_
  rw[hkv]
 have hbA:Below w.heap.size w (w.alloc (.cells (Qaa (.mk 16 nn s off b c l)) 103)):=zzb.alloc zzl _;have hrl:=Jb hpre.flt;have hcb:w.heap.size≠rb:=by omega
 have HP:=Zh (hpre.up hbA);have HBA:=Zh (Chg.of_below hbA [rb]);have HCP:=Zh (zzw w (.cells (Qaa (.mk 16 nn s off b c l)) 103));have HAD:=Zh had;have HCS:=Zh hcs;have HN:=Zh hn;rw[hcs]at HBA HCP |-;have HP2:Hid (Qas fs rb M (w.alloc (.cells #[.int .i64 16,.int .i64 nn,.string (bs s),.int .i64 off,.slice ad l.length cc] 103)) x vars vv (.mk 16 nn s off b c l)):=by rw[<- hcs];exact HP.out
 clear hR hbA hkv had hcs hrl HP hpre hn;simp at hr;have HRV:=Zh hr;have ca:=Zg fs rb M 16 nn s off b c l vars vv x 1 _ (by decide) (by omega) HP2.out (fun y hy W x' hp=>JH fs rb M y vars vv x' 1 W hp (fun W2 hp2=>IH y vars vv x' W2 (le_trans (JL hy) HN.out) (by omega) hp2));exact Qhl
theorem Jmw(fs:List Qbn)(rb:Nat)(M:Value)(hps:∀ s∈fs,s.params.length<=1000000000)(n:Nat)(IH:Qed fs rb M n)(nn:Int)(s:List UInt8)(off:Int)(b c:Nat)(l:List An)(vars:List Int)(vv:Value)(x:Option Int)(w:World)(hn:Qbq (ndL l)<=n)(hb:n+1+vars.length<=1000000000)(hpre:Qas fs rb M w x vars vv (.mk 17 nn s off b c l))  :
  Calls prog 85 #[.pointer (some ⟨rb,0,none⟩),.agg (Qaa (.mk 17 nn s off b c l)),vv] w (TyP w rb M x (ofN fs vars (An.mk 17 nn s off b c l).nd).2 (.int .i64 (ofN fs vars (An.mk 17 nn s off b c l).nd).1)):=by
 obtain⟨r,hr⟩:∃ r,ofN fs vars (An.mk 17 nn s off b c l).nd=r:=⟨_,rfl⟩
 rw[hr];obtain⟨ty,es⟩:=r;dsimp only;obtain⟨R,hR⟩:∃ R,TyP w rb M x es (.int .i64 ty)=R:=⟨_,rfl⟩
 rw[hR];have HR:Hid (R=TyP w rb M x es (.int .i64 ty)):=hR.symm;rw[An.nd,Ks]at hr;have hlen:l.length<=n:=by have:=Jx l;omega
 obtain⟨ad,cc,hkv,had⟩:=Jo b c l
 have hcs:Qaa (.mk 17 nn s off b c l)=#[.int .i64 17,.int .i64 nn,.string (bs s),.int .i64 off,.slice ad l.length cc]:=by
  show #[_,_,_,_,QaB b c l]=_
  rw[hkv]
 have hbA:Below w.heap.size w (w.alloc (.cells (Qaa (.mk 17 nn s off b c l)) 103)):=zzb.alloc zzl _;have hrl:=Jb hpre.flt;have hcb:w.heap.size≠rb:=by omega
 have HP:=Zh (hpre.up hbA);have HBA:=Zh (Chg.of_below hbA [rb]);have HCP:=Zh (zzw w (.cells (Qaa (.mk 17 nn s off b c l)) 103));have HAD:=Zh had;have HCS:=Zh hcs;have HN:=Zh hn;rw[hcs]at HBA HCP |-;have HP2:Hid (Qas fs rb M (w.alloc (.cells #[.int .i64 17,.int .i64 nn,.string (bs s),.int .i64 off,.slice ad l.length cc] 103)) x vars vv (.mk 17 nn s off b c l)):=by rw[<- hcs];exact HP.out
 clear hR hbA hkv had hcs hrl HP hpre hn;simp at hr;have HRV:=Zh hr;have ca:=Zg fs rb M 17 nn s off b c l vars vv x 1 _ (by decide) (by omega) HP2.out (fun y hy W x' hp=>JH fs rb M y vars vv x' 1 W hp (fun W2 hp2=>IH y vars vv x' W2 (le_trans (JL hy) HN.out) (by omega) hp2));exact Qhl
theorem Jmx(fs:List Qbn)(rb:Nat)(M:Value)(hps:∀ s∈fs,s.params.length<=1000000000)(n:Nat)(IH:Qed fs rb M n)(nn:Int)(s:List UInt8)(off:Int)(b c:Nat)(l:List An)(vars:List Int)(vv:Value)(x:Option Int)(w:World)(hn:Qbq (ndL l)<=n)(hb:n+1+vars.length<=1000000000)(hpre:Qas fs rb M w x vars vv (.mk 20 nn s off b c l))  :
  Calls prog 85 #[.pointer (some ⟨rb,0,none⟩),.agg (Qaa (.mk 20 nn s off b c l)),vv] w (TyP w rb M x (ofN fs vars (An.mk 20 nn s off b c l).nd).2 (.int .i64 (ofN fs vars (An.mk 20 nn s off b c l).nd).1)):=by
 obtain⟨r,hr⟩:∃ r,ofN fs vars (An.mk 20 nn s off b c l).nd=r:=⟨_,rfl⟩
 rw[hr];obtain⟨ty,es⟩:=r;dsimp only;obtain⟨R,hR⟩:∃ R,TyP w rb M x es (.int .i64 ty)=R:=⟨_,rfl⟩
 rw[hR];have HR:Hid (R=TyP w rb M x es (.int .i64 ty)):=hR.symm;rw[An.nd,Ks]at hr;have hlen:l.length<=n:=by have:=Jx l;omega
 obtain⟨ad,cc,hkv,had⟩:=Jo b c l
 have hcs:Qaa (.mk 20 nn s off b c l)=#[.int .i64 20,.int .i64 nn,.string (bs s),.int .i64 off,.slice ad l.length cc]:=by
  show #[_,_,_,_,QaB b c l]=_
  rw[hkv]
 have hbA:Below w.heap.size w (w.alloc (.cells (Qaa (.mk 20 nn s off b c l)) 103)):=zzb.alloc zzl _;have hrl:=Jb hpre.flt;have hcb:w.heap.size≠rb:=by omega
 have HP:=Zh (hpre.up hbA);have HBA:=Zh (Chg.of_below hbA [rb]);have HCP:=Zh (zzw w (.cells (Qaa (.mk 20 nn s off b c l)) 103));have HAD:=Zh had;have HCS:=Zh hcs;have HN:=Zh hn;rw[hcs]at HBA HCP |-;have HP2:Hid (Qas fs rb M (w.alloc (.cells #[.int .i64 20,.int .i64 nn,.string (bs s),.int .i64 off,.slice ad l.length cc] 103)) x vars vv (.mk 20 nn s off b c l)):=by rw[<- hcs];exact HP.out
 clear hR hbA hkv had hcs hrl HP hpre hn;simp at hr;have HRV:=Zh hr;have ca:=JfV fs rb M nn s off b c l vars vv x _ (by omega) HP2.out hps (fun y hy W x' hp2=>IH y vars vv x' W (le_trans (JL hy) HN.out) (by omega) hp2);rw[HCS.out]at ca;clear hr IH;go_enter func85,ntmps85;go_wp2_with fail;refine ca.mono ?_;rintro e w2 ⟨rfl,hf2,hc2⟩;have HF2:=Zh hf2;have HC2:=Zh hc2;clear ca hf2 hc2;go_wp2;rw[HR.out];obtain⟨h1,rfl⟩:=HRV.out;refine⟨?_,HF2.out,HBA.out.trans HC2.out⟩;rw[<- h1];simp
theorem Jkm(fs:List Qbn)(rb:Nat)(M:Value)(hps:∀ s∈fs,s.params.length<=1000000000)(n:Nat)(IH:Qed fs rb M n)(k nn:Int)(s:List UInt8)(off:Int)(b c:Nat)(l:List An)(vars:List Int)(vv:Value)(x:Option Int)(w:World)(hn:Qbq (ndL l)<=n)(hb:n+1+vars.length<=1000000000)(hpre:Qas fs rb M w x vars vv (.mk k nn s off b c l))(hk:k≠1/\k≠5/\k≠2/\k≠3/\k≠6/\k≠8/\k≠9/\k≠10/\k≠11/\k≠12/\k≠13/\k≠14/\k≠15/\k≠7/\k≠16/\k≠17/\k≠18/\k≠19/\k≠20) :
  Calls prog 85 #[.pointer (some ⟨rb,0,none⟩),.agg (Qaa (.mk k nn s off b c l)),vv] w (TyP w rb M x (ofN fs vars (An.mk k nn s off b c l).nd).2 (.int .i64 (ofN fs vars (An.mk k nn s off b c l).nd).1)):=by
 obtain⟨r,hr⟩:∃ r,ofN fs vars (An.mk k nn s off b c l).nd=r:=⟨_,rfl⟩
 rw[hr];obtain⟨ty,es⟩:=r;dsimp only;obtain⟨R,hR⟩:∃ R,TyP w rb M x es (.int .i64 ty)=R:=⟨_,rfl⟩
 rw[hR];have HR:Hid (R=TyP w rb M x es (.int .i64 ty)):=hR.symm;rw[An.nd,Ks]at hr;have hlen:l.length<=n:=by have:=Jx l;omega
 obtain⟨ad,cc,hkv,had⟩:=Jo b c l
 have hcs:Qaa (.mk k nn s off b c l)=#[.int .i64 k,.int .i64 nn,.string (bs s),.int .i64 off,.slice ad l.length cc]:=by
  show #[_,_,_,_,QaB b c l]=_
  rw[hkv]
 have hbA:Below w.heap.size w (w.alloc (.cells (Qaa (.mk k nn s off b c l)) 103)):=zzb.alloc zzl _;have hrl:=Jb hpre.flt;have hcb:w.heap.size≠rb:=by omega
 have HP:=Zh (hpre.up hbA);have HBA:=Zh (Chg.of_below hbA [rb]);have HCP:=Zh (zzw w (.cells (Qaa (.mk k nn s off b c l)) 103));have HAD:=Zh had;have HCS:=Zh hcs;have HN:=Zh hn;rw[hcs]at HBA HCP |-;have HP2:Hid (Qas fs rb M (w.alloc (.cells #[.int .i64 k,.int .i64 nn,.string (bs s),.int .i64 off,.slice ad l.length cc] 103)) x vars vv (.mk k nn s off b c l)):=by rw[<- hcs];exact HP.out
 clear hR hbA hkv had hcs hrl HP hpre hn;have q1:(k==1)=false:=zzq hk.1;have q5:(k==5)=false:=zzq hk.2.1;have q2:(k==2)=false:=zzq hk.2.2.1;have q3:(k==3)=false:=zzq hk.2.2.2.1;have q6:(k==6)=false:=zzq hk.2.2.2.2.1;have q8:(k==8)=false:=zzq hk.2.2.2.2.2.1;have q9:(k==9)=false:=zzq hk.2.2.2.2.2.2.1;have q10:(k==10)=false:=zzq hk.2.2.2.2.2.2.2.1;have q11:(k==11)=false:=zzq hk.2.2.2.2.2.2.2.2.1;have q12:(k==12)=false:=zzq hk.2.2.2.2.2.2.2.2.2.1;have q13:(k==13)=false:=zzq hk.2.2.2.2.2.2.2.2.2.2.1;have q14:(k==14)=false:=zzq hk.2.2.2.2.2.2.2.2.2.2.2.1;have q15:(k==15)=false:=zzq hk.2.2.2.2.2.2.2.2.2.2.2.2.1;have q7:(k==7)=false:=zzq hk.2.2.2.2.2.2.2.2.2.2.2.2.2.1;have q16:(k==16)=false:=zzq hk.2.2.2.2.2.2.2.2.2.2.2.2.2.2.1;have q17:(k==17)=false:=zzq hk.2.2.2.2.2.2.2.2.2.2.2.2.2.2.2.1;have q18:(k==18)=false:=zzq hk.2.2.2.2.2.2.2.2.2.2.2.2.2.2.2.2.1;have q19:(k==19)=false:=zzq hk.2.2.2.2.2.2.2.2.2.2.2.2.2.2.2.2.2.1;have q20:(k==20)=false:=zzq hk.2.2.2.2.2.2.2.2.2.2.2.2.2.2.2.2.2.2;rw[if_neg (by omega),if_neg (by omega),if_neg (by omega),if_neg (by omega),if_neg (by omega),if_neg (by omega),if_neg (by omega),if_neg (by omega),if_neg (by omega),if_neg (by omega)]at hr;simp at hr;have HRV:=Zh hr;clear hr hk;go_enter func85,ntmps85;exact Qlx
end Go.Proofs.YtdlkcjkjnehnkaaGreatDoor
