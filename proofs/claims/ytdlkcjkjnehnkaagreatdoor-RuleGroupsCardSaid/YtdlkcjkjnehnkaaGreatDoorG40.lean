import Derived.Test.YtdlkcjkjnehnkaaGreatDoorG24
import Derived.Test.YtdlkcjkjnehnkaaGreatDoorG39
namespace Go.Proofs.YtdlkcjkjnehnkaaGreatDoor
open Go Go.ChangeShapes Go.WideShapes Go.ChangeAt Go.RowKit Go.Lib
open _root_.Go.Proofs.Tryz
set_option linter.all false
set_option maxRecDepth 100000
set_option maxHeartbeats 32000000
mutual
def szE (k:Nat):Exp→Nat
 | .mk _ _ _ l=>if 60<k∨400<l.length then 401 else szL k 1 l
termination_by e=>SizeOf.sizeOf e
def szL (k n:Nat):List Exp→Nat
 | []=>n
 | x::l=>if n≤400 then szL k (n+szE (k+1) x) l else n
termination_by l=>SizeOf.sizeOf l
end
theorem JdY (k:Nat) (a b:Int) (s:List UInt8) (l:List Exp):szE k (.mk a b s l)=if 60<k∨400<l.length then 401 else szL k 1 l:=by conv=>lhs; unfold szE
theorem Zy (k n:Nat):szL k n []=n:=by unfold szL; rfl
theorem Vv (k n:Nat) (x:Exp) (l:List Exp):szL k n (x::l)=if n≤400 then szL k (n+szE (k+1) x) l else n:=by conv=>lhs; unfold szL
theorem JiJ {k n:Nat} (h:¬ n≤400):∀ l,szL k n l=n
 | []=>Zy k n
 | x::l=>by rw[Vv,if_neg h]
theorem Jjm {k B:Nat} (hB:∀ x,szE (k+1) x≤B):∀ (l:List Exp) (n:Nat),n≤400+B→szL k n l≤400+B
 | [],n,h=>by rw[Zy]; exact h
 | x::l,n,h=>by
  rw[Vv]
  by_cases e:n≤400
  ·rw[if_pos e];have:=hB x;exact Jjm hB l _ (by omega)
  ·rw[if_neg e]; exact h
theorem Jjn:∀ (d k:Nat) (x:Exp),61≤k+d→szE k x≤401+400*d
 | 0,k,.mk a b s l,h=>by rw[JdY,if_pos (Or.inl (by omega))]; omega
 | d+1,k,.mk a b s l,h=>by
  rw[JdY]
  by_cases e:60<k∨400<l.length
  ·rw[if_pos e]; omega
  ·rw[if_neg e];have:=Jjm (k:=k) (B:=401+400*d) (fun x=>Jjn d (k+1) x (by omega)) l 1 (by omega);omega
theorem JgZ (k:Nat) (x:Exp):szE k x≤24801:=by
 have h:szE k x≤401+400*61:=Jjn 61 k x (by omega);omega
theorem Jjo {k:Nat}:∀ (l:List Exp) (n:Nat),n≤szL k n l
 | [],n=>by rw[Zy]; exact Nat.le_refl _
 | x::l,n=>by
  rw[Vv]
  by_cases e:n≤400
  ·rw[if_pos e];exact Nat.le_trans (Nat.le_add_right _ _) (Jjo l _)
  ·rw[if_neg e]; exact Nat.le_refl _
mutual
theorem Jda:∀ (x:Exp) (k:Nat),szE k x≤400→siz (utN x)=szE k x
 | .mk a b s l,k,h=>by
  rw[JdY] at h ⊢
  by_cases e:60<k∨400<l.length
  ·rw[if_pos e] at h; omega
  ·rw[if_neg e] at h ⊢;rw[utN,JG,Jha l k 1 h]
theorem Jha:∀ (l:List Exp) (k n:Nat),szL k n l≤400→sizL (utL l)+n=szL k n l
 | [],k,n,h=>by rw[Zy,utL,JE]; omega
 | x::l,k,n,h=>by
  by_cases e:n≤400
  ·rw[Vv,if_pos e] at h ⊢;have h1:=Jjo (k:=k) l (n+szE (k+1) x);have h2:=Jda x (k+1) (by omega);have h3:=Jha l k _ h;rw[utL,Ju,h2];omega
  ·rw[Vv,if_neg e] at h;exact absurd h e
end
theorem Jhb {α:Type}:∀ {l:List α} {i:Nat} {x:α},l[i]?=some x→l.drop i=x::l.drop (i+1)
 | a::l,0,x,h=>by simp at h; simp[h]
 | a::l,i+1,x,h=>by
  have:=Jhb (l:=l) (i:=i) (x:=x) (by simpa using h);simpa using this
 | [],i,x,h=>by simp at h
theorem JaL {w0:World}:∀ (x:Exp) (k:Nat) (d:List Value) (W:World),k≤61→ExpX w0 x d→Bel w0 W→Calls prog 22 #[.agg d.toArray,.int .i64 (k:Int)] W (BelP W (.int .i64 (szE k x:Nat)))
 | .mk kd nm s l,k,d,W,hk,h1,hb=>by
  obtain ⟨a1,c1,e1,g1⟩:=RowG.kids h1;rw[e1]
  have hel:∀ x∈l,∀ d W,k+1≤61→ExpX w0 x d→Bel w0 W→Calls prog 22 #[.agg d.toArray,.int .i64 ((k+1:Nat):Int)] W (BelP W (.int .i64 (szE (k+1) x:Nat))):=
   fun x hx d W hk h1 hb=>JaL x (k+1) d W hk h1 hb
  obtain ⟨T,hT⟩:∃ T,szE k (.mk kd nm s l)=T:=⟨_,rfl⟩
  rw[hT];rw[JdY] at hT;obtain ⟨m,hm⟩:∃ m,l.length=m:=⟨_,rfl⟩
  rw[hm] at hT;have HM:=Zh hm;have HEL:=Zh hel;have HG1:=Zh g1;have HKK:=Zh hk;rw[hm];clear e1 h1 hel g1 hm hk;have HX:=Zh (BxB.of (zzw W (.cells #[.int .i64 kd,.int .i64 nm,.string (bs s),.slice a1 m c1] 30)));have HB0:Hid (Bel W (W.alloc (.cells #[.int .i64 kd,.int .i64 nm,.string (bs s),.slice a1 m c1] 30))):=zzb.alloc zzl _;have HBW:=Zh (Jd hb HB0.out);clear hb;go_enter func22,ntmps22;go_upto_region 1 with fail;generalize World.alloc W _=w1 at *;generalize W.heap.size=xb at *;have HBC:Hid (Bel w1 w1):=Below.refl _ _;obtain ⟨x0,x1,x2,x3⟩:=wfour (HX.out _ HBC.out)
  by_cases e3:60<k
  ·have q3:decide ((k:Int)>60)=true:=decide_eq_true (by omega);have hTv:T=401:=by rw[← hT,if_pos (Or.inl e3)]
   subst hTv;clear hT e3;go_wp2;go_ret;exact ⟨rfl,Jd HB0.out HBC.out⟩
  have q3:decide ((k:Int)>60)=false:=decide_eq_false (by omega)
  by_cases e4:400<m
  ·have q4:decide ((m:Int)>400)=true:=decide_eq_true (by omega);have hTv:T=401:=by rw[← hT,if_pos (Or.inr e4)]
   subst hTv;clear hT e3 e4;go_wp2;go_ret;exact ⟨rfl,Jd HB0.out HBC.out⟩
  have q4:decide ((m:Int)>400)=false:=decide_eq_false (by omega);rw[if_neg (by omega)] at hT;have HT:=Zh hT;have HE:Hid (k≤60∧m≤400):=⟨by omega,by omega⟩
  clear hT e3 e4;go_wp2_with fail;go_loopg [5,6] m (fun g v5 v6 wr=>∃ i N:Nat,g+i=m∧v5=.int .i64 (N:Int)∧v6=.int .i64 (i:Int)∧Hid (Bel w1 wr∧szL k N (l.drop i)=T∧N≤30000))
  case atStart=>exact ⟨0,1,rfl,rfl,rfl,HBC.out,HT.out,by decide⟩
  case round=>
   clear HBC q3 q4 x0 x1 x2 x3 HT;obtain ⟨wl,rfl⟩:∃ wl:World,wl=wr:=⟨_,rfl⟩
   obtain ⟨i,N,hg,rfl,rfl,hws⟩:=hrel;have HBC:Hid (Bel w1 wl):=hws.out.1;have HT:=Zh hws.out.2.1;have HN:=Zh hws.out.2.2;clear hws;obtain ⟨x0,x1,x2,x3⟩:=wfour (HX.out _ HBC.out)
   by_cases hi:i<m
   ·have dil:decide ((i:Int)<(m:Int))=true:=decide_eq_true (by omega);have diN:decide (i<m)=true:=decide_eq_true hi
    by_cases hN:N≤400
    ·have dN:decide ((N:Int)≤400)=true:=decide_eq_true (by omega);obtain ⟨x,hx⟩:∃ x,l[i]?=some x:=⟨_,List.getElem?_eq_getElem (by rw[HM.out]; exact hi)⟩
     obtain ⟨b1,o1,ha1,hk1⟩:=HG1.out (List.ne_nil_of_mem (List.mem_of_getElem? hx));subst ha1;obtain ⟨d1,hr1,hc1⟩:=hk1 i x hx;have hr1f:=hr1;obtain ⟨xa,xc,rfl⟩:=hr1.form;have HBL:=Zh (Jd HBW.out HBC.out);obtain ⟨z,hz⟩:∃ z,szE (k+1) x=z:=⟨_,rfl⟩
     have hzb:=JgZ (k+1) x;rw[hz] at hzb;have cc:=HEL.out x (List.mem_of_getElem? hx) _ wl (by have:=HE.out; omega) hr1f HBL.out;rw[hz] at cc
     have hT2:szL k (N+z) (l.drop (i+1))=T:=by
      have h:=HT.out;rw[Jhb hx,Vv,if_pos hN,hz] at h;exact h
     have HT2:=Zh hT2;have p0:wl.cell? ⟨b1,o1+i*4,none⟩=some (.int .i64 x.kind):=hc1 wl HBL.out 0 _ rfl;have p1:wl.cell? ⟨b1,o1+i*4+1,none⟩=some (.int .i64 x.num):=hc1 wl HBL.out 1 _ rfl;have p2:wl.cell? ⟨b1,o1+i*4+2,none⟩=some (.string (bs x.name)):=hc1 wl HBL.out 2 _ rfl;have p3:wl.cell? ⟨b1,o1+i*4+3,none⟩=some (.slice xa x.kids.length xc):=hc1 wl HBL.out 3 _ rfl;have k0:0≤(i:Int):=by omega
     have k1:(i:Int)<(m:Int):=by omega
     have wk:IntKind.i64.wrap ((i:Int)+1)=((i+1:Nat):Int):=by have:=HE.out.2; rw[IntWalk.i64_in _ (by omega)]; omega
     have wn:IntKind.i64.wrap ((k:Int)+1)=((k+1:Nat):Int):=by have:=HE.out.1; rw[IntWalk.i64_in _ (by omega)]; omega
     have wz:IntKind.i64.wrap ((N:Int)+(z:Int))=((N+z:Nat):Int):=by rw[IntWalk.i64_in _ (by omega)]; omega
     have HG:Hid (gk+i=m∧i<m∧N+z≤30000):=⟨hg,hi,by omega⟩
     clear hx hk1 hr1 hr1f hz hzb hT2 hg hi hN HT HN hc1;go_wp2_with fail;refine cc.mono ?_;rintro e w8 ⟨rfl,hbb⟩;have HBD:Hid (Bel w1 w8):=Jd HBC.out hbb;clear cc x0 x1 x2 x3 p0 p1 p2 p3 hbb;go_wp2;go_roundg (m-(i+1))
     case measure=>have:=HG.out; omega
     case rel=>exact ⟨i+1,N+z,by have:=HG.out; omega,rfl,rfl,HBD.out,HT2.out,HG.out.2.2⟩
    ·have dN:decide ((N:Int)≤400)=false:=decide_eq_false (by omega);have hTv:T=N:=by rw[← HT.out]; exact JiJ hN _
     subst hTv;clear hi hg hN HT;go_wp2;go_ret;exact ⟨rfl,Jd HB0.out HBC.out⟩
   ·have dil:decide ((i:Int)<(m:Int))=false:=decide_eq_false (by omega);have diN:decide (i<m)=false:=decide_eq_false hi
    have hTv:T=N:=by
     have h:=HT.out;rw[List.drop_eq_nil_of_le (by rw[HM.out]; omega),Zy] at h;exact h.symm
    subst hTv;clear hi hg HT;go_wp2;go_ret;exact ⟨rfl,Jd HB0.out HBC.out⟩
termination_by x=>SizeOf.sizeOf x
decreasing_by
 exact bx117
def okF (f:FnM):Bool:=decide (f.params.length≤20)&&decide (f.name.length≤100)
def sF (l:List FnM):Nat:=(l.map fun f=>szE 0 f.body).sum
def sC (l:List ClM):Nat:=(l.map fun c=>szE 0 c.cond).sum
def fewM (r:RuleM):Bool:=decide (r.funcs.length≤20)&&(decide (r.clauses.length≤20)&&(r.funcs.all okF&&decide (sF r.funcs+sC r.clauses≤400)))
theorem JkP {l:List FnM} {i:Nat} {f:FnM} (h:l[i]?=some f):sF (l.take (i+1))=sF (l.take i)+szE 0 f.body:=by
 rw[List.take_add_one,h,Option.toList_some,sF,sF,List.map_append,List.sum_append]; simp
theorem JkQ {l:List ClM} {i:Nat} {f:ClM} (h:l[i]?=some f):sC (l.take (i+1))=sC (l.take i)+szE 0 f.cond:=by
 rw[List.take_add_one,h,Option.toList_some,sC,sC,List.map_append,List.sum_append]; simp
theorem Jhc {w0:World} (r:RuleM) (c:Array Value) (W:World) (h1:RuleX w0 (In w0) r c) (hb:Bel w0 W):Calls prog 9 #[.agg c] W (BelP W (.bool (fewM r))):=by
 obtain ⟨fv,cv,rfl,f1,k1⟩:=h1;obtain ⟨ad,cc,rfl,g1⟩:=RowG.of FnX.len f1;obtain ⟨bd,dc,rfl,g2⟩:=RowG.of ClX.len k1;obtain ⟨q,hq⟩:∃ q,fewM r=q:=⟨_,rfl⟩
 rw[hq];unfold fewM at hq;obtain ⟨fl,hfl⟩:∃ fl,r.funcs.length=fl:=⟨_,rfl⟩
 obtain ⟨cl,hcl⟩:∃ cl,r.clauses.length=cl:=⟨_,rfl⟩
 rw[hfl,hcl] at hq;have HFL:=Zh hfl;have HCL:=Zh hcl;have HG1:=Zh g1;have HG2:=Zh g2;rw[hfl,hcl];clear f1 k1 g1 g2 hfl hcl;have HX:=Zh (BxB.of (zzw W (.cells #[.slice ad fl cc,.slice bd cl dc,.int .i64 r.action] 25)));have HB0:Hid (Bel W (W.alloc (.cells #[.slice ad fl cc,.slice bd cl dc,.int .i64 r.action] 25))):=zzb.alloc zzl _;have HBW:=Zh (Jd hb HB0.out);clear hb;go_enter func9,ntmps9;go_upto_region 1 with fail;generalize World.alloc W _=w1 at *;generalize W.heap.size=xb at *;have HBC:Hid (Bel w1 w1):=Below.refl _ _;obtain ⟨x0,x1,x2⟩:=wthree (HX.out _ HBC.out)
 by_cases e3:20<fl
 ·have q3:decide ((fl:Int)>20)=true:=decide_eq_true (by omega);have hqf:q=false:=by rw[← hq,decide_eq_false (by omega:¬ fl≤20)]; rfl
  subst hqf;clear hq e3;go_wp2;go_ret;exact ⟨rfl,Jd HB0.out HBC.out⟩
 have q3:decide ((fl:Int)>20)=false:=decide_eq_false (by omega)
 by_cases e4:20<cl
 ·have q4:decide ((cl:Int)>20)=true:=decide_eq_true (by omega);have hqf:q=false:=by rw[← hq,decide_eq_false (by omega:¬ cl≤20)]; simp
  subst hqf;clear hq e3 e4;go_wp2;go_ret;exact ⟨rfl,Jd HB0.out HBC.out⟩
 have q4:decide ((cl:Int)>20)=false:=decide_eq_false (by omega)
 have hq2:(r.funcs.all okF&&decide (sF r.funcs+sC r.clauses≤400))=q:=by
  rw[← hq,decide_eq_true (by omega:fl≤20),decide_eq_true (by omega:cl≤20)]; simp
 have HQ:=Zh hq2;have HE:Hid (fl≤20∧cl≤20):=⟨by omega,by omega⟩
 clear hq hq2 e3 e4;go_wp2_with fail;go_loopg [3,4] fl (fun g v3 v4 wr=>∃ i N:Nat,g+i=fl∧v3=.int .i64 (N:Int)∧v4=.int .i64 (i:Int)∧Hid (Bel w1 wr∧(r.funcs.take i).all okF=true∧N=sF (r.funcs.take i)∧N≤i*24801))
 case atStart=>exact ⟨0,0,rfl,rfl,rfl,HBC.out,rfl,rfl,by decide⟩
 case round=>
 clear HBC q3 q4 x0 x1 x2;obtain ⟨wl,rfl⟩:∃ wl:World,wl=wr:=⟨_,rfl⟩
 obtain ⟨i,N,hg,rfl,rfl,hws⟩:=hrel;have HBC:Hid (Bel w1 wl):=hws.out.1;have HA:=Zh hws.out.2.1;have HN:=Zh hws.out.2.2.1;have HNB:=Zh hws.out.2.2.2;clear hws;obtain ⟨x0,x1,x2⟩:=wthree (HX.out _ HBC.out)
 by_cases hi:i<fl
 ·have dil:decide ((i:Int)<(fl:Int))=true:=decide_eq_true (by omega);have diN:decide (i<fl)=true:=decide_eq_true hi;obtain ⟨f,hf⟩:∃ f,r.funcs[i]?=some f:=⟨_,List.getElem?_eq_getElem (by rw[HFL.out]; exact hi)⟩
  obtain ⟨b1,o1,ha1,hk1⟩:=HG1.out (List.ne_nil_of_mem (List.mem_of_getElem? hf));subst ha1;obtain ⟨d1,hr1,hc1⟩:=hk1 i f hf;obtain ⟨pa,pc,xa,xc,rfl,hnum,hbody⟩:=hr1.form;have HBL:=Zh (Jd HBW.out HBC.out);have p0:wl.cell? ⟨b1,o1+i*7,none⟩=some (.string (bs f.name)):=hc1 wl HBL.out 0 _ rfl;have p1:wl.cell? ⟨b1,o1+i*7+1,none⟩=some (.slice pa f.params.length pc):=hc1 wl HBL.out 1 _ rfl;have p3:wl.cell? ⟨b1,o1+i*7+3,none⟩=some (.int .i64 f.body.kind):=hc1 wl HBL.out 3 _ rfl;have p4:wl.cell? ⟨b1,o1+i*7+4,none⟩=some (.int .i64 f.body.num):=hc1 wl HBL.out 4 _ rfl;have p5:wl.cell? ⟨b1,o1+i*7+5,none⟩=some (.string (bs f.body.name)):=hc1 wl HBL.out 5 _ rfl;have p6:wl.cell? ⟨b1,o1+i*7+6,none⟩=some (.slice xa f.body.kids.length xc):=hc1 wl HBL.out 6 _ rfl;have k0:0≤(i:Int):=by omega
  have k1:(i:Int)<(fl:Int):=by omega
  have u1:=Jl f.name;have ul:(bs f.name).size=f.name.length:=JF _
  by_cases e5:20<f.params.length
  ·have q5:decide ((f.params.length:Int)>20)=true:=decide_eq_true (by omega)
   have hqf:q=false:=by
    rw[← HQ.out,List.all_eq_false.2 ⟨f,List.mem_of_getElem? hf,by rw[okF,decide_eq_false (by omega:¬ f.params.length≤20)]; exact Bool.false_ne_true⟩]; rfl
   subst hqf;clear hg hi hf hk1 hr1 hc1 hnum hbody e5;go_wp2;go_ret;exact ⟨rfl,Jd HB0.out HBC.out⟩
  have q5:decide ((f.params.length:Int)>20)=false:=decide_eq_false (by omega)
  by_cases e6:100<f.name.length
  ·have q6:decide ((f.name.length:Int)>100)=true:=decide_eq_true (by omega)
   have hqf:q=false:=by
    rw[← HQ.out,List.all_eq_false.2 ⟨f,List.mem_of_getElem? hf,by rw[okF,decide_eq_false (by omega:¬ f.name.length≤100),Bool.and_false]; exact Bool.false_ne_true⟩]; rfl
   subst hqf;clear hg hi hf hk1 hr1 hc1 hnum hbody e5 e6;go_wp2;go_ret;exact ⟨rfl,Jd HB0.out HBC.out⟩
  have q6:decide ((f.name.length:Int)>100)=false:=decide_eq_false (by omega);obtain ⟨z,hz⟩:∃ z,szE 0 f.body=z:=⟨_,rfl⟩
  have hzb:=JgZ 0 f.body;rw[hz] at hzb;have cq:=JaL f.body 0 _ wl (by decide) hbody HBL.out;rw[hz] at cq;rw[show ((0:Nat):Int)=0 from rfl] at cq;have HA2:Hid ((r.funcs.take (i+1)).all okF=true):=K2 HA.out hf (by rw[okF,decide_eq_true (by omega:f.params.length≤20),decide_eq_true (by omega:f.name.length≤100)]; rfl);have HN2:Hid (N+z=sF (r.funcs.take (i+1))):=by rw[Hid,JkP hf,← HN.out,hz]
  have hnb:=HNB.out;have hfe:=HE.out;have HG:Hid (gk+i=fl∧i<fl∧N+z≤(i+1)*24801):=⟨hg,hi,by omega⟩
  have wk:IntKind.i64.wrap ((i:Int)+1)=((i+1:Nat):Int):=by rw[IntWalk.i64_in _ (by omega)]; omega
  have wz:IntKind.i64.wrap ((N:Int)+(z:Int))=((N+z:Nat):Int):=by rw[IntWalk.i64_in _ (by omega)]; omega
  clear hg hi hf hk1 hr1 hc1 hnum hbody e5 e6 hz hzb hnb hfe HA HN HNB;go_wp2_with fail;refine cq.mono ?_;rintro e w8 ⟨rfl,hbb⟩;have HBD:Hid (Bel w1 w8):=Jd HBC.out hbb;clear cq x0 x1 x2 p0 p1 p3 p4 p5 p6 hbb u1 ul;go_wp2;go_roundg (fl-(i+1))
  case measure=>have:=HG.out; omega
  case rel=>exact ⟨i+1,N+z,by have:=HG.out; omega,rfl,rfl,HBD.out,HA2.out,HN2.out,HG.out.2.2⟩
 have dil:decide ((i:Int)<(fl:Int))=false:=decide_eq_false (by omega);have diN:decide (i<fl)=false:=decide_eq_false hi;have hie:r.funcs.take i=r.funcs:=List.take_of_length_le (by rw[HFL.out]; omega)
 have HQ2:Hid (decide (sF r.funcs+sC r.clauses≤400)=q):=by
  have h:=HA.out;rw[hie] at h;rw[Hid,← HQ.out,h]; rfl
 have HN2:Hid (N=sF r.funcs∧N≤600000):=by
  have h:=HN.out;have h2:=HNB.out;have h3:=HE.out;rw[hie] at h;exact ⟨h,by omega⟩
 clear hg hi hie HA HN HNB HQ;go_wp2_with fail;clear dil diN x0 x1 x2;go_loopg [3,5] cl (fun g v3 v5 wr=>∃ i M:Nat,g+i=cl∧v3=.int .i64 (M:Int)∧v5=.int .i64 (i:Int)∧Hid (Bel w1 wr∧M=N+sC (r.clauses.take i)∧M≤600000+i*24801))
 case atStart=>exact ⟨0,N,rfl,rfl,rfl,HBC.out,rfl,by have:=HN2.out; omega⟩
 case round=>
 clear HBC;obtain ⟨wm,rfl⟩:∃ wm:World,wm=wr:=⟨_,rfl⟩
 obtain ⟨j,M,hg,rfl,rfl,hws⟩:=hrel;have HBC:Hid (Bel w1 wm):=hws.out.1;have HN:=Zh hws.out.2.1;have HNB:=Zh hws.out.2.2;clear hws;obtain ⟨x0,x1,x2⟩:=wthree (HX.out _ HBC.out)
 by_cases hi:j<cl
 ·have dil:decide ((j:Int)<(cl:Int))=true:=decide_eq_true (by omega);have diN:decide (j<cl)=true:=decide_eq_true hi;obtain ⟨f,hf⟩:∃ f,r.clauses[j]?=some f:=⟨_,List.getElem?_eq_getElem (by rw[HCL.out]; exact hi)⟩
  obtain ⟨b1,o1,ha1,hk1⟩:=HG2.out (List.ne_nil_of_mem (List.mem_of_getElem? hf));subst ha1;obtain ⟨d1,hr1,hc1⟩:=hk1 j f hf;obtain ⟨xa,xc,rfl,hbody⟩:=hr1.form;have HBL:=Zh (Jd HBW.out HBC.out);have p0:wm.cell? ⟨b1,o1+j*6,none⟩=some (.int .i64 f.cond.kind):=hc1 wm HBL.out 0 _ rfl;have p1:wm.cell? ⟨b1,o1+j*6+1,none⟩=some (.int .i64 f.cond.num):=hc1 wm HBL.out 1 _ rfl;have p2:wm.cell? ⟨b1,o1+j*6+2,none⟩=some (.string (bs f.cond.name)):=hc1 wm HBL.out 2 _ rfl;have p3:wm.cell? ⟨b1,o1+j*6+3,none⟩=some (.slice xa f.cond.kids.length xc):=hc1 wm HBL.out 3 _ rfl;have k0:0≤(j:Int):=by omega
  have k1:(j:Int)<(cl:Int):=by omega
  obtain ⟨z,hz⟩:∃ z,szE 0 f.cond=z:=⟨_,rfl⟩
  have hzb:=JgZ 0 f.cond;rw[hz] at hzb;have cq:=JaL f.cond 0 _ wm (by decide) hbody HBL.out;rw[hz] at cq;rw[show ((0:Nat):Int)=0 from rfl] at cq;have HN3:Hid (M+z=N+sC (r.clauses.take (j+1))):=by rw[Hid,JkQ hf,HN.out,hz,Nat.add_assoc]
  have hnb:=HNB.out;have hfe:=HE.out;have HG:Hid (gk+j=cl∧j<cl∧M+z≤600000+(j+1)*24801):=⟨hg,hi,by omega⟩
  have wk:IntKind.i64.wrap ((j:Int)+1)=((j+1:Nat):Int):=by rw[IntWalk.i64_in _ (by omega)]; omega
  have wz:IntKind.i64.wrap ((M:Int)+(z:Int))=((M+z:Nat):Int):=by rw[IntWalk.i64_in _ (by omega)]; omega
  clear hg hi hf hk1 hr1 hc1 hbody hz hzb hnb hfe HN HNB;go_wp2_with fail;refine cq.mono ?_;rintro e w8 ⟨rfl,hbb⟩;have HBD:Hid (Bel w1 w8):=Jd HBC.out hbb;clear cq x0 x1 x2 p0 p1 p2 p3 hbb;go_wp2;go_roundg (cl-(j+1))
  case measure=>have:=HG.out; omega
  case rel=>exact ⟨j+1,M+z,by have:=HG.out; omega,rfl,rfl,HBD.out,HN3.out,HG.out.2.2⟩
 have dil:decide ((j:Int)<(cl:Int))=false:=decide_eq_false (by omega);have diN:decide (j<cl)=false:=decide_eq_false hi
 have hqe:decide ((M:Int)≤400)=q:=by
  have h:=HN.out;rw[List.take_of_length_le (by rw[HCL.out]; omega),HN2.out.1] at h;rw[← HQ2.out,← h];exact decide_eq_decide.2 (by omega)
 clear hg hi HN HNB;go_wp2;go_ret;exact ⟨rfl,Jd HB0.out HBC.out⟩
theorem Jhd {r:RuleM} (h:rightM r=false):writeM r=[]:=by unfold writeM; rw[h]; rfl
theorem bx57 {P:Prop}(h:P:=by
  simpa only[List.append_assoc,List.nil_append,List.flatten_cons,List.flatten_nil,List.append_nil] using h2):P:=h
theorem bx102 {P:Prop}(h:P:=by
  clear hs HSc HSW HBq;go_wp2;go_roundg (np-(j+1))
  case measure=>have:=HG2.out; omega
  case rel=>exact ⟨j+1,by have:=HG2.out; omega,rfl,HS9⟩):P:=h
theorem Zz (r:RuleM) (c:Array Value) (W:World) (hx:RuleX W (In W) r c) (hz:RSz r) (hL:Laid W) (hlen:rightM r=true→(flat (iR r)).length≤140737488355328) :
  Calls prog 14 #[.agg c] W fun e W'=>e=.returned (.string (bs (writeM r)))∧Below W.heap.size W W':=by
 obtain ⟨fa,fc,ca,cc,rfl,_,_⟩:=hx.parts;obtain ⟨T,hT⟩:∃ T,writeM r=T:=⟨_,rfl⟩
 rw[hT];have HT:=Zh hT;have HX:=Zh hx;have HZ:=Zh hz;have HL:=Zh hL;have HLN:=Zh hlen;have HB0:Hid (Bel W (W.alloc (.cells #[.slice fa r.funcs.length fc,.slice ca r.clauses.length cc,.int .i64 r.action] 25))):=zzb.alloc zzl _;have HRB:=Zh (zzw W (.cells #[.slice fa r.funcs.length fc,.slice ca r.clauses.length cc,.int .i64 r.action] 25));clear hx hz hL hlen hT;go_enter func14,ntmps14;go_upto_region 1 with fail;have HRL:=Zh (Jb HRB.out);generalize World.alloc W _=w1 at *;generalize W.heap.size=n0 at *
 have FR:Hid (∀ W',Below w1.heap.size w1 W'→W'.cell? ⟨n0,0,none⟩=some (.slice fa r.funcs.length fc)∧W'.cell? ⟨n0,1,none⟩=some (.slice ca r.clauses.length cc)∧W'.cell? ⟨n0,2,none⟩=some (.int .i64 r.action)):=by
  intro W' hW;have hf:=(hW.block _ HRL.out).trans HRB.out;refine ⟨?_,?_,?_⟩ <;> (rw[Ja hf]; rfl)
 obtain ⟨r0,r1,r2⟩:=FR.out _ zzb;have HX1:=Zh (HX.out.up HB0.out);have cr:=Zu r _ w1 HX1.out HZ.out;obtain ⟨q,hq⟩:∃ q,rightM r=q:=⟨_,rfl⟩
 rw[hq] at cr;have HQ:=Zh hq;clear hq;go_wp2_with fail;refine cr.mono ?_;rintro e w2 ⟨rfl,hb2⟩;have HB2:=Zh hb2;clear cr hb2 r0 r1 r2
 cases q with
 | false=>
  have HTE:Hid (T=[]):=HT.out.symm.trans (Jhd HQ.out);have HBF:=Zh (Jd HB0.out HB2.out);clear HQ HT;go_wp2;go_ret;rw[HTE.out];exact ⟨rfl,HBF.out⟩
 | true=>
 have HTE:Hid (T=_):=HT.out.symm.trans ((KQ HQ.out).trans (JgR r));have hln:=HLN.out HQ.out;rw[JgR] at hln;replace HLN:=Zh hln;clear hln HT;have hX2:=HX1.out.up HB2.out;have HL2:=Zh ((HL.out.below HB0.out).below HB2.out);have HEX:=Zh (fun (e:Exp) nv m he hb=>JkM hX2 HZ.out HL2.out w2.heap.size e nv m he hb);obtain ⟨hF,hC⟩:=Jco HQ.out (fun f hf=>by have:=(HZ.out.fn f hf).2.1; have e:big=1000000000000000000:=rfl; omega);obtain ⟨p1,p2,p3,p4,p5⟩:=KA HQ.out;have HFF:=Zh hF;have HCF:=Zh hC;have HAC:=Zh p3;obtain ⟨fv',cv',heq,hFs,hCs⟩:=hX2;obtain rfl:Value.slice fa r.funcs.length fc=fv':=by injection heq with heq; injection heq
 obtain rfl:Value.slice ca r.clauses.length cc=cv':=by injection heq with heq; injection heq with _ heq; injection heq
 obtain ⟨ad1,cc1,he1,hf1⟩:=Jma hFs;obtain rfl:fa=ad1:=by injection he1
 obtain ⟨ad2,cc2,he2,hc1⟩:=JmG hCs;obtain rfl:ca=ad2:=by injection he2
 have HFA:=Zh hf1;have HCA:=Zh hc1;obtain ⟨nf,hnf⟩:∃ nf,r.funcs.length=nf:=⟨_,rfl⟩
 obtain ⟨nc,hnc⟩:∃ nc,r.clauses.length=nc:=⟨_,rfl⟩
 have HNF:=Zh hnf;have HNC:=Zh hnc;have HN6:Hid (nf≤1000000∧nc≤1000000):=⟨by rw[← hnf]; exact HZ.out.nf,by rw[← hnc]; exact HZ.out.nc⟩
 rw[hnf,hnc] at FR;rw[hnf] at HEX;obtain ⟨r0,r1,r2⟩:=FR.out _ HB2.out
 have HW3:Hid (WrI w2.heap.size w2.heap.size (.slice fa nf fc) [] (w2.alloc (.cells #[.pointer none,.slice none 0 0,.slice fa nf fc] 66))):=
  .inl ⟨Nat.le_refl _,_,zzw _ _,World.ownsRow_nil _ _ _ _,by simp[Value.ownBlock]⟩
 have HB3:Hid (Below w2.heap.size w2 (w2.alloc (.cells #[.pointer none,.slice none 0 0,.slice fa nf fc] 66))):=zzb.alloc zzl _;clear hF hC p1 p2 p3 p4 p5 hFs hCs hf1 hc1 he1 he2 heq hnf hnc HX1;go_upto_region 4 with fail;generalize hw3:World.alloc w2 _=w3 at *;clear hw3;replace r0:w3.cell? ⟨n0,0,none⟩=some (.slice fa nf fc):=(FR.out _ (HB2.out.trans (HB3.out.mono HB2.out.size))).1;have HS3:=Zh (WS.nil HW3.out);clear r1 r2 HW3;go_wp2_with fail;go_loopg [20] nf (fun g v20 wr=>∃ i:Nat,g+i=nf∧v20=.int .i64 (i:Int)∧Hid (WS w2.heap.size w2.heap.size (.slice fa nf fc) [] (flat (iFs (fnF r) (r.funcs.take i))) w3 wr))
 case atStart=>exact ⟨0,rfl,rfl,HS3⟩
 case round=>
  clear HS3 r0;obtain ⟨wl,rfl⟩:∃ wl:World,wl=wr:=⟨_,rfl⟩
  obtain ⟨i,hg,rfl,hws⟩:=hrel;have HS4:=Zh hws.out;clear hws
  by_cases hi:i<nf
  ·have dil:decide ((i:Int)<(nf:Int))=true:=decide_eq_true (by omega);have diN:decide (i<nf)=true:=decide_eq_true hi;have k0:0≤(i:Int):=by omega
   have k1:(i:Int)<(nf:Int):=by omega
   have wk:IntKind.i64.wrap ((i:Int)+1)=((i+1:Nat):Int):=by have:=HN6.out; rw[IntWalk.i64_in _ (by omega)]; omega
   obtain ⟨f,hf⟩:∃ f,r.funcs[i]?=some f:=⟨_,List.getElem?_eq_getElem (by have:=HNF.out; omega)⟩
   have hmem:=List.mem_of_getElem? hf;obtain ⟨fb,fo,had,hk⟩:=HFA.out (List.ne_nil_of_mem hmem);subst had;obtain ⟨pa,pc,xa,xc,hpp,hxa,hcell⟩:=hk i f hf;have hfit:=HFF.out f hmem;have HIE:=Zh (HEX.out f.body f.params.length 40 hfit.fits hfit.few);have HXA:=Zh hxa;have HPP:=Zh hpp;have HTY:=Zh hfit.types;have HRT:=Zh hfit.result;have HPL:Hid (f.params.length≤1000000):=(HZ.out.fn f hmem).2.1;have HSN:=Zh (JiH (fnF r) hf);have HLE:=Zh (JlY (fnF r) r.funcs (i+1));have HG:Hid (gk+i=nf∧i<nf):=⟨hg,hi⟩
   have HBW:=Zh (HB3.out.trans HS4.out.bel);obtain ⟨q0,q1,q2,q3,q4,q5,q6⟩:=hcell wl HBW.out;have HXB:=Zh (show BxT 44 (wl.alloc (.cells #[.string (bs f.name),.slice pa f.params.length pc,.int .i64 f.result,.int .i64 f.body.kind,.int .i64 f.body.num,.string (bs f.body.name),.slice xa f.body.kids.length xc] 44)) w2.heap.size wl.heap.size _ from ⟨zzw _ _,fun e=>by have:=HS4.out.wr.lt; omega,by decide⟩);have HS5:=Zh (HS4.out.up (show Below wl.heap.size wl (wl.alloc (.cells #[.string (bs f.name),.slice pa f.params.length pc,.int .i64 f.result,.int .i64 f.body.kind,.int .i64 f.body.num,.string (bs f.body.name),.slice xa f.body.kids.length xc] 44)) from zzb.alloc zzl _) HBW.out.size);clear hf hmem hk hpp hxa hcell hfit hg hi HS4;go_upto_region 7 with fail;generalize World.alloc wl _=wb at *;generalize wl.heap.size=xb at *;clear q0 q1 q2 q3 q4 q5 q6;have HBB:=Zh (HB3.out.trans HS5.out.bel);obtain ⟨A0,hA0⟩:∃ A0,flat (iFs (fnF r) (r.funcs.take i))=A0:=⟨_,rfl⟩
   rw[hA0] at HS5 HSN;rw[JlX] at HSN;rw[HSN.out] at HLE;obtain ⟨ps,hps⟩:∃ ps,f.params=ps:=⟨_,rfl⟩
   rw[hps] at HPP HTY HPL HSN HLE HXB;clear hA0 hps;obtain ⟨np,hnp⟩:∃ np,ps.length=np:=⟨_,rfl⟩
   rw[hnp] at HPL HXB;have HNP:=Zh hnp;clear hnp
   have HLB:Hid (A0.length+(([100,101,102,32]++(f.name++[40]))++(flat (iP ps)++([41,58,32]++(tyN f.result++([32,61,32]++(flat (iX (fnF r) 0 f.body)++[10])))))).length≤140737488355328):=by
    refine Zh ?_;have h1:=HLN.out;have h2:=HLE.out;simp only[List.length_append] at h1 h2 ⊢;omega
   clear HLE;have HS6:=Zh (WS.nil HS5.out.wr);obtain ⟨s0,s1,s2,s3,s4,s5,s6⟩:=wseven (HXB.out.row HS6.out.oth);go_wp2_with fail;refine (wputL w2.heap.size w2.heap.size (.slice (some ⟨fb,fo,none⟩) nf fc) ([]++A0) [[100,101,102,32],f.name,[40]] 3 _ _ HS5.out.wr rfl (by have h1:=HLB.out; simp only[List.length_append,List.length_cons,List.length_nil,List.flatten_cons,List.flatten_nil,List.append_nil,List.nil_append] at h1 ⊢; omega) HBB.out.size (by decide)).mono ?_;rintro e w6 ⟨rfl,hs⟩
   have HS7:Hid (WS w2.heap.size w2.heap.size (.slice (some ⟨fb,fo,none⟩) nf fc) ([]++A0) ([[100,101,102,32],f.name,[40]].flatten++flat (iP (ps.take 0))) wb w6):=by
    rw[show flat (iP (ps.take 0))=[] from by rw[List.take_zero,iP]; rfl,List.append_nil];exact hs
   clear hs HS6 s0 s1 s2 s3 s4 s5 s6;obtain ⟨s0,s1,s2,s3,s4,s5,s6⟩:=wseven (HXB.out.row HS7.out.oth);go_wp2_with fail;go_loopg [32] np (fun g v32 wr=>∃ j:Nat,g+j=np∧v32=.int .i64 (j:Int)∧Hid (WS w2.heap.size w2.heap.size (.slice (some ⟨fb,fo,none⟩) nf fc) ([]++A0) ([[100,101,102,32],f.name,[40]].flatten++flat (iP (ps.take j))) wb wr))
   case atStart=>exact ⟨0,rfl,rfl,HS7⟩
   case round=>
    clear HS7 s0 s1 s2 s3 s4 s5 s6;obtain ⟨wp,rfl⟩:∃ wp:World,wp=wr:=⟨_,rfl⟩
    obtain ⟨j,hg2,rfl,hws⟩:=hrel;have HS8:=Zh hws.out;clear hws
    by_cases hj:j<np
    ·have djl:decide ((j:Int)<(np:Int))=true:=decide_eq_true (by omega);have djN:decide (j<np)=true:=decide_eq_true hj;have j0:0≤(j:Int):=by omega
     have j1:(j:Int)<(np:Int):=by omega
     have wj:IntKind.i64.wrap ((j:Int)+1)=((j+1:Nat):Int):=by have:=HPL.out; rw[IntWalk.i64_in _ (by omega)]; omega
     obtain ⟨t,ht⟩:∃ t,ps[j]?=some t:=⟨_,List.getElem?_eq_getElem (by have:=HNP.out; omega)⟩
     have hty:typeB t=true:=List.all_eq_true.1 HTY.out t (List.mem_of_getElem? ht);obtain ⟨pb,po,hpa,hpc⟩:=HPP.out.resolve_left (List.ne_nil_of_mem (List.mem_of_getElem? ht));subst hpa;have c0:=hpc wp (HBB.out.trans HS8.out.bel) j t ht;have htk:=JeL ht;obtain ⟨hz0,htl⟩:=JgS HNP.out hj;have hle:=JlW (ps.drop (j+1)) (ps.take (j+1));rw[List.take_append_drop,htk,JgQ,htl] at hle;have hap:=JgQ (ps.take j) t;rw[htl,← htk] at hap;have HAP:=Zh hap;have HLP:=Zh hle;have HZ0:=Zh hz0;have HT1:=Zh hty;have HG2:Hid (gk+j=np∧j<np):=⟨hg2,hj⟩
     have HPC:=Zh hpc;clear ht hty hpc htk hz0 htl hle hap hg2 hj
     by_cases hj0:j=0
     ·have g1:decide (0<(j:Int))=false:=decide_eq_false (by omega);have g2:decide (0<j)=false:=decide_eq_false (by omega);have HJ0:=Zh hj0;clear hj0;have HSa:Hid (WS w2.heap.size w2.heap.size (.slice (some ⟨fb,fo,none⟩) nf fc) (([]++A0)++([[100,101,102,32],f.name,[40]].flatten++flat (iP (ps.take j)))) [] wp wp):=WS.nil HS8.out.wr;have HSb:Hid (WS w2.heap.size w2.heap.size (.slice (some ⟨fb,fo,none⟩) nf fc) (([]++A0)++([[100,101,102,32],f.name,[40]].flatten++flat (iP (ps.take j)))) [] wp wp):=HSa.out;clear HSa;have HBq:=Zh ((HBB.out.trans HS8.out.bel).trans HSb.out.bel);have ct:=Vm (j:Int) wp (by have:=HPL.out; have:=HG2.out; exact ⟨by omega,by omega⟩) (HL2.out.below HBq.out);go_wp2_with fail;refine ct.mono ?_;rintro e wt ⟨rfl,hb⟩;have HSc:=Zh (HSb.out.up hb HBq.out.size);clear ct hb HSb;go_wp2_with fail;refine (Vk HT1.out wt).mono ?_;rintro e wu ⟨rfl,rfl⟩;have HSW:Hid (WrI w2.heap.size w2.heap.size (.slice (some ⟨fb,fo,none⟩) nf fc) (([]++A0)++([[100,101,102,32],f.name,[40]].flatten++flat (iP (ps.take j)))) wt):=(by have:=HSc.out.wr; rwa [List.append_nil] at this)
      go_wp2_with fail;refine (wputL w2.heap.size w2.heap.size (.slice (some ⟨fb,fo,none⟩) nf fc) (([]++A0)++([[100,101,102,32],f.name,[40]].flatten++flat (iP (ps.take j)))) [[118],itoa (j:Int),[58,32],tyN t] 4 _ _ HSW.out rfl (by have h1:=HLB.out; have h2:=HLP.out; rw[if_pos (HZ0.out.2 HJ0.out)] at h2; simp only[List.length_append,List.length_cons,List.length_nil,List.flatten_cons,List.flatten_nil,List.append_nil,List.nil_append] at h1 h2 ⊢; omega) (Nat.le_trans ((HBB.out.trans HS8.out.bel).size) HSc.out.bel.size) (by decide)).mono ?_;rintro e wv ⟨rfl,hs⟩
      have HS9:Hid (WS w2.heap.size w2.heap.size (.slice (some ⟨fb,fo,none⟩) nf fc) ([]++A0) ([[100,101,102,32],f.name,[40]].flatten++flat (iP (ps.take (j+1)))) wb wv):=by
       have h1:=HSc.out.trans0 hs;have h2:=HS8.out.trans h1;refine Zh ?_;rw[HAP.out,if_pos (HZ0.out.2 HJ0.out)];exact bx57
      exact bx102
     ·have g1:decide (0<(j:Int))=true:=decide_eq_true (by omega);have g2:decide (0<j)=true:=decide_eq_true (by omega);have HJ0:=Zh hj0;clear hj0;have HSa:Hid (WS w2.heap.size w2.heap.size (.slice (some ⟨fb,fo,none⟩) nf fc) (([]++A0)++([[100,101,102,32],f.name,[40]].flatten++flat (iP (ps.take j)))) [] wp wp):=WS.nil HS8.out.wr;go_wp2_with fail;refine (wputL w2.heap.size w2.heap.size (.slice (some ⟨fb,fo,none⟩) nf fc) (([]++A0)++([[100,101,102,32],f.name,[40]].flatten++flat (iP (ps.take j)))) [[44,32]] 1 _ _ HS8.out.wr rfl (by have h1:=HLB.out; have h2:=HLP.out; rw[if_neg (fun h=>HJ0.out (HZ0.out.1 h))] at h2; simp only[List.length_append,List.length_cons,List.length_nil,List.flatten_cons,List.flatten_nil,List.append_nil,List.nil_append] at h1 h2 ⊢; omega) (Nat.le_trans HBB.out.size HS8.out.bel.size) (by decide)).mono ?_;rintro e wq ⟨rfl,hs⟩;have HSb:Hid (WS w2.heap.size w2.heap.size (.slice (some ⟨fb,fo,none⟩) nf fc) (([]++A0)++([[100,101,102,32],f.name,[40]].flatten++flat (iP (ps.take j)))) [44,32] wp wq):=hs;clear hs HSa c0;have HBq:=Zh ((HBB.out.trans HS8.out.bel).trans HSb.out.bel);have ct:=Vm (j:Int) wq (by have:=HPL.out; have:=HG2.out; exact ⟨by omega,by omega⟩) (HL2.out.below HBq.out);go_wp2_with fail;refine ct.mono ?_;rintro e wt ⟨rfl,hb⟩;have HSc:=Zh (HSb.out.up hb HBq.out.size);clear ct hb HSb;go_wp2_with fail;refine (Vk HT1.out wt).mono ?_;rintro e wu ⟨rfl,rfl⟩;have HSW:Hid (WrI w2.heap.size w2.heap.size (.slice (some ⟨fb,fo,none⟩) nf fc) ((([]++A0)++([[100,101,102,32],f.name,[40]].flatten++flat (iP (ps.take j))))++[44,32]) wt):=HSc.out.wr;go_wp2_with fail;refine (wputL w2.heap.size w2.heap.size (.slice (some ⟨fb,fo,none⟩) nf fc) ((([]++A0)++([[100,101,102,32],f.name,[40]].flatten++flat (iP (ps.take j))))++[44,32]) [[118],itoa (j:Int),[58,32],tyN t] 4 _ _ HSW.out rfl (by have h1:=HLB.out; have h2:=HLP.out; rw[if_neg (fun h=>HJ0.out (HZ0.out.1 h))] at h2; simp only[List.length_append,List.length_cons,List.length_nil,List.flatten_cons,List.flatten_nil,List.append_nil,List.nil_append] at h1 h2 ⊢; omega) (Nat.le_trans ((HBB.out.trans HS8.out.bel).size) HSc.out.bel.size) (by decide)).mono ?_;rintro e wv ⟨rfl,hs⟩
      have HS9:Hid (WS w2.heap.size w2.heap.size (.slice (some ⟨fb,fo,none⟩) nf fc) ([]++A0) ([[100,101,102,32],f.name,[40]].flatten++flat (iP (ps.take (j+1)))) wb wv):=by
       have h1:=HSc.out.trans hs;have h2:=HS8.out.trans h1;refine Zh ?_;rw[HAP.out,if_neg (fun h=>HJ0.out (HZ0.out.1 h))];exact bx57
      exact bx102
    ·have djl:decide ((j:Int)<(np:Int))=false:=decide_eq_false (by omega);have djN:decide (j<np)=false:=decide_eq_false hj
     have HSE:Hid (WS w2.heap.size w2.heap.size (.slice (some ⟨fb,fo,none⟩) nf fc) ([]++A0) ([[100,101,102,32],f.name,[40]].flatten++flat (iP ps)) wb wp):=by
      have:=HS8.out
      rwa [List.take_of_length_le (by have:=HNP.out; omega)] at this
     clear hj hg2 HS8;obtain ⟨s0,s1,s2,s3,s4,s5,s6⟩:=wseven (HXB.out.row HSE.out.oth);go_wp2_with fail;refine (Vk HRT.out wp).mono ?_;rintro e wu ⟨rfl,rfl⟩;go_wp2_with fail;refine (wputL w2.heap.size w2.heap.size (.slice (some ⟨fb,fo,none⟩) nf fc) (([]++A0)++([[100,101,102,32],f.name,[40]].flatten++flat (iP ps))) [[41,58,32],tyN f.result,[32,61,32]] 3 _ _ HSE.out.wr rfl (by have h1:=HLB.out; simp only[List.length_append,List.length_cons,List.length_nil,List.flatten_cons,List.flatten_nil,List.append_nil,List.nil_append] at h1 ⊢; omega) (Nat.le_trans HBB.out.size HSE.out.bel.size) (by decide)).mono ?_;rintro e w9 ⟨rfl,hs⟩;have HSf:Hid (WS w2.heap.size w2.heap.size (.slice (some ⟨fb,fo,none⟩) nf fc) ([]++A0) (([[100,101,102,32],f.name,[40]].flatten++flat (iP ps))++[[41,58,32],tyN f.result,[32,61,32]].flatten) wb w9):=HSE.out.trans hs;clear hs HSE s0 s1 s2 s3 s4 s5 s6;obtain ⟨s0,s1,s2,s3,s4,s5,s6⟩:=wseven (HXB.out.row HSf.out.oth);have cx:=HIE.out 0 _ (([]++A0)++(([[100,101,102,32],f.name,[40]].flatten++flat (iP ps))++[[41,58,32],tyN f.result,[32,61,32]].flatten)) w9 (by decide) HXA.out (HBB.out.trans HSf.out.bel) HSf.out.wr (by have h1:=HLB.out; simp only[List.length_append,List.length_cons,List.length_nil,List.flatten_cons,List.flatten_nil,List.append_nil,List.nil_append] at h1 ⊢; omega);unfold expC at cx;go_wp2_with fail;refine cx.mono ?_;rintro e w10 ⟨rfl,hs⟩;have HSg:Hid (WS w2.heap.size w2.heap.size (.slice (some ⟨fb,fo,none⟩) nf fc) ([]++A0) ((([[100,101,102,32],f.name,[40]].flatten++flat (iP ps))++[[41,58,32],tyN f.result,[32,61,32]].flatten)++flat (iX (fnF r) 0 f.body)) wb w10):=HSf.out.trans hs;clear hs HSf cx s0 s1 s2 s3 s4 s5 s6;go_wp2_with fail;refine (wputL w2.heap.size w2.heap.size (.slice (some ⟨fb,fo,none⟩) nf fc) (([]++A0)++((([[100,101,102,32],f.name,[40]].flatten++flat (iP ps))++[[41,58,32],tyN f.result,[32,61,32]].flatten)++flat (iX (fnF r) 0 f.body))) [[10]] 1 _ _ HSg.out.wr rfl (by have h1:=HLB.out; simp only[List.length_append,List.length_cons,List.length_nil,List.flatten_cons,List.flatten_nil,List.append_nil,List.nil_append] at h1 ⊢; omega) (Nat.le_trans HBB.out.size HSg.out.bel.size) (by decide)).mono ?_;rintro e w11 ⟨rfl,hs⟩
     have HSh:Hid (WS w2.heap.size w2.heap.size (.slice (some ⟨fb,fo,none⟩) nf fc) [] (flat (iFs (fnF r) (r.funcs.take (i+1)))) w3 w11):=by
      have h1:=HSg.out.trans hs;have h2:=HS5.out.trans h1;refine Zh ?_;rw[HSN.out];exact bx57
     clear hs HSg;go_wp2;go_roundg (nf-(i+1))
     case measure=>have:=HG.out; omega
     case rel=>exact ⟨i+1,by have:=HG.out; omega,rfl,HSh⟩
  ·have dil:decide ((i:Int)<(nf:Int))=false:=decide_eq_false (by omega);have diN:decide (i<nf)=false:=decide_eq_false hi;obtain ⟨F0,hF0⟩:∃ F0,flat (iFs (fnF r) r.funcs)=F0:=⟨_,rfl⟩
   have HSE:Hid (WS w2.heap.size w2.heap.size (.slice fa nf fc) [] (F0++flat (iCs (fnF r) (r.clauses.take 0))) w3 wl):=by
    have:=HS4.out;rw[List.take_of_length_le (by have:=HNF.out; omega),hF0] at this;rw[show flat (iCs (fnF r) (r.clauses.take 0))=[] from by rw[List.take_zero,iCs]; rfl,List.append_nil];exact this
   rw[hF0] at HLN HTE;clear hi hg HS4 hF0;obtain ⟨r0,r1,r2⟩:=FR.out _ (HB2.out.trans ((HB3.out.trans HSE.out.bel).mono HB2.out.size));go_wp2_with fail;go_loopg [67] nc (fun g v67 wr=>∃ i:Nat,g+i=nc∧v67=.int .i64 (i:Int)∧Hid (WS w2.heap.size w2.heap.size (.slice fa nf fc) [] (F0++flat (iCs (fnF r) (r.clauses.take i))) w3 wr))
   case atStart=>exact ⟨0,rfl,rfl,HSE⟩
   case round=>
    clear HSE r0 r1 r2;obtain ⟨wm,rfl⟩:∃ wm:World,wm=wr:=⟨_,rfl⟩
    obtain ⟨j,hg2,rfl,hws⟩:=hrel;have HS4:=Zh hws.out;clear hws
    by_cases hj:j<nc
    ·have djl:decide ((j:Int)<(nc:Int))=true:=decide_eq_true (by omega);have djN:decide (j<nc)=true:=decide_eq_true hj;have j0:0≤(j:Int):=by omega
     have j1:(j:Int)<(nc:Int):=by omega
     have wj:IntKind.i64.wrap ((j:Int)+1)=((j+1:Nat):Int):=by have:=HN6.out; rw[IntWalk.i64_in _ (by omega)]; omega
     obtain ⟨f,hf⟩:∃ f,r.clauses[j]?=some f:=⟨_,List.getElem?_eq_getElem (by have:=HNC.out; omega)⟩
     have hmem:=List.mem_of_getElem? hf;obtain ⟨fb,fo,had,hk⟩:=HCA.out (List.ne_nil_of_mem hmem);subst had;obtain ⟨xa,xc,hxa,hcell⟩:=hk j f hf;have hfit:=HCF.out f hmem;have HIE:=Zh (HEX.out f.cond 0 40 hfit.fits (by decide));have HXA:=Zh hxa;have HAB:=Zh hfit.act;have HSN:=Zh (JiI (fnF r) hf);have HLE:=Zh (JlZ (fnF r) r.clauses (j+1));have HG2:Hid (gk+j=nc∧j<nc):=⟨hg2,hj⟩
     have HBW:=Zh (HB3.out.trans HS4.out.bel);obtain ⟨⟨q0,q1,q2,q3⟩,q4,q5⟩:=hcell wm HBW.out;have HXB:=Zh (show BxT 32 (wm.alloc (.cells #[.int .i64 f.cond.kind,.int .i64 f.cond.num,.string (bs f.cond.name),.slice xa f.cond.kids.length xc,.int .i64 f.action,.string (bs f.reason)] 32)) w2.heap.size wm.heap.size _ from ⟨zzw _ _,fun e=>by have:=HS4.out.wr.lt; omega,by decide⟩);have HS5:=Zh (HS4.out.up (show Below wm.heap.size wm (wm.alloc (.cells #[.int .i64 f.cond.kind,.int .i64 f.cond.num,.string (bs f.cond.name),.slice xa f.cond.kids.length xc,.int .i64 f.action,.string (bs f.reason)] 32)) from zzb.alloc zzl _) HBW.out.size);clear hf hmem hk hxa hcell hfit hg2 hj HS4;go_upto_region 22 with fail;generalize World.alloc wm _=wb at *;generalize wm.heap.size=xb at *;clear q0 q1 q2 q3 q4 q5;have HBB:=Zh (HB3.out.trans HS5.out.bel);obtain ⟨A0,hA0⟩:∃ A0,F0++flat (iCs (fnF r) (r.clauses.take j))=A0:=⟨_,rfl⟩
     have HS0:Hid (F0++flat (iCs (fnF r) (r.clauses.take (j+1)))=A0++([119,104,101,110,32]++(flat (iX (fnF r) 0 f.cond)++([32,116,104,101,110,32]++(actName f.action.toNat++([32,34]++(f.reason++[34,10]))))))):=by
      refine Zh ?_;rw[HSN.out,JmF,← List.append_assoc,hA0]
     rw[hA0] at HS5
     have HLB:Hid (A0.length+([119,104,101,110,32]++(flat (iX (fnF r) 0 f.cond)++([32,116,104,101,110,32]++(actName f.action.toNat++([32,34]++(f.reason++[34,10])))))).length≤140737488355328):=by
      refine Zh ?_;have h1:=HLN.out;have h2:=HLE.out;have h3:=congrArg List.length HS0.out;simp only[List.length_append] at h1 h2 h3 ⊢;omega
     clear HLE HSN hA0;have HS6:=Zh (WS.nil HS5.out.wr);go_wp2_with fail;refine (wputL w2.heap.size w2.heap.size (.slice fa nf fc) ([]++A0) [[119,104,101,110,32]] 1 _ _ HS5.out.wr rfl (by have h1:=HLB.out; simp only[List.length_append,List.length_cons,List.length_nil,List.flatten_cons,List.flatten_nil,List.append_nil,List.nil_append] at h1 ⊢; omega) HBB.out.size (by decide)).mono ?_;rintro e w6 ⟨rfl,hs⟩;have HS7:Hid (WS w2.heap.size w2.heap.size (.slice fa nf fc) ([]++A0) [119,104,101,110,32] wb w6):=hs;clear hs HS6;obtain ⟨s0,s1,s2,s3,s4,s5⟩:=wsix (HXB.out.row HS7.out.oth);have cx:=HIE.out 0 _ (([]++A0)++[119,104,101,110,32]) w6 (by decide) HXA.out (HBB.out.trans HS7.out.bel) HS7.out.wr (by have h1:=HLB.out; simp only[List.length_append,List.length_cons,List.length_nil,List.flatten_cons,List.flatten_nil,List.append_nil,List.nil_append] at h1 ⊢; omega);unfold expC at cx;go_wp2_with fail;refine cx.mono ?_;rintro e w7 ⟨rfl,hs⟩;have HS8:Hid (WS w2.heap.size w2.heap.size (.slice fa nf fc) ([]++A0) ([119,104,101,110,32]++flat (iX (fnF r) 0 f.cond)) wb w7):=HS7.out.trans hs;clear hs HS7 cx s0 s1 s2 s3 s4 s5;go_upto_region 24 with fail;refine KJ 7 [] (fun i=>WK.rel (match i with | 0=>.const (.pointer (some ⟨w2.heap.size,0,none⟩)) | 1=>.const (.pointer (some ⟨xb,4,none⟩)) | 2=>.const (.int .i64 f.action) | 3=>.const (.string (bs (actName f.action.toNat))) | 4=>.const (.pointer (some ⟨xb,5,none⟩)) | 5=>.const (.string (bs f.reason)) | 6=>.strs [[32,116,104,101,110,32],actName f.action.toNat,[32,34],f.reason,[34,10]] 5 | _=>.const undef)) (fun W=>Below w7.heap.size w7 W) zzb.drew (by decide) (fun _ _ h hb=>Jd h hb) (fun i v P P1 w w1=>WK.keep _ v P P1 w w1) (allOb (n:=7) ?_) ?_
     ·refine ⟨⟨⟨⟨⟨⟨⟨trivial,?_⟩,?_⟩,?_⟩,?_⟩,?_⟩,?_⟩,?_⟩
      ·refine OpOb.of 0 rfl fun a0 w9 Pr hb hP hn hd ho K hK=>?_
       have o3:a0.tmps[3]?.getD undef=.pointer (some ⟨w2.heap.size,0,none⟩):=ho 3 (by kernel_rfl);exact bx4
      ·refine OpOb.of 1 rfl fun a0 w9 Pr hb hP hn hd ho K hK=>?_
       have o9:a0.tmps[9]?.getD undef=.pointer (some ⟨xb,0,none⟩):=ho 9 (by kernel_rfl);exact bx4
      ·refine OpOb.of 2 rfl fun a0 w9 Pr hb hP hn hd ho K hK=>?_
       obtain ⟨v1,rfl,e1⟩:=hd 1 79 (by kernel_rfl) rfl;obtain ⟨s0,s1,s2,s3,s4,s5⟩:=wsix (HXB.out.row (Vs HS8.out.oth hb));exact bx4
      ·refine OpOb.of 3 rfl fun a0 w9 Pr hb hP hn hd ho K hK=>?_
       obtain ⟨v2,rfl,e2⟩:=hd 2 80 (by kernel_rfl) rfl;go_simp;go_at_call 32;refine (Vx HAB.out _).mono ?_;rintro e w8 ⟨rfl,rfl⟩;exact hK.out _ _ zzb (fun _ _ _=>rfl) (fun h=>absurd h (by decide))
      ·refine OpOb.of 4 rfl fun a0 w9 Pr hb hP hn hd ho K hK=>?_
       have o9:a0.tmps[9]?.getD undef=.pointer (some ⟨xb,0,none⟩):=ho 9 (by kernel_rfl);exact bx4
      ·refine OpOb.of 5 rfl fun a0 w9 Pr hb hP hn hd ho K hK=>?_
       obtain ⟨v4,rfl,e4⟩:=hd 4 82 (by kernel_rfl) rfl;obtain ⟨s0,s1,s2,s3,s4,s5⟩:=wsix (HXB.out.row (Vs HS8.out.oth hb));exact bx4
      ·refine OpOb.of 6 rfl fun a0 w9 Pr hb hP hn hd ho K hK=>?_
       obtain ⟨v3,rfl,e3⟩:=hd 3 81 (by kernel_rfl) rfl;obtain ⟨v5,rfl,e5⟩:=hd 5 83 (by kernel_rfl) rfl;go_simp;exact hK.out _ _ (zzb.alloc zzl _) (fun Pr1 h1 h2=>⟨_,rfl,JdW _ [[32,116,104,101,110,32],actName f.action.toNat,[32,34],f.reason,[34,10]]⟩) (fun h=>absurd h (by decide))
     intro n9 vs w9 hn9 hb9 hp9 hd9 hr9;obtain ⟨q,e6,ht⟩:=hr9 6 (by decide);have e0:vs 0=_:=hr9 0 (by decide);have hb9:Below w7.heap.size w7 w9:=hb9;rw[show pairsOf _ 7 vs=[(78,vs 0),(79,vs 1),(80,vs 2),(81,vs 3),(82,vs 4),(83,vs 5),(84,vs 6)] from rfl];simp only[fillT,e6,e0,List.setIfInBounds_toArray,List.set_cons_zero,List.set_cons_succ];have HS9:=Zh (HS8.out.up hb9 (HBB.out.trans HS8.out.bel).size);have cp:=Jcg w2.heap.size w2.heap.size (.slice fa nf fc) (([]++A0)++([119,104,101,110,32]++flat (iX (fnF r) 0 f.cond))) q 5 [[32,116,104,101,110,32],actName f.action.toNat,[32,34],f.reason,[34,10]] w9 HS9.out.wr ht (ht.ne HS9.out.wr) (by have h1:=HLB.out; simp only[List.length_append,List.length_cons,List.length_nil,List.flatten_cons,List.flatten_nil,List.append_nil,List.nil_append] at h1 ⊢; omega) (HBB.out.trans HS9.out.bel).size (Nat.le_of_ble_eq_true rfl);clear hp9 hd9 hr9 e6 e0 ht hb9 HS8;generalize vs 1=y1;generalize vs 2=y2;generalize vs 3=y3;generalize vs 4=y4;generalize vs 5=y5;clear vs;obtain ⟨n9,rfl⟩:∃ mm,n9=mm+1:=⟨n9-1,by have:(8:Nat)-7≤n9:=hn9; omega⟩
     clear hn9;refine Y3 (S:=fun _=>True) (z:=7) _ _ _ _ (LZ 7 rfl fun K hK=>?_);go_simp;go_at_call 28;refine cp.mono ?_;rintro e w10 ⟨rfl,hs⟩;refine hK.out _ _ ?_;clear hK K cp
     have HSh:Hid (WS w2.heap.size w2.heap.size (.slice fa nf fc) [] (F0++flat (iCs (fnF r) (r.clauses.take (j+1)))) w3 w10):=by
      have h1:=HS9.out.trans hs;have h2:=HS5.out.trans h1;refine Zh ?_;rw[HS0.out];exact bx57
     clear hs HS9;go_wp2;go_roundg (nc-(j+1))
     case measure=>have:=HG2.out; omega
     case rel=>exact ⟨j+1,by have:=HG2.out; omega,rfl,HSh⟩
    ·have djl:decide ((j:Int)<(nc:Int))=false:=decide_eq_false (by omega);have djN:decide (j<nc)=false:=decide_eq_false hj
     have HSE:Hid (WS w2.heap.size w2.heap.size (.slice fa nf fc) [] (F0++flat (iCs (fnF r) r.clauses)) w3 wm):=by
      have:=HS4.out
      rwa [List.take_of_length_le (by have:=HNC.out; omega)] at this
     clear hj hg2 HS4;obtain ⟨r0,r1,r2⟩:=FR.out _ (HB2.out.trans ((HB3.out.trans HSE.out.bel).mono HB2.out.size));go_wp2_with fail;refine (Vx HAC.out _).mono ?_;rintro e w5 ⟨rfl,rfl⟩;go_wp2_with fail;refine (wputL w2.heap.size w2.heap.size (.slice fa nf fc) ([]++(F0++flat (iCs (fnF r) r.clauses))) [[100,101,102,97,117,108,116,32],actName r.action.toNat,[10]] 3 _ _ HSE.out.wr rfl (by have h1:=HLN.out; simp only[List.length_append,List.length_cons,List.length_nil,List.flatten_cons,List.flatten_nil,List.append_nil,List.nil_append] at h1 ⊢; omega) (HB3.out.trans HSE.out.bel).size (by decide)).mono ?_;rintro e w6 ⟨rfl,hs⟩;have HSF:=Zh (HSE.out.trans hs);clear hs HSE r0 r1 r2
     have hwr:WrI w2.heap.size w2.heap.size (.slice fa nf fc) T w6:=by
      have:=HSF.out.wr;rw[HTE.out];simpa only[List.append_assoc,List.nil_append,List.flatten_cons,List.flatten_nil,List.append_nil] using this
     have co:=JiB _ _ _ T w6 hwr (by rw[HTE.out]; intro h; have:=congrArg List.length h; simp at this) (by rw[HTE.out]; exact HLN.out);have HBF:=Zh (Jd HB0.out HB2.out);have HBG:=Zh ((HB3.out.trans HSF.out.bel));clear hwr;go_wp2_with fail;refine co.mono ?_;rintro e w7 ⟨rfl,hb7⟩;have HEND:=Zh (Jd HBF.out (HBG.out.trans hb7));clear co hb7;go_wp2;go_ret;exact ⟨rfl,HEND.out⟩
end Go.Proofs.YtdlkcjkjnehnkaaGreatDoor
