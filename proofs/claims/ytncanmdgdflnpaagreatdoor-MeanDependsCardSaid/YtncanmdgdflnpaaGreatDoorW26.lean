
import Derived.Test.YtncanmdgdflnpaaGreatDoorW25
namespace Go.Proofs.YtncanmdgdflnpaaGreatDoor
open _root_.Go.Proofs.Tryz
set_option linter.all false
set_option maxRecDepth 100000
set_option maxHeartbeats 32000000
def VOk (t v:Int):Prop:=(t=0∧-1125899906842624≤v∧v≤1125899906842624)∨(t=1∧(v=0∨v=1))
def VsOk (ts vs:List Int):Prop:=ts.length=vs.length∧∀ (i:Nat) (t v:Int),ts[i]?=some t→vs[i]?=some v→VOk t v
theorem VsOk.nil:VsOk [] []:=⟨rfl,fun i t v h=>by simp at h⟩
theorem VsOk.cons {t v:Int} {ts vs:List Int} (h:VOk t v) (k:VsOk ts vs):VsOk (t::ts) (v::vs):=by
 refine ⟨by simp[k.1],fun i a b ha hb=>?_⟩
 cases i with
 | zero=>simp at ha hb; subst ha; subst hb; exact h
 | succ i=>simp at ha hb; exact k.2 i a b ha hb
theorem VsOk.snoc {t v:Int} {ts vs:List Int} (k:VsOk ts vs) (h:VOk t v):VsOk (ts++[t]) (vs++[v]):=by
 refine ⟨by simp[k.1],fun i a b ha hb=>?_⟩
 by_cases hi:i<ts.length
 ·rw[List.getElem?_append_left hi] at ha;rw[List.getElem?_append_left (by rw[← k.1]; exact hi)] at hb;exact k.2 i a b ha hb
 ·rw[List.getElem?_append_right (by omega)] at ha;rw[List.getElem?_append_right (by rw[← k.1]; omega),← k.1] at hb;have:i-ts.length=0:=by have:=(List.getElem?_eq_some_iff.1 ha).1; simp at this; omega
  rw[this] at ha hb;simp at ha hb;subst ha; subst hb; exact h
def RNOk {α:Type} (R:α→Prop) (u:Nat):RN α→Prop
 | .fault e u'=>u≤u'∧u'≤10000∧(e=1∨e=7∨e=14∧u'=10000)
 | .val v u'=>u≤u'∧u'≤10000∧R v
theorem RNOk.bind {α β:Type} {R:α→Prop} {S:β→Prop} {u:Nat} {x:RN α} {f:α→Nat→RN β} (h:RNOk R u x) (k:∀ v u',u≤u'→u'≤10000→R v→RNOk S u' (f v u')):RNOk S u (x.bind f):=by
 cases x with
 | fault e u'=>exact h
 | val v u'=>
  obtain ⟨h1,h2,h3⟩:=h;have:=k v u' h1 h2 h3;unfold RN.bind;simp only
  cases hf:f v u' with
  | fault e u2=>rw[hf] at this; exact ⟨by have:=this.1; omega,this.2⟩
  | val v2 u2=>rw[hf] at this; exact ⟨by have:=this.1; omega,this.2⟩
theorem RNOk.le {α:Type} {R:α→Prop} {u u':Nat} {x:RN α} (h:RNOk R u' x) (hu:u≤u'):RNOk R u x:=by
 cases x with
 | fault e v=>exact ⟨by have:=h.1; omega,h.2⟩
 | val a v=>exact ⟨by have:=h.1; omega,h.2⟩
def TyL (fs:List SigM) (vars:List Int):List Int→List Nd→Prop
 | [],[]=>True
 | t::ts,a::l=>ofN fs vars a=(t,[])∧TyL fs vars ts l
 | _,_=>False
theorem Vp {fs:List SigM} {vars:List Int} {t:Int} {a:Nd} (h:needN fs vars t a=[]):ofN fs vars a=(t,[]):=by
 unfold needN at h;simp only[List.append_eq_nil_iff] at h;obtain ⟨h1,h2⟩:=h;split at h2
 ·cases h2
 ·rename_i hn;simp at hn;exact Prod.ext hn h1
theorem Ko {fs:List SigM} {vars:List Int} {t:Int}:∀ {l:List Nd},needL fs vars t l=[]→TyL fs vars (List.replicate l.length t) l
 | [],_=>trivial
 | a::l,h=>by
  rw[needL] at h;simp only[List.append_eq_nil_iff] at h;exact ⟨Vp (by unfold needN; simp only[List.append_eq_nil_iff]; exact h.1),Ko h.2⟩
theorem Jcj {fs:List SigM} {vars:List Int}:∀ {ps:List Int} {l:List Nd},l.length=ps.length→argL fs vars true ps l=[]→TyL fs vars ps l
 | [],[],_,_=>trivial
 | [],a::l,hl,_=>by simp at hl
 | p::ps,[],hl,_=>by simp at hl
 | p::ps,a::l,hl,h=>by
  rw[argL] at h;simp only[List.append_eq_nil_iff,true_and,List.headD_cons,List.tail_cons] at h;refine ⟨Vp (t:=p) (by unfold needN; simp only[List.append_eq_nil_iff]; exact h.1),Jcj (by simpa using hl) h.2⟩
theorem YY (b:Bool):VOk 1 (bitI b):=by cases b <;> exact .inr ⟨rfl,by simp[bitI]⟩
theorem Jif (n:Int):VOk 0 (clI n):=by
 refine .inl ⟨rfl,?_⟩;unfold clI;split
 ·omega
 split <;> omega
theorem Jkc {n:Int} (h:numB n=true):VOk 0 n:=by simp[numB] at h; exact .inl ⟨rfl,by omega,by omega⟩
theorem Jhp {F:FactsM} (h:factsM F=true) {s:List UInt8} {t:Int} (ht:factI s=some t):VOk t (factV F s):=by
 unfold factsM FactsM.nums at h;simp only[List.all_cons,List.all_nil,Bool.and_true,Bool.and_eq_true] at h;obtain ⟨⟨⟨h1,h2,h3,h4,h5,h6,h7,h8⟩,_⟩,_⟩:=h;unfold factI at ht;split at ht
 ·rename_i hm;obtain rfl:(0:Int)=t:=by simpa using ht
  simp only[List.mem_cons,List.not_mem_nil,or_false] at hm
  rcases hm with rfl | rfl | rfl | rfl | rfl | rfl | rfl | rfl <;> refine Jkc ?_ <;> simp only[factV,fLikes,fBoosts,fReplies,fReports,fAge,fHome,fScope,fLength] <;> simp <;> assumption
 ·split at ht
  ·rename_i hm;obtain rfl:(1:Int)=t:=by simpa using ht
   simp only[List.mem_cons,List.not_mem_nil,or_false] at hm
   rcases hm with rfl | rfl
   ·rw[show factV F fFollows=bitI F.follows by simp[factV,fLikes,fBoosts,fReplies,fReports,fAge,fHome,fScope,fLength,fFollows]];exact YY _
   ·rw[show factV F fReply=bitI F.reply by simp[factV,fLikes,fBoosts,fReplies,fReports,fAge,fHome,fScope,fLength,fFollows,fReply]];exact YY _
  ·cases ht
theorem JcY:∀ {l:List (List UInt8 × Int)} {p:Option (List UInt8)} (s:List UInt8),labelsB p l=true→VOk 0 (lookC l s)
 | [],_,s,_=>.inl ⟨rfl,by simp[lookC],by simp[lookC]⟩
 | c::l,p,s,h=>by
  unfold labelsB at h;simp only[Bool.and_eq_true,decide_eq_true_eq] at h;rw[lookC];split
  ·exact .inl ⟨rfl,by omega,by omega⟩
  ·exact JcY s h.2
theorem Jba {F:FactsM} (h:factsM F=true):labelsB none F.labels=true:=by
 unfold factsM at h;simp only[Bool.and_eq_true] at h;exact h.1.2
theorem Jft {fs:List SigM} {n:Int} (h0:0≤n) (h1:n<(fs.length:Int)):∃ f,fs[n.toNat]?=some f:=⟨fs[n.toNat]'(by omega),List.getElem?_eq_getElem _⟩
theorem KD {l:List Exp} (h:l.length=2):∃ a b,l=[a,b]:=by
 match l,h with
 | [a,b],_=>exact ⟨a,b,rfl⟩
theorem Zu {l:List Exp} (h:l.length=3):∃ a b c,l=[a,b,c]:=by
 match l,h with
 | [a,b,c],_=>exact ⟨a,b,c,rfl⟩
theorem JR (l:List Exp):(utL l).length=l.length:=by
 induction l with
 | nil=>rw[utL]; rfl
 | cons a l ih=>rw[utL,List.length_cons,List.length_cons,ih]
theorem J6 {pa:List Nat} {vars nest:Nat} {k n:Int} {s:List UInt8} {l:List Exp} (h:fitsN pa vars nest (.mk k n s l)=true) :
  1≤nest∧fieldsB pa.length vars k n s=true∧l.length=arityM pa k n∧fitsL pa vars (nest-1) k 0 l=true:=by
 rw[fitsN] at h;simp only[Bool.and_eq_true,decide_eq_true_eq,beq_iff_eq] at h;exact ⟨h.1.1.1,h.1.1.2,h.1.2,h.2⟩
theorem Jbb {nf vars:Nat} {k n:Int} {s:List UInt8} (h:fieldsB nf vars k n s=true):k=0∨k=1∨k=2∨k=3∨k=4∨k=5∨k=6∨k=7∨(8≤k∧k≤14)∨k=15∨k=16∨k=17∨k=18∨k=19∨k=20:=by
 unfold fieldsB at h;simp only[Bool.and_eq_true,decide_eq_true_eq] at h;omega
theorem Jag {k a b:Int} {u:Nat} (hu:u≤10000) (ha:VOk (if k=7 then 1 else 0) a) (hb:k≠6→k≠7→VOk 0 b) (hk:k=6∨k=7∨(8≤k∧k≤14)):RNOk (VOk (if 13≤k∨k=7 then 1 else 0)) u (operI k a b u):=by
 unfold operI
 by_cases h6:k=6
 ·subst h6;simp only[if_true];exact ⟨Nat.le_refl _,hu,by simpa using Jif _⟩
 rw[if_neg h6]
 by_cases h7:k=7
 ·subst h7;simp only[if_true];refine ⟨Nat.le_refl _,hu,?_⟩
  rcases ha with ⟨h,_⟩ | ⟨_,h⟩
  ·exact absurd h (by decide)
  ·refine .inr ⟨rfl,?_⟩;omega
 rw[if_neg h7];generalize hG:(if 13≤k∨k=7 then (1:Int) else 0)=G;have hlo:∀ n:Int,k≤12→RNOk (VOk G) u (.val (clI n) u):=fun n hn=>by rw[if_neg (by omega)] at hG; subst hG; exact ⟨Nat.le_refl _,hu,Jif n⟩
 have hhi:∀ n:Bool,13≤k→RNOk (VOk G) u (.val (bitI n) u):=fun n hn=>by rw[if_pos (.inl hn)] at hG; subst hG; exact ⟨Nat.le_refl _,hu,YY n⟩
 split
 ·exact hlo _ (by omega)
 split
 ·exact hlo _ (by omega)
 split
 ·exact hlo _ (by omega)
 split
 ·split
  ·exact ⟨Nat.le_refl _,hu,.inl rfl⟩
  ·exact hlo _ (by omega)
 split
 ·split
  ·exact ⟨Nat.le_refl _,hu,.inl rfl⟩
  ·exact hlo _ (by omega)
 split
 ·exact hhi _ (by omega)
 split
 ·exact hhi _ (by omega)
 ·exact hhi _ (by omega)
theorem JkH (a b:Int) {u:Nat} (hu:u≤10000):RNOk (VOk 1) u (operI 15 a b u):=by
 unfold operI;simp only[show ¬ (15:Int)=6 by decide,show ¬ (15:Int)=7 by decide,show ¬ (15:Int)=8 by decide,show ¬ (15:Int)=9 by decide,show ¬ (15:Int)=10 by decide,show ¬ (15:Int)=11 by decide,show ¬ (15:Int)=12 by decide,show ¬ (15:Int)=13 by decide,show ¬ (15:Int)=14 by decide,if_false];exact ⟨Nat.le_refl _,hu,YY _⟩
def CallOk (fs:List SigM) (call:Int→List Int→Nat→RN Int):Prop:=∀ n args u f,0≤n→fs[n.toNat]?=some f→VsOk f.params args→u≤10000→RNOk (VOk f.result) u (call n args u)
def palen (fs:List SigM):List Nat:=fs.map (·.params.length)
theorem K6 (fs:List SigM):(palen fs).length=fs.length:=by simp[palen]
theorem TyL.two {fs:List SigM} {vars:List Int} {t1 t2:Int} {a b:Nd} (h:TyL fs vars [t1,t2] [a,b]):ofN fs vars a=(t1,[])∧ofN fs vars b=(t2,[]):=⟨h.1,h.2.1⟩
theorem KJ {pa:List Nat} {vars nest:Nat} {k:Int} {a b:Exp} (h:fitsL pa vars nest k 0 [a,b]=true):fitsN pa vars nest a=true∧fitsN pa (if k=19 then vars+1 else vars) nest b=true:=by
 rw[fitsL,fitsL,fitsL] at h;simp at h;exact h
theorem Jck {pa:List Nat} {vars nest:Nat} {k:Int} {a b c:Exp} (hk:k≠19) (h:fitsL pa vars nest k 0 [a,b,c]=true):fitsN pa vars nest a=true∧fitsN pa vars nest b=true∧fitsN pa vars nest c=true:=by
 rw[fitsL,fitsL,fitsL,fitsL] at h;simp[hk] at h;exact h
mutual
theorem KW {fs:List SigM} {F:FactsM} {call:Int→List Int→Nat→RN Int} (hF:factsM F=true) (hc:CallOk fs call) :
  ∀ (e:Exp) (vars vals:List Int) (nest u:Nat) (t:Int),fitsN (palen fs) vars.length nest e=true→ofN fs vars (utN e)=(t,[])→VsOk vars vals→u≤10000→RNOk (VOk t) u (evN call F vals u e)
 | .mk k n s l,vars,vals,nest,u,t,hf,ht,hv,hu=>by
  obtain ⟨_,hfi,har,hk⟩:=J6 hf;have hkind:=Jbb hfi;have hfi':=hfi;unfold fieldsB at hfi;rw[K6] at hfi;simp only[Bool.and_eq_true,decide_eq_true_eq] at hfi;obtain ⟨⟨⟨hn,hs⟩,_⟩,_⟩:=hfi;rw[utN,YX] at ht;rw[Ku]
  rcases hkind with rfl | rfl | rfl | rfl | rfl | rfl | rfl | rfl | h8 | rfl | rfl | rfl | rfl | rfl | rfl
  ·
   simp at ht hn ⊢;subst ht;exact ⟨Nat.le_refl _,hu,.inl ⟨rfl,by omega,by omega⟩⟩
  ·
   simp at ht hn ⊢;subst ht;exact ⟨Nat.le_refl _,hu,.inr ⟨rfl,hn⟩⟩
  ·
   simp at ht hn ⊢;refine ⟨Nat.le_refl _,hu,?_⟩;have h1:n.toNat<vars.length:=by omega
   have h2:n.toNat<vals.length:=by rw[← hv.1]; exact h1
   rw[List.getElem?_eq_getElem h1] at ht;rw[List.getElem?_eq_getElem h2];simp at ht ⊢;subst ht;exact hv.2 _ _ _ (List.getElem?_eq_getElem h1) (List.getElem?_eq_getElem h2)
  ·
   simp at ht hn hs ⊢;obtain ⟨t',ht'⟩:=Option.isSome_iff_exists.1 hs;rw[ht'] at ht;simp at ht;subst ht;exact ⟨Nat.le_refl _,hu,Jhp hF ht'⟩
  ·
   simp at ht ⊢;subst ht;exact ⟨Nat.le_refl _,hu,JcY s (Jba hF)⟩
  ·
   simp at ht ⊢;subst ht;exact ⟨Nat.le_refl _,hu,YY _⟩
  ·
   simp at ht ⊢;obtain ⟨rfl,ht⟩:=ht;have hl:l.length=1:=har;have hty:=Ko ht;rw[JR,hl] at hty;refine (Zv hF hc l vars vals (nest-1) u [0] 6 0 (by decide) hk hty hv hu).bind fun vs u' h1 h2 h3=>?_
   have h0:vs.length=1:=h3.1.symm
   match vs,h0,h3 with
   | [a],_,h3=>exact Jag (k:=6) h2 (h3.2 0 0 a rfl rfl) (fun h=>absurd rfl h) (.inl rfl)
  ·
   simp at ht ⊢;obtain ⟨rfl,ht⟩:=ht;have hl:l.length=1:=har;have hty:=Ko ht;rw[JR,hl] at hty;refine (Zv hF hc l vars vals (nest-1) u [1] 7 0 (by decide) hk hty hv hu).bind fun vs u' h1 h2 h3=>?_
   have h0:vs.length=1:=h3.1.symm
   match vs,h0,h3 with
   | [a],_,h3=>exact Jag (k:=7) h2 (h3.2 0 1 a rfl rfl) (fun _ h=>absurd rfl h) (.inr (.inl rfl))
  ·
   have hl:l.length=2:=by rw[har]; unfold arityM; rw[if_neg (by omega),if_neg (by omega),if_neg (by omega),if_neg (by omega)]
   obtain ⟨h81,h82⟩:=h8
   have hty:TyL fs vars [0,0] (utL l)∧t=if 13≤k∨k=7 then 1 else 0:=by
    by_cases h13:13≤k
    ·rw[if_neg (by omega),if_neg (by omega),if_neg (by omega),if_neg (by omega),if_pos (by omega)] at ht;simp at ht;have hty:=Ko ht.2;rw[JR,hl] at hty;exact ⟨hty,by rw[if_pos (.inl h13)]; exact ht.1.symm⟩
    ·rw[if_neg (by omega),if_neg (by omega),if_neg (by omega),if_pos (by omega)] at ht;simp at ht;have hty:=Ko ht.2;rw[JR,hl] at hty;exact ⟨hty,by rw[if_neg (by omega)]; exact ht.1.symm⟩
   obtain ⟨hty,ht'⟩:=hty;rw[if_neg (by omega),if_neg (by omega),if_neg (by omega),if_neg (by omega),if_neg (by omega),if_neg (by omega),if_neg (by omega),if_neg (by omega),if_neg (by omega)];refine (Zv hF hc l vars vals (nest-1) u [0,0] k 0 (by omega) hk hty hv hu).bind fun vs u' h1 h2 h3=>?_
   have h0:vs.length=2:=h3.1.symm;rw[if_neg (by omega),ht']
   match vs,h0,h3 with
   | [a,b],_,h3=>exact Jag h2 (by rw[if_neg (by omega)]; exact h3.2 0 0 a rfl rfl) (fun _ _=>h3.2 1 0 b rfl rfl) (by omega)
  ·
   have hl:l.length=2:=har;obtain ⟨a,b,rfl⟩:=KD hl;simp[utL] at ht ⊢;obtain ⟨rfl,h1,h2,h3⟩:=ht;refine (Zv hF hc [a,b] vars vals (nest-1) u [(ofN fs vars (utN a)).1,(ofN fs vars (utN b)).1] 15 0 (by decide) hk (by rw[utL,utL,utL]; exact ⟨Prod.ext rfl h1,Prod.ext rfl h2,trivial⟩) hv hu).bind fun vs u' _ h2 _=>?_
   exact JkH _ _ h2
  ·
   have hl:l.length=2:=har;obtain ⟨a,b,rfl⟩:=KD hl;simp at ht ⊢;obtain ⟨rfl,ht⟩:=ht;have hty:=Ko ht;rw[JR,hl,utL,utL,utL] at hty;obtain ⟨ha,hb⟩:=TyL.two hty;obtain ⟨fa,fb⟩:=KJ hk;simp at fb;refine (KW hF hc a vars vals _ u 1 fa ha hv hu).bind fun v u' h1 h2 h3=>?_
   split
   ·exact ⟨Nat.le_refl _,h2,.inr ⟨rfl,.inl rfl⟩⟩
   ·exact KW hF hc b vars vals _ u' 1 fb hb hv h2
  ·
   have hl:l.length=2:=har;obtain ⟨a,b,rfl⟩:=KD hl;simp at ht ⊢;obtain ⟨rfl,ht⟩:=ht;have hty:=Ko ht;rw[JR,hl,utL,utL,utL] at hty;obtain ⟨ha,hb⟩:=TyL.two hty;obtain ⟨fa,fb⟩:=KJ hk;simp at fb;refine (KW hF hc a vars vals _ u 1 fa ha hv hu).bind fun v u' h1 h2 h3=>?_
   split
   ·exact KW hF hc b vars vals _ u' 1 fb hb hv h2
   ·exact ⟨Nat.le_refl _,h2,.inr ⟨rfl,.inr rfl⟩⟩
  ·
   have hl:l.length=3:=har;obtain ⟨c,a,b,rfl⟩:=Zu hl;simp[utL] at ht ⊢;obtain ⟨h0,h1,h2,h3,h4,h5⟩:=ht;obtain ⟨fc,fa,fb⟩:=Jck (by decide) hk;refine (KW hF hc c vars vals _ u 1 fc (Prod.ext h2 h1) hv hu).bind fun v u' g1 g2 g3=>?_
   split
   ·exact KW hF hc b vars vals _ u' t fb (Prod.ext (h5.trans h0) h4) hv g2
   ·exact KW hF hc a vars vals _ u' t fa (Prod.ext h0 h3) hv g2
  ·
   have hl:l.length=2:=har;obtain ⟨a,b,rfl⟩:=KD hl;simp[utL] at ht ⊢;obtain ⟨h1,h2,h3⟩:=ht;obtain ⟨fa,fb⟩:=KJ hk;simp at fb;have ha:ofN fs vars (utN a)=((ofN fs vars (utN a)).1,[]):=Prod.ext rfl h2;have hb:ofN fs (vars++[(ofN fs vars (utN a)).1]) (utN b)=(t,[]):=Prod.ext h1 h3;refine (KW hF hc a vars vals _ u (ofN fs vars (utN a)).1 fa ha hv hu).bind fun v u' g1 g2 g3=>?_
   exact KW hF hc b (vars++[(ofN fs vars (utN a)).1]) (vals++[v]) _ u' t (by rw[List.length_append]; exact fb) hb (hv.snoc g3) g2
  ·
   simp at ht hn ⊢;obtain ⟨f,hf'⟩:=Jft hn.1 hn.2;rw[hf'] at ht;simp at ht;obtain ⟨rfl,h1,h2⟩:=ht;have h1':(utL l).length=f.params.length:=h1;rw[h1'] at h2;simp at h2;have hty:=Jcj h1' h2;refine (Zv hF hc l vars vals (nest-1) u f.params 20 0 (by decide) hk hty hv hu).bind fun vs u' g1 g2 g3=>?_
   exact hc n vs u' f hn.1 hf' g3 g2
theorem Zv {fs:List SigM} {F:FactsM} {call:Int→List Int→Nat→RN Int} (hF:factsM F=true) (hc:CallOk fs call) :
  ∀ (l:List Exp) (vars vals:List Int) (nest u:Nat) (ts:List Int) (k:Int) (i:Nat),k≠19→fitsL (palen fs) vars.length nest k i l=true→TyL fs vars ts (utL l)→VsOk vars vals→u≤10000→RNOk (VsOk ts) u (evL call F vals u l)
 | [],vars,vals,nest,u,ts,k,i,hk,hf,ht,hv,hu=>by
  rw[utL] at ht;rw[evL]
  cases ts with
  | nil=>exact ⟨Nat.le_refl _,hu,VsOk.nil⟩
  | cons t ts=>exact ht.elim
 | a::l,vars,vals,nest,u,ts,k,i,hk,hf,ht,hv,hu=>by
  rw[utL] at ht;rw[evL];rw[fitsL] at hf;simp only[Bool.and_eq_true] at hf;rw[if_neg (fun h=>hk h.1)] at hf
  cases ts with
  | nil=>exact ht.elim
  | cons t ts=>
   refine (KW hF hc a vars vals nest u t hf.1 ht.1 hv hu).bind fun v u' g1 g2 g3=>?_
   refine (Zv hF hc l vars vals nest u' ts k (i+1) hk hf.2 ht.2 hv g2).bind fun vs u2 k1 k2 k3=>?_
   exact ⟨Nat.le_refl _,k2,VsOk.cons g3 k3⟩
end
theorem Jfu {s:List UInt8} (h:(factI s).isSome=true):s.length≤1000000:=by
 unfold factI at h;split at h
 ·rename_i hm;simp only[List.mem_cons,List.not_mem_nil,or_false] at hm
  rcases hm with rfl | rfl | rfl | rfl | rfl | rfl | rfl | rfl <;> decide
 ·split at h
  ·rename_i hm;simp only[List.mem_cons,List.not_mem_nil,or_false] at hm
   rcases hm with rfl | rfl <;> decide
  ·cases h
theorem Jcl {nf vars:Nat} {k n:Int} {s:List UInt8} (h:fieldsB nf vars k n s=true):s.length≤1000000:=by
 unfold fieldsB at h;simp only[Bool.and_eq_true,decide_eq_true_eq] at h;have hs:=h.1.1.2;split at hs
 ·exact Jfu hs
 split at hs
 ·unfold textB at hs;simp only[Bool.and_eq_true,decide_eq_true_eq] at hs;omega
 ·simp at hs;subst hs;simp
mutual
theorem VJ {pa:List Nat}:∀ (e:Exp) (vars nest:Nat),fitsN pa vars nest e=true→TyOk pa.length vars (utN e)∧WfN (utN e)
 | .mk k n s l,vars,nest,h=>by
  obtain ⟨_,hf,ha,hl⟩:=J6 h;have hnm:=Jcl hf;have hlen:=JR l
  by_cases h19:k=19
  ·subst h19;obtain ⟨a,b,rfl⟩:=KD (show l.length=2 from ha);obtain ⟨fa,fb⟩:=KJ hl;obtain ⟨a1,a2⟩:=VJ a _ _ fa;obtain ⟨b1,b2⟩:=VJ b _ _ fb;rw[utN,utL,utL,utL];simp at b1;refine ⟨?_,wf2 (by decide) hnm a2 b2⟩;unfold TyOk;exact ⟨fun h=>absurd h (by decide),fun h=>absurd h (by decide),a1,b1⟩
  ·obtain ⟨q1,q2⟩:=JcZ l vars (nest-1) k 0 h19 hl;rw[utN];unfold fieldsB at hf;simp only[Bool.and_eq_true,decide_eq_true_eq] at hf;have hn:=hf.1.1.1;refine ⟨Jae (fun h=>?_) (fun h=>?_) h19 q1,KV.2 ⟨fun h=>absurd h h19,fun h=>?_,fun h=>?_,hnm,q2⟩⟩
   ·subst h;simp at hn;exact hn
   ·subst h;simp at hn;exact hn
   ·subst h;rw[hlen];exact ha
   ·subst h;rw[hlen];exact ha
theorem JcZ {pa:List Nat}:∀ (l:List Exp) (vars nest:Nat) (k:Int) (i:Nat),k≠19→fitsL pa vars nest k i l=true→TyOkL pa.length vars (utL l)∧WfL (utL l)
 | [],vars,nest,k,i,hk,h=>by
  rw[utL];unfold TyOkL;exact ⟨trivial,K5⟩
 | a::l,vars,nest,k,i,hk,h=>by
  rw[fitsL] at h;simp only[Bool.and_eq_true] at h;rw[if_neg (fun h=>hk h.1)] at h;obtain ⟨a1,a2⟩:=VJ a _ _ h.1;obtain ⟨b1,b2⟩:=JcZ l _ _ _ _ hk h.2;rw[utL];unfold TyOkL;exact ⟨⟨a1,b1⟩,JN.2 ⟨a2,b2⟩⟩
end
end Go.Proofs.YtncanmdgdflnpaaGreatDoor
namespace Go.Proofs.YtncanmdgdflnpaaGreatDoor
open Go.ChangeShapes Go.WideShapes Go.ChangeAt Go.RowKit Go.Lib
open _root_.Go.Proofs.Tryz
set_option linter.all false
set_option maxRecDepth 100000
set_option maxHeartbeats 32000000
def In (W:World) (b:Nat):Prop:=b<W.heap.size
theorem XAt.up {w W:World} {e:Exp} {c:Array Value} (h:XAt w (In w) e c) (hb:Below w.heap.size w W):XAt W (In W) e c:=
 XAt.keep (fun b hP=>hb.block b hP) (fun b hP=>Nat.lt_of_lt_of_le hP hb.size) _ _ h
structure UnI (w:World) (rs bx lo:Nat) (k n:Int) (s:List UInt8) (W:World) (l:List An) (V:Value):Prop where
 own:W.ownsRow lo 119 5 V l.length (rowN l)
 nil:l=[]→V=.slice none 0 0
 ats:∀ a∈l,a.At W
 fts:∀ b∈footL l,lo≤b∧b<W.heap.size
 dis:∀ g,V.ownBlock=some g→g∉footL l
 box:W.heap[bx]?=some (.cells #[.int .i64 k,.int .i64 n,.string (bs s),.int .i64 0,V] 119 (0,0))
 res:W.heap[rs]?=some (.cells #[.int .i64 0,.int .i64 0,.string ⟨#[]⟩,.int .i64 0,.slice none 0 0] 119 (0,0))
 bel:Below w.heap.size w W
 low:w.heap.size≤rs∧rs<bx∧bx<lo∧lo≤W.heap.size
section
variable {w:World} {rs bx lo:Nat} {k n:Int} {s:List UInt8} {W W':World} {l:List An} {V:Value}
theorem UnI.up (h:UnI w rs bx lo k n s W l V) (hb:Below W.heap.size W W'):UnI w rs bx lo k n s W' l V:=by
 obtain ⟨l1,l2,l3,l4⟩:=h.low;have hc:=Chg.of_below hb []
 exact ⟨Jx h.own hc (by simp),h.nil,fun a ha=>JaM (h.ats a ha) hb,fun b hm=>⟨(h.fts b hm).1,Nat.lt_of_lt_of_le (h.fts b hm).2 hb.size⟩,h.dis,(hb.block _ (Jb h.box)).trans h.box,(hb.block _ (Jb h.res)).trans h.res,
  ⟨hb.os.trans h.bel.os,hb.tape.trans h.bel.tape,hb.output.trans h.bel.output,Nat.le_trans h.bel.size hb.size,fun q hq=>(hb.block q (Nat.lt_of_lt_of_le hq h.bel.size)).trans (h.bel.block q hq)⟩,l1,l2,l3,Nat.le_trans l4 hb.size⟩
theorem UnI.step {w1 w6 w7:World} {b:An} {V':Value} {X:Obj} (h:UnI w rs bx lo k n s w1 l V) (hb:Below w1.heap.size w1 w6) (hbt:b.At w6) (hbf:∀ q∈foot b,w1.heap.size≤q∧q<w6.heap.size)
  (hown:w7.ownsRow lo 119 5 V' (l++[b]).length (rowN (l++[b]))) (hgr:(w6.alloc X).grownBy w7 V.ownBlock) (hfr:V'.ownBlock=V.ownBlock∨V'.ownBlock=some (w6.alloc X).heap.size) :
  UnI w rs bx lo k n s (w7.setCell ⟨bx,4,none⟩ V') (l++[b]) V'∧w7.heap[bx]?=some (.cells #[.int .i64 k,.int .i64 n,.string (bs s),.int .i64 0,V] 119 (0,0)):=by
 have h6:=h.up hb;obtain ⟨l1,l2,l3,l4⟩:=h6.low;have hrow:∀ g,V.ownBlock=some g→lo≤g∧g<w1.heap.size:=fun g hg=>h.own.lt g hg
 have hc7:=JK hgr;have hbx7:w7.heap[bx]?=some (.cells #[.int .i64 k,.int .i64 n,.string (bs s),.int .i64 0,V] 119 (0,0)):=hc7.heap_some (fun hm=>by have:=(hrow bx (by simpa using hm)).1; omega) h6.box;have hst:Chg [bx] w7 (w7.setCell ⟨bx,4,none⟩ V'):=(Chg.refl _ _).setCell (.inl (by simp:bx∈[bx])) (p:=⟨bx,4,none⟩) V';have hkeep:∀ q,q<w6.heap.size→V.ownBlock≠some q→q≠bx→(w7.setCell ⟨bx,4,none⟩ V').heap[q]?=w6.heap[q]?:=fun q hq hn hne=>(hst.block q (Nat.lt_of_lt_of_le hq hc7.size) (by simpa using hne)).trans (hc7.block q hq (by simpa using hn))
 have hsz:w6.heap.size≤(w7.setCell ⟨bx,4,none⟩ V').heap.size:=Nat.le_trans hc7.size hst.size;have hb16:=hb.size
 have hft:∀ q∈footL (l++[b]),lo≤q∧q<w6.heap.size:=by
  intro q hq;rw[K1] at hq
  rcases List.mem_append.1 hq with hq | hq
  ·exact h6.fts q hq
  ·have h1:=hbf q hq; have:=h.low; exact ⟨by omega,h1.2⟩
 have hnV:∀ q∈footL (l++[b]),V.ownBlock≠some q:=by
  intro q hq e;rw[K1] at hq
  rcases List.mem_append.1 hq with hq | hq
  ·exact h.dis q e hq
  ·have h1:=(hrow q e).2; have h2:=(hbf q hq).1; omega
 refine ⟨⟨Jx hown hst (by simp; omega),fun e=>by simp at e,fun a ha=>?_,fun q hq=>?_,fun g hg hm=>?_,?_,?_,?_,l1,l2,l3,Nat.le_trans l4 hsz⟩,hbx7⟩
 ·have ha2:a.At w6:=by
   rcases List.mem_append.1 ha with ha' | ha'
   ·exact h6.ats a ha'
   ·obtain rfl:a=b:=by simpa using ha'
    exact hbt
  exact JE a ha2 fun q hq=>hkeep q (hft q (Jz ha q hq)).2 (hnV q (Jz ha q hq)) (by have:=(hft q (Jz ha q hq)).1; omega)
 ·have:=hft q hq;omega
 ·have h1:=hft g hm
  rcases hfr with e | e
  ·exact hnV g hm (e.symm.trans hg)
  ·rw[e] at hg;simp at hg;omega
 ·exact JC hbx7 4 V'
 ·exact (hkeep _ (Jb h6.res) (fun e1=>by have h1:=(hrow _ e1).1; omega) (by omega)).trans h6.res
 ·have hlw:w.heap.size≤w6.heap.size:=h6.bel.size;exact wx64
def UtP (w:World) (x:Exp) (e:Ending) (w':World):Prop:=∃ a:An,e=.returned (.agg (cellsN a))∧a.nd=utN x∧a.At w'∧(∀ b∈foot a,w.heap.size≤b∧b<w'.heap.size)∧Below w.heap.size w w'
theorem UnI.fin {L:List Exp} (h:UnI w rs bx lo k n s W l V) (hl:ndL l=utL L):UtP w (.mk k n s L) (.returned (.agg #[.int .i64 k,.int .i64 n,.string (bs s),.int .i64 0,V])) (put5 W rs (.int .i64 k) (.int .i64 n) (.string (bs s)) (.int .i64 0) V):=by
 obtain ⟨l1,l2,l3,l4⟩:=h.low;have hst:=J5 (S:=[rs]) (W:=W) (.int .i64 k) (.int .i64 n) (.string (bs s)) (.int .i64 0) V (by simp:rs∈[rs]);have hsz:=hst.size;have hbel:Below w.heap.size w (put5 W rs (.int .i64 k) (.int .i64 n) (.string (bs s)) (.int .i64 0) V):=((((h.bel.setCell l1 _).setCell l1 _).setCell l1 _).setCell l1 _).setCell l1 _;have hnd:∀ g c,(An.mk k n s 0 g c l).nd=utN (.mk k n s L):=fun g c=>by unfold An.nd; rw[utN,hl]
 by_cases hnil:l=[]
 ·subst hnil;obtain rfl:=h.nil rfl;refine ⟨.mk k n s 0 0 0 [],rfl,hnd 0 0,?_,?_,hbel⟩
  ·unfold An.At AtL;exact ⟨fun h=>absurd rfl h,trivial⟩
  ·intro b hb;rw[Kt,if_pos rfl] at hb
   cases hb
 ·rcases h.own.2 with ⟨_,e⟩ | ⟨g,c,cur,rfl,hg,hgg,hn,hm,hs,ht⟩
  ·exact absurd (List.eq_nil_of_length_eq_zero e) hnil
  have hlt:=Jb hgg;have hrow:=hst.heap_some (k:=g) (by simp; omega) hgg;refine ⟨.mk k n s 0 g c l,?_,hnd g c,?_,?_,hbel⟩
  ·show _=Ending.returned (.agg #[_,_,_,_,kidsV g c l])
   unfold kidsV;rw[if_neg hnil]
  ·unfold An.At;refine ⟨fun _ j=>Jc hrow j,Kp l 0 (fun j u hu=>?_) fun a ha=>?_⟩
   ·rw[Nat.zero_mul,Nat.zero_add,Ja hrow];rw[← ht,List.getElem?_take] at hu;split at hu
    ·simpa using hu
    ·cases hu
   ·exact JE a (h.ats a ha) fun b hb=>by
     have:=h.fts b (Jz ha b hb);exact hst.block b this.2 (by simp; omega)
  ·intro b hb;rw[Kt,if_neg hnil] at hb
   rcases List.mem_cons.1 hb with rfl | hb
   ·omega
   ·have:=h.fts b hb;omega
end
theorem Jjc (l:List Exp) (a:Exp):utL (l++[a])=utL l++[utN a]:=by
 induction l with
 | nil=>simp[utL]
 | cons x r ih=>simp[utL,ih]
theorem Jfv (l:List Exp):utL l=l.map utN:=by
 induction l with
 | nil=>rw[utL]; rfl
 | cons a l ih=>rw[utL,ih]; rfl
theorem KE {l:List Exp} {y:Exp} (h:y∈l):siz (utN y)≤sizL (utL l):=JcJ (by rw[Jfv]; exact List.mem_map.2 ⟨y,h,rfl⟩)
theorem Jfw (l:List Exp):l.length≤sizL (utL l):=by have:=JcK (utL l); rw[JR] at this; exact this
def KidsX (w:World) (ad:Option Addr) (l:List Exp):Prop:=l≠[]→∃ b o,ad=some ⟨b,o,none⟩∧b<w.heap.size∧∀ i e,l[i]?=some e→∃ d,XAt w (In w) e d∧∀ j u,d[j]?=some u→w.cell? ⟨b,o+i*4+j,none⟩=some u
theorem KidsX.at' {w W:World} {ad:Option Addr} {l:List Exp} (h:KidsX w ad l) (hb:Below w.heap.size w W) {i:Nat} {y:Exp} (hi:l[i]?=some y) :
  ∃ b o da dc,ad=some ⟨b,o,none⟩∧XAt W (In W) y #[.int .i64 y.kind,.int .i64 y.num,.string (bs y.name),.slice da y.kids.length dc]∧W.cell? ⟨b,o+i*4,none⟩=some (.int .i64 y.kind)∧
   W.cell? ⟨b,o+i*4+1,none⟩=some (.int .i64 y.num)∧W.cell? ⟨b,o+i*4+2,none⟩=some (.string (bs y.name))∧W.cell? ⟨b,o+i*4+3,none⟩=some (.slice da y.kids.length dc):=by
 obtain ⟨b,o,h1,h2,h3⟩:=h (List.ne_nil_of_mem (List.mem_of_getElem? hi));obtain ⟨d,h4,h5⟩:=h3 i y hi;obtain ⟨da,dc,rfl,_⟩:=h4.form;have hc:∀ j u,_→W.cell? ⟨b,o+i*4+j,none⟩=some u:=fun j u hu=>(World.cell?_of_block (a:=⟨b,o+i*4+j,none⟩) (hb.block b h2)).trans (h5 j u hu)
 exact ⟨b,o,da,dc,h1,h4.up hb,hc 0 _ rfl,hc 1 _ rfl,hc 2 _ rfl,hc 3 _ rfl⟩
theorem XAt.kids {w:World} {k n:Int} {s:List UInt8} {l:List Exp} {c:Array Value} (h:XAt w (In w) (.mk k n s l) c):∃ ad cc,c=#[.int .i64 k,.int .i64 n,.string (bs s),.slice ad l.length cc]∧l.length≤cc∧KidsX w ad l:=by
 obtain ⟨ad,cc,h1,h2,h3⟩:=h.kid;exact ⟨ad,cc,h1,h2,h3⟩
theorem wx13 {P:Prop}(h:P:=by
  try simp only[Act.put,ZA,ZB,ZC]
  refine ZS 7 rfl (fun K hK=>?_);have hbx:=HBX.out;have b3:=Ja hbx 4;have f3:=Jc hbx 4;have hl7:=Jb hbx;simp only[ZD,ZE,ZF] at b3;go_simp;clear b3 hbx f3 hl7 HBX;refine hK.out _ _ trivial (fun hH=>?_);clear hK K
  try simp only[Act.put,ZA,ZB,ZC]
  refine wpAnyH_done (by kernel_rfl) ?_ _;have HB7:Hid (Below w.heap.size w (w7.setCell ⟨bx,4,none⟩ (.slice a7 m7 c7))):=HST.out.bel;go_wp2;go_roundg (l.length-(i+1))
  case measure=>have:=HG.out; omega
  case rel=>exact ⟨i+1,by omega,by go_num,⟨Q++[yb],_,by rw[KL,HN6.out]; exact HTS.out,by rw[List.length_append,HKL.out]; rfl,HST.out⟩,HB7⟩):P:=h
theorem Jcm (n:Nat) (IH:∀ (y:Exp) (d:Array Value) (W:World),siz (utN y)≤n→XAt W (In W) y d→Calls prog 96 #[.agg d] W (UtP W y)) (k nn:Int) (s:List UInt8) (l:List Exp) (ad:Option Addr) (cc:Nat) (w:World) (hn:sizL (utL l)≤n) (hb:n≤100000000) (hK:KidsX w ad l) :
  Calls prog 96 #[.agg #[.int .i64 k,.int .i64 nn,.string (bs s),.slice ad l.length cc]] w (UtP w (.mk k nn s l)):=by
 obtain ⟨R,hR⟩:∃ R,UtP w (.mk k nn s l)=R:=⟨_,rfl⟩
 rw[hR];have HR:Hid (R=UtP w (.mk k nn s l)):=hR.symm;have hbA:Below w.heap.size w (((w.alloc (.cells #[.int .i64 k,.int .i64 nn,.string (bs s),.slice ad l.length cc] 50)).alloc (.cells #[.int .i64 0,.int .i64 0,.string ⟨#[]⟩,.int .i64 0,.slice none 0 0] 119)).alloc (.cells #[.int .i64 k,.int .i64 nn,.string (bs s),.int .i64 0,.slice none 0 0] 119)):=((zzb.alloc zzl _).alloc (by simp) _).alloc (by simp; omega) _
 have HI0:Hid (UnI w (w.heap.size+1) (w.heap.size+1+1) (w.heap.size+1+1+1) k nn s (((w.alloc (.cells #[.int .i64 k,.int .i64 nn,.string (bs s),.slice ad l.length cc] 50)).alloc (.cells #[.int .i64 0,.int .i64 0,.string ⟨#[]⟩,.int .i64 0,.slice none 0 0] 119)).alloc (.cells #[.int .i64 k,.int .i64 nn,.string (bs s),.int .i64 0,.slice none 0 0] 119)) [] (.slice none 0 0)):=by
  have e1:=zzw (w.alloc (.cells #[.int .i64 k,.int .i64 nn,.string (bs s),.slice ad l.length cc] 50)) (.cells #[.int .i64 0,.int .i64 0,.string ⟨#[]⟩,.int .i64 0,.slice none 0 0] 119);have e2:=zzw ((w.alloc (.cells #[.int .i64 k,.int .i64 nn,.string (bs s),.slice ad l.length cc] 50)).alloc (.cells #[.int .i64 0,.int .i64 0,.string ⟨#[]⟩,.int .i64 0,.slice none 0 0] 119)) (.cells #[.int .i64 k,.int .i64 nn,.string (bs s),.int .i64 0,.slice none 0 0] 119);simp only[World.size_alloc] at e1 e2;exact ⟨World.ownsRow_nil _ _ _ _,fun _=>rfl,by simp,by simp[footL],by simp[footL],e2,Jf e1,hbA,by omega,by omega,by omega,by simp⟩
 have HNB:Hid ((((w.alloc (.cells #[.int .i64 k,.int .i64 nn,.string (bs s),.slice ad l.length cc] 50)).alloc (.cells #[.int .i64 0,.int .i64 0,.string ⟨#[]⟩,.int .i64 0,.slice none 0 0] 119)).alloc (.cells #[.int .i64 k,.int .i64 nn,.string (bs s),.int .i64 0,.slice none 0 0] 119)).heap[w.heap.size]?=some (.cells #[.int .i64 k,.int .i64 nn,.string (bs s),.slice ad l.length cc] 50 (0,0))):=Jf (Jf (zzw _ _));have HKX:=Zh hK;have HIH:=Zh IH;have hll:l.length≤100000000:=by have:=Jfw l; omega
 have HSZ:=Zh hn;clear hR hbA IH hK hn;go_enter func96,ntmps96;go_wp2_with fail;generalize World.alloc (World.alloc (World.alloc w _) _) _=w1 at *;generalize w.heap.size+1+1+1=lo at *;generalize w.heap.size+1+1=bx at *;generalize w.heap.size+1=rs at *;have HLW:Hid (w.heap.size<w1.heap.size):=Jb HNB.out;have n4:=Ja HNB.out 3;simp only[ZD,ZE,ZF] at n4;go_wp2_with fail;clear n4;go_loopg [16] l.length (fun g v16 wr=>∃ i:Nat,g+i=l.length∧v16=.int .i64 i∧Hid (∃ Q V,ndL Q=utL (l.take i)∧Q.length=i∧UnI w rs bx lo k nn s wr Q V)∧Hid (Below w.heap.size w wr))
 case atStart=>exact ⟨0,rfl,rfl,⟨[],_,by simp[ndL,utL],rfl,HI0.out⟩,HI0.out.bel⟩
 case round=>
 clear HI0 HNB;obtain ⟨wl,rfl⟩:∃ wl:World,wl=wr:=⟨_,rfl⟩
 obtain ⟨i,hg,rfl,hti,hbw⟩:=hrel;obtain ⟨Q,V,hnd,hkl,hun⟩:=hti.out;clear hti;have hti:=hun;clear hun;obtain ⟨va,vn,vc,rfl⟩:=Ji hti.own
 by_cases hi:i<l.length
 ·have hil:(i:Int)<(l.length:Int):=by omega
  obtain ⟨y,hy⟩:∃ y,l[i]?=some y:=⟨l[i],List.getElem?_eq_getElem hi⟩
  have hmem:=List.mem_of_getElem? hy;obtain ⟨b,o,da,dc,had,hxy,c0,c1,c2,c3⟩:=HKX.out.at' hbw.out hy;have wk:IntKind.i64.wrap ((i:Int)+1)=(i:Int)+1:=IntWalk.i64_in _ (by omega);have hb2:Below wl.heap.size wl (wl.alloc (.cells #[.int .i64 y.kind,.int .i64 y.num,.string (bs y.name),.slice da y.kids.length dc] 50)):=zzb.alloc zzl _;have HTI:=Zh (hti.up hb2);have HYX:=Zh (hxy.up hb2);have HCP:=Zh (zzw wl (.cells #[.int .i64 y.kind,.int .i64 y.num,.string (bs y.name),.slice da y.kids.length dc] 50));have HTS:Hid (ndL Q++[utN y]=utL (l.take (i+1))):=by rw[Hid,hnd,List.take_add_one,hy]; show _=utL (_++[y]); rw[Jjc]
  have HLN:Hid (Q.length≤100000000):=by rw[Hid]; omega
  have HYS:Hid (siz (utN y)≤n):=by have:=KE hmem; have:=HSZ.out; rw[Hid]; omega
  have HKL:=Zh hkl;have HG:=Zh hg;subst had;clear hb2 hti hy hmem hg hxy hbw hnd hkl;go_upto_region 5 with fail;clear c0 c1 c2 c3;generalize World.alloc wl _=wk0 at *;generalize wl.heap.size=cb at *;refine wp_region_held_drew (S:=fun _=>True) (by kernel_rfl) (trivial) (fun hH=>?_);have hD:Below wk0.heap.size wk0 wk0.drew:=(Below.refl wk0.heap.size wk0).drew;replace HTI:=Zh (HTI.out.up hD);replace HYX:=Zh (HYX.out.up hD);replace HCP:=Zh ((hD.block _ (Jb HCP.out)).trans HCP.out);clear hD;generalize wk0.drew=wk1 at *;refine ZT (i:=0) (v:=?vT1_0) rfl (Or.inl ⟨by rfl,?yT1_0⟩) ?_
  case yT1_0=>exact ZyQ
  try simp only[Act.put,ZA,ZB,ZC]
  refine ZR (rs:=[1,2]) (AllReadyH.cons rfl (fun K hK=>?_) (AllReadyH.cons rfl (fun K hK=>?_) AllReadyH.nil))
  ·have hbx:=HTI.out.box;have b3:=Ja hbx 4;simp only[ZD,ZE,ZF] at b3;go_simp;clear b3 hbx;refine hK.out _ _ trivial (fun hH=>?_);clear hK K
   try simp only[Act.put,ZA,ZB,ZC]
   refine ZS 2 rfl (fun K hK=>?_);have hbx:=HCP.out;have p0:=Ja hbx 0;have p1:=Ja hbx 1;have p2:=Ja hbx 2;have p3:=Ja hbx 3;simp only[ZD,ZE,ZF] at p0 p1 p2 p3;go_simp;clear p0 p1 p2 p3 hbx;refine hK.out _ _ trivial (fun hH=>?_);clear hK K
   try simp only[Act.put,ZA,ZB,ZC]
   refine ZS 3 rfl (fun K hK=>?_);have ci:=HIH.out y _ _ HYS.out HYX.out
   (go_simp; go_at_call 96; refine ci.mono ?_; intro e w6 h6)
   clear ci;obtain ⟨yb,rfl,hn6,hat6,hft6,hb6⟩:=h6;obtain ⟨ca,cn,cm,hcy⟩:=Jg yb;have HN6:=Zh hn6;have HB6:=Zh hb6;have HCY:=Zh hcy;have HA6:=Zh hat6;have HF6:=Zh hft6;replace HCP:=Zh ((hb6.block _ (Jb HCP.out)).trans HCP.out);have HT6:=Zh (HTI.out.up hb6);have HOW:Hid ((w6.alloc (.cells (cellsN yb) 119)).ownsRow lo 119 5 (.slice va vn vc) Q.length (rowN Q)):=HT6.out.own.alloc _;have HRW:Hid ((w6.alloc (.cells (cellsN yb) 119)).heap[w6.heap.size]?=some (.cells (cellsN yb) 119 (0,0))):=zzw _ _;have hlo6:lo≤(w6.alloc (.cells (cellsN yb) 119)).heap.size:=by have:=HT6.out.low; rw[World.size_alloc]; omega
   have HBX:=Zh HT6.out.box;rw[hcy] at HOW hlo6 ⊢;clear hn6 hat6 hft6 hb6 hcy;refine hK.out _ _ trivial (fun hH=>?_);clear hK K
   try simp only[Act.put,ZA,ZB,ZC]
   refine ZS 4 rfl (fun K hK=>?_);go_simp;refine hK.out _ _ trivial (fun hH=>?_);replace HBX:Hid ((w6.alloc (.cells #[.int .i64 yb.kind,.int .i64 yb.num,.string (bs yb.name),.int .i64 yb.off,.slice ca cn cm] 119)).heap[bx]?=some (.cells #[.int .i64 k,.int .i64 nn,.string (bs s),.int .i64 0,.slice va vn vc] 119 (0,0))):=Jf HBX.out;clear hK K
   try simp only[Act.put,ZA,ZB,ZC]
   refine ZS 5 rfl (fun K hK=>?_)
   (refine J9 (w6.alloc (.cells #[.int .i64 yb.kind,.int .i64 yb.num,.string (bs yb.name),.int .i64 yb.off,.slice ca cn cm] 119)) (by rfl) (.tmp 21) (.tmp 24) (by rfl) lo (.slice va vn vc) Q yb (by rfl) HOW.out w6.heap.size (by rfl) (by rw[← HCY.out]; exact HRW.out) HLN.out hlo6 ?_; intro v7 w7 hown7 hgr7 hfr7)
   obtain ⟨a7,m7,c7,rfl⟩:=Ji hown7;have hst:=UnI.step (V':=.slice a7 m7 c7) HTI.out HB6.out HA6.out HF6.out hown7 hgr7 hfr7;replace HBX:=Zh hst.2;have HST:=Zh hst.1;clear hown7 hgr7 hfr7 hst HOW HRW hlo6;refine hK.out _ _ trivial (fun hH=>?_);clear hK K
   try simp only[Act.put,ZA,ZB,ZC]
   refine ZT (i:=6) (v:=?vT6_6) rfl (Or.inl ⟨by rfl,?yT6_6⟩) ?_
   case yT6_6=>exact ZyQ
   exact wx13
  ·have hbx:=HCP.out;have p0:=Ja hbx 0;have p1:=Ja hbx 1;have p2:=Ja hbx 2;have p3:=Ja hbx 3;simp only[ZD,ZE,ZF] at p0 p1 p2 p3;go_simp;clear p0 p1 p2 p3 hbx;refine hK.out _ _ trivial (fun hH=>?_);clear hK K
   try simp only[Act.put,ZA,ZB,ZC]
   refine ZR (rs:=[1,3]) (AllReadyH.cons rfl (fun K hK=>?_) (AllReadyH.cons rfl (fun K hK=>?_) AllReadyH.nil))
   ·have hbx:=HTI.out.box;have b3:=Ja hbx 4;simp only[ZD,ZE,ZF] at b3;go_simp;clear b3 hbx;refine hK.out _ _ trivial (fun hH=>?_);clear hK K
    try simp only[Act.put,ZA,ZB,ZC]
    refine ZS 3 rfl (fun K hK=>?_);have ci:=HIH.out y _ _ HYS.out HYX.out
    (go_simp; go_at_call 96; refine ci.mono ?_; intro e w6 h6)
    clear ci;obtain ⟨yb,rfl,hn6,hat6,hft6,hb6⟩:=h6;obtain ⟨ca,cn,cm,hcy⟩:=Jg yb;have HN6:=Zh hn6;have HB6:=Zh hb6;have HCY:=Zh hcy;have HA6:=Zh hat6;have HF6:=Zh hft6;replace HCP:=Zh ((hb6.block _ (Jb HCP.out)).trans HCP.out);have HT6:=Zh (HTI.out.up hb6);have HOW:Hid ((w6.alloc (.cells (cellsN yb) 119)).ownsRow lo 119 5 (.slice va vn vc) Q.length (rowN Q)):=HT6.out.own.alloc _;have HRW:Hid ((w6.alloc (.cells (cellsN yb) 119)).heap[w6.heap.size]?=some (.cells (cellsN yb) 119 (0,0))):=zzw _ _;have hlo6:lo≤(w6.alloc (.cells (cellsN yb) 119)).heap.size:=by have:=HT6.out.low; rw[World.size_alloc]; omega
    have HBX:=Zh HT6.out.box;rw[hcy] at HOW hlo6 ⊢;clear hn6 hat6 hft6 hb6 hcy;refine hK.out _ _ trivial (fun hH=>?_);clear hK K
    try simp only[Act.put,ZA,ZB,ZC]
    refine ZS 4 rfl (fun K hK=>?_);go_simp;refine hK.out _ _ trivial (fun hH=>?_);replace HBX:Hid ((w6.alloc (.cells #[.int .i64 yb.kind,.int .i64 yb.num,.string (bs yb.name),.int .i64 yb.off,.slice ca cn cm] 119)).heap[bx]?=some (.cells #[.int .i64 k,.int .i64 nn,.string (bs s),.int .i64 0,.slice va vn vc] 119 (0,0))):=Jf HBX.out;clear hK K
    try simp only[Act.put,ZA,ZB,ZC]
    refine ZS 5 rfl (fun K hK=>?_)
    (refine J9 (w6.alloc (.cells #[.int .i64 yb.kind,.int .i64 yb.num,.string (bs yb.name),.int .i64 yb.off,.slice ca cn cm] 119)) (by rfl) (.tmp 21) (.tmp 24) (by rfl) lo (.slice va vn vc) Q yb (by rfl) HOW.out w6.heap.size (by rfl) (by rw[← HCY.out]; exact HRW.out) HLN.out hlo6 ?_; intro v7 w7 hown7 hgr7 hfr7)
    obtain ⟨a7,m7,c7,rfl⟩:=Ji hown7;have hst:=UnI.step (V':=.slice a7 m7 c7) HTI.out HB6.out HA6.out HF6.out hown7 hgr7 hfr7;replace HBX:=Zh hst.2;have HST:=Zh hst.1;clear hown7 hgr7 hfr7 hst HOW HRW hlo6;refine hK.out _ _ trivial (fun hH=>?_);clear hK K
    try simp only[Act.put,ZA,ZB,ZC]
    refine ZT (i:=6) (v:=?vT12_6) rfl (Or.inl ⟨by rfl,?yT12_6⟩) ?_
    case yT12_6=>exact ZyQ
    exact wx13
   ·have ci:=HIH.out y _ _ HYS.out HYX.out
    (go_simp; go_at_call 96; refine ci.mono ?_; intro e w6 h6)
    clear ci;obtain ⟨yb,rfl,hn6,hat6,hft6,hb6⟩:=h6;obtain ⟨ca,cn,cm,hcy⟩:=Jg yb;have HN6:=Zh hn6;have HB6:=Zh hb6;have HCY:=Zh hcy;have HA6:=Zh hat6;have HF6:=Zh hft6;replace HCP:=Zh ((hb6.block _ (Jb HCP.out)).trans HCP.out);have HT6:=Zh (HTI.out.up hb6);have HOW:Hid ((w6.alloc (.cells (cellsN yb) 119)).ownsRow lo 119 5 (.slice va vn vc) Q.length (rowN Q)):=HT6.out.own.alloc _;have HRW:Hid ((w6.alloc (.cells (cellsN yb) 119)).heap[w6.heap.size]?=some (.cells (cellsN yb) 119 (0,0))):=zzw _ _;have hlo6:lo≤(w6.alloc (.cells (cellsN yb) 119)).heap.size:=by have:=HT6.out.low; rw[World.size_alloc]; omega
    have HBX:=Zh HT6.out.box;rw[hcy] at HOW hlo6 ⊢;clear hn6 hat6 hft6 hb6 hcy;refine hK.out _ _ trivial (fun hH=>?_);clear hK K
    try simp only[Act.put,ZA,ZB,ZC]
    refine ZR (rs:=[1,4]) (AllReadyH.cons rfl (fun K hK=>?_) (AllReadyH.cons rfl (fun K hK=>?_) AllReadyH.nil))
    ·have hbx:=HBX.out;have b3:=Ja hbx 4;simp only[ZD,ZE,ZF] at b3;go_simp;clear b3 hbx;refine hK.out _ _ trivial (fun hH=>?_);clear hK K
     try simp only[Act.put,ZA,ZB,ZC]
     refine ZS 4 rfl (fun K hK=>?_);go_simp;refine hK.out _ _ trivial (fun hH=>?_);replace HBX:Hid ((w6.alloc (.cells #[.int .i64 yb.kind,.int .i64 yb.num,.string (bs yb.name),.int .i64 yb.off,.slice ca cn cm] 119)).heap[bx]?=some (.cells #[.int .i64 k,.int .i64 nn,.string (bs s),.int .i64 0,.slice va vn vc] 119 (0,0))):=Jf HBX.out;clear hK K
     try simp only[Act.put,ZA,ZB,ZC]
     refine ZS 5 rfl (fun K hK=>?_)
     (refine J9 (w6.alloc (.cells #[.int .i64 yb.kind,.int .i64 yb.num,.string (bs yb.name),.int .i64 yb.off,.slice ca cn cm] 119)) (by rfl) (.tmp 21) (.tmp 24) (by rfl) lo (.slice va vn vc) Q yb (by rfl) HOW.out w6.heap.size (by rfl) (by rw[← HCY.out]; exact HRW.out) HLN.out hlo6 ?_; intro v7 w7 hown7 hgr7 hfr7)
     obtain ⟨a7,m7,c7,rfl⟩:=Ji hown7;have hst:=UnI.step (V':=.slice a7 m7 c7) HTI.out HB6.out HA6.out HF6.out hown7 hgr7 hfr7;replace HBX:=Zh hst.2;have HST:=Zh hst.1;clear hown7 hgr7 hfr7 hst HOW HRW hlo6;refine hK.out _ _ trivial (fun hH=>?_);clear hK K
     try simp only[Act.put,ZA,ZB,ZC]
     refine ZT (i:=6) (v:=?vT17_6) rfl (Or.inl ⟨by rfl,?yT17_6⟩) ?_
     case yT17_6=>exact ZyQ
     exact wx13
    ·go_simp;refine hK.out _ _ trivial (fun hH=>?_);replace HBX:Hid ((w6.alloc (.cells #[.int .i64 yb.kind,.int .i64 yb.num,.string (bs yb.name),.int .i64 yb.off,.slice ca cn cm] 119)).heap[bx]?=some (.cells #[.int .i64 k,.int .i64 nn,.string (bs s),.int .i64 0,.slice va vn vc] 119 (0,0))):=Jf HBX.out;clear hK K
     try simp only[Act.put,ZA,ZB,ZC]
     refine ZS 1 rfl (fun K hK=>?_);have hbx:=HBX.out;have b3:=Ja hbx 4;simp only[ZD,ZE,ZF] at b3;go_simp;clear b3 hbx;refine hK.out _ _ trivial (fun hH=>?_);clear hK K
     try simp only[Act.put,ZA,ZB,ZC]
     refine ZS 5 rfl (fun K hK=>?_)
     (refine J9 (w6.alloc (.cells #[.int .i64 yb.kind,.int .i64 yb.num,.string (bs yb.name),.int .i64 yb.off,.slice ca cn cm] 119)) (by rfl) (.tmp 21) (.tmp 24) (by rfl) lo (.slice va vn vc) Q yb (by rfl) HOW.out w6.heap.size (by rfl) (by rw[← HCY.out]; exact HRW.out) HLN.out hlo6 ?_; intro v7 w7 hown7 hgr7 hfr7)
     obtain ⟨a7,m7,c7,rfl⟩:=Ji hown7;have hst:=UnI.step (V':=.slice a7 m7 c7) HTI.out HB6.out HA6.out HF6.out hown7 hgr7 hfr7;replace HBX:=Zh hst.2;have HST:=Zh hst.1;clear hown7 hgr7 hfr7 hst HOW HRW hlo6;refine hK.out _ _ trivial (fun hH=>?_);clear hK K
     try simp only[Act.put,ZA,ZB,ZC]
     refine ZT (i:=6) (v:=?vT21_6) rfl (Or.inl ⟨by rfl,?yT21_6⟩) ?_
     case yT21_6=>exact ZyQ
     exact wx13
 ·have hil:¬ (i:Int)<(l.length:Int):=by omega
  obtain rfl:i=l.length:=by omega
  rw[List.take_length] at hnd;have HND:=Zh hnd;have HTI:=Zh hti;have hbx:=hti.box;have hrs:=hti.res;have b0:=Ja hbx 0;have b1:=Ja hbx 1;have b2:=Ja hbx 2;have b3:=Ja hbx 3;have b4:=Ja hbx 4;have z0:=Ja hrs 0;have z1:=Ja hrs 1;have z2:=Ja hrs 2;have z3:=Ja hrs 3;have z4:=Ja hrs 4;simp only[ZD,ZE,ZF] at b0 b1 b2 b3 b4 z0 z1 z2 z3 z4;have y0:=Jc hrs 0;have y1:=Jc hrs 1;have y2:=Jc hrs 2;have y3:=Jc hrs 3;have y4:=Jc hrs 4;clear hi hg hti hbx hrs hnd hkl;go_wp2;refine bodyPost_ret (v:=.agg #[.int .i64 k,.int .i64 nn,.string (bs s),.int .i64 0,.slice va vn vc]) (results_cell_row rfl _ _ rs 119 _ (0,0) _ rfl (blk5Z _ _ _ _ _ HTI.out.res) underlying119 rfl infoNode) rfl ?_;rw[HR.out];exact HTI.out.fin HND.out
theorem V0:∀ n,n≤100000000→∀ (y:Exp) (d:Array Value) (W:World),siz (utN y)≤n→XAt W (In W) y d→Calls prog 96 #[.agg d] W (UtP W y)
 | 0,_,y,d,W,h,_=>by have:=KN (utN y); omega
 | n+1,hn,.mk k nn s l,d,W,h,hx=>by
  rw[utN,JA] at h;obtain ⟨ad,cc,rfl,_,hK⟩:=hx.kids;exact Jcm n (V0 n (by omega)) k nn s l ad cc W (by omega) (by omega) hK
end Go.Proofs.YtncanmdgdflnpaaGreatDoor
