import Derived.Test.YtdlkcjkjnehnkaaGreatDoorG06
namespace Go.Proofs.YtdlkcjkjnehnkaaGreatDoor
open Go Go.Lib
open _root_.Go.Proofs.Tryz
set_option linter.all false
set_option maxRecDepth 100000
set_option maxHeartbeats 32000000
def typT (t:Int):Tok:=tW (if t=1 then kBool else kInt)
def actT (a:Int):Tok:=tW (actName a.toNat)
def fnF (r:RuleM) (n:Int):List UInt8:=(r.funcs.map (·.name)).getD n.toNat []
def iPt:Nat→List Int→List It
 | _,[]=>[]
 | i,t::l=>.t (tS [44])::.s 32::.t (tW (vn (i:Int)))::.t (tS [58])::.s 32::.t (typT t)::iPt (i+1) l
def iP:List Int→List It
 | []=>[]
 | t::l=>.t (tW (vn 0))::.t (tS [58])::.s 32::.t (typT t)::iPt 1 l
def iF (fn:Int→List UInt8) (f:FnM):List It:=
 .t (tW kDef)::.s 32::.t (tW f.name)::.t (tS [40])::(iP f.params++.t (tS [41])::.t (tS [58])::.s 32::.t (typT f.result)::.s 32::.t (tS [61])::.s 32::(iB fn false f.body++[.s 10]))
def iC (fn:Int→List UInt8) (c:ClM):List It:=
 .t (tW kWhen)::.s 32::(iB fn false c.cond++.s 32::.t (tW kThen)::.s 32::.t (actT c.action)::.s 32::.t (tT c.reason)::[.s 10])
def iFs (fn:Int→List UInt8):List FnM→List It
 | []=>[]
 | f::l=>iF fn f++iFs fn l
def iCs (fn:Int→List UInt8):List ClM→List It
 | []=>[]
 | c::l=>iC fn c++iCs fn l
def iR (r:RuleM):List It:=iFs (fnF r) r.funcs++(iCs (fnF r) r.clauses++[.t (tW kDefault),.s 32,.t (actT r.action),.s 10])
def pn:Nat→List Int→List (List UInt8 × Int)
 | _,[]=>[]
 | i,_::l=>(vn (i:Int),0)::pn (i+1) l
def fS (fn:Int→List UInt8) (f:FnM):FnS:=⟨(f.name,0),pn 0 f.params,f.params,f.result,sN fn f.body⟩
def cS (fn:Int→List UInt8) (c:ClM):ClS:=⟨sN fn c.cond,c.action,c.reason⟩
theorem VM {s k:List UInt8} {r:List Tok} (h:s≠k):acc 0 k (tW s::r)=none:=Jck h
theorem Jar {t:Int} (h:typeB t=true) (r:List Tok):typP (typT t::r)=.ok t r:=by
 have:t=0∨t=1:=by unfold typeB at h; simpa using h
 rcases this with rfl | rfl
 ·unfold typP typT;rw[if_neg (by decide),show acc 0 kInt (tW kInt::r)=some r from JK ..]
 ·unfold typP typT;rw[if_pos rfl,VM (by decide)];simp only;rw[show acc 0 kBool (tW kBool::r)=some r from JK ..]
theorem Jfm {a:Int} (h:actB a=true) (r:List Tok):actP (actT a::r)=.ok a r:=by
 have:a=0∨a=1∨a=2∨a=3:=by unfold actB at h; simp at h; omega
 rcases this with rfl | rfl | rfl | rfl
 ·unfold actP;rw[show acc 0 kShow (actT 0::r)=some r from JK ..]
 ·unfold actP;rw[show acc 0 kShow (actT 1::r)=none from VM (s:=kMedia) (by decide)];simp only;rw[show acc 0 kMedia (actT 1::r)=some r from JK ..]
 ·unfold actP;rw[show acc 0 kShow (actT 2::r)=none from VM (s:=kLimit) (by decide)];simp only;rw[show acc 0 kMedia (actT 2::r)=none from VM (s:=kLimit) (by decide)];simp only;rw[show acc 0 kLimit (actT 2::r)=some r from JK ..]
 ·unfold actP;rw[show acc 0 kShow (actT 3::r)=none from VM (s:=kHide) (by decide)];simp only;rw[show acc 0 kMedia (actT 3::r)=none from VM (s:=kHide) (by decide)];simp only;rw[show acc 0 kLimit (actT 3::r)=none from VM (s:=kHide) (by decide)];simp only;rw[show acc 0 kHide (actT 3::r)=some r from JK ..]
theorem JhC {s k:List UInt8} {r:List Tok} (h:s≠k):acc 3 k (tS s::r)=none:=Kn fun e=>h e.2
theorem ZX:∀ (l:List Int) (i:Nat) (t:Int) (ps:List (List UInt8 × Int)) (ts:List Int) (rest:List Tok) (f:Nat),l.length+1≤f→typeB t=true→l.all typeB=true→i+l.length<big→
  paramsP f ps ts (tW (vn (i:Int))::tS [58]::typT t::(tk (iPt (i+1) l)++tS [41]::rest))=.ok (ps++pn i (t::l),ts++t::l) rest
 | [],i,t,ps,ts,rest,f,hf,ht,_,hi=>by
  obtain ⟨g,rfl⟩:∃ g,f=g+1:=⟨f-1,by simp at hf; omega⟩
  rw[paramsP,Kx (KH (by omega) (by simp at hi; omega)),Jj,show accept 3 [58] (tS [58]::typT t::(tk (iPt (i+1) [])++tS [41]::rest))=.ok () _ from Jy ..,Jj,Jar ht,Jj];rw[show tk (iPt (i+1) [])++tS [41]::rest=tS [41]::rest from rfl,JhC (by decide)];simp only;rw[show accept 3 [41] (tS [41]::rest)=.ok () rest from Jy ..,Jj];rfl
 | u::l,i,t,ps,ts,rest,f,hf,ht,hl,hi=>by
  obtain ⟨g,rfl⟩:∃ g,f=g+1:=⟨f-1,by simp at hf; omega⟩
  simp only[List.length_cons] at hf hi;rw[List.all_cons,Bool.and_eq_true] at hl;rw[paramsP,Kx (KH (by omega) (by omega)),Jj,show accept 3 [58] (tS [58]::typT t::(tk (iPt (i+1) (u::l))++tS [41]::rest))=.ok () _ from Jy ..,Jj,Jar ht,Jj];rw[show tk (iPt (i+1) (u::l))++tS [41]::rest=tS [44]::tW (vn ((i+1:Nat):Int))::tS [58]::typT u::(tk (iPt (i+1+1) l)++tS [41]::rest) from rfl];rw[show acc 3 [44] (tS [44]::tW (vn ((i+1:Nat):Int))::tS [58]::typT u::(tk (iPt (i+1+1) l)++tS [41]::rest))=some _ from JK ..];simp only;rw[ZX l (i+1) u (ps++[(vn (i:Int),0)]) (ts++[t]) rest g (by omega) hl.1 hl.2 (by omega)];simp[pn]
structure FnFit (fn:Int→List UInt8) (pa:List Nat) (f:FnM):Prop where
 name:identB f.name=true
 types:f.params.all typeB=true
 result:typeB f.result=true
 few:f.params.length+40≤big
 fits:fitsN pa f.params.length 40 f.body=true
theorem JjM {fn:Int→List UInt8} {pa:List Nat} (hf:FnOk fn pa.length) {f:FnM} (h:FnFit fn pa f) {rest:List Tok} (hr:Ro 0 rest) {g:Nat} (hg:12*(tk (iF fn f)++rest).length+12≤g) (hg2:f.params.length+1≤g) :
  funP g ((tk (iF fn f)++rest).tail)=.ok (fS fn f) rest:=by
 have e0:tk (iF fn f)++rest=tW kDef::tW f.name::tS [40]::(tk (iP f.params)++tS [41]::tS [58]::typT f.result::tS [61]::(tk (iB fn false f.body)++rest)):=by
  unfold iF;exact bx69
 have hb:pM g .expr (tk (iB fn false f.body)++rest)=.ok (sN fn f.body) rest:=by
  refine ((KD hf f.body f.params.length 40 h.fits h.few).expr hr).at ?_;rw[e0] at hg;simp only[List.length_cons,List.length_append] at hg ⊢;omega
 rw[e0,List.tail_cons];unfold funP;rw[Kx h.name,Jj,show accept 3 [40] (tS [40]::(tk (iP f.params)++tS [41]::tS [58]::typT f.result::tS [61]::(tk (iB fn false f.body)++rest)))=.ok () _ from Jy ..,Jj]
 have hp:(f.params=[]∧acc 3 [41] (tk (iP f.params)++tS [41]::tS [58]::typT f.result::tS [61]::(tk (iB fn false f.body)++rest))=some (tS [58]::typT f.result::tS [61]::(tk (iB fn false f.body)++rest)))∨
   (acc 3 [41] (tk (iP f.params)++tS [41]::tS [58]::typT f.result::tS [61]::(tk (iB fn false f.body)++rest))=none∧paramsP g [] [] (tk (iP f.params)++tS [41]::tS [58]::typT f.result::tS [61]::(tk (iB fn false f.body)++rest))=.ok (pn 0 f.params,f.params) (tS [58]::typT f.result::tS [61]::(tk (iB fn false f.body)++rest))):=by
  have ht:=h.types;have hfew:=h.few
  cases hps:f.params with
  | nil=>exact .inl ⟨rfl,JK ..⟩
  | cons t l=>
   rw[hps] at ht hfew hg2;rw[List.all_cons,Bool.and_eq_true] at ht;simp only[List.length_cons] at hfew hg2;refine .inr ⟨ZP,?_⟩;rw[show tk (iP (t::l))++tS [41]::tS [58]::typT f.result::tS [61]::(tk (iB fn false f.body)++rest)=tW (vn ((0:Nat):Int))::tS [58]::typT t::(tk (iPt (0+1) l)++tS [41]::tS [58]::typT f.result::tS [61]::(tk (iB fn false f.body)++rest)) from rfl];have:=ZX l 0 t [] [] (tS [58]::typT f.result::tS [61]::(tk (iB fn false f.body)++rest)) g (by omega) ht.1 ht.2 (by omega);rw[this];rfl
 rcases hp with ⟨hp0,hp⟩ | ⟨hp,hp2⟩
 ·rw[hp];simp only;rw[Jj,show accept 3 [58] (tS [58]::typT f.result::tS [61]::(tk (iB fn false f.body)++rest))=.ok () _ from Jy ..,Jj,Jar h.result,Jj,show accept 3 [61] (tS [61]::(tk (iB fn false f.body)++rest))=.ok () _ from Jy ..,Jj,hb,Jj];unfold fS;rw[hp0];rfl
 ·rw[hp];simp only;rw[hp2,Jj,show accept 3 [58] (tS [58]::typT f.result::tS [61]::(tk (iB fn false f.body)++rest))=.ok () _ from Jy ..,Jj,Jar h.result,Jj,show accept 3 [61] (tS [61]::(tk (iB fn false f.body)++rest))=.ok () _ from Jy ..,Jj,hb,Jj];rfl
def Ends (rest:List Tok):Prop:=∃ s r,rest=tW s::r∧(s=kDef∨s=kWhen∨s=kDefault)
theorem Ends.ro {rest:List Tok} (h:Ends rest):Ro 0 rest:=by
 obtain ⟨s,r,rfl,h⟩:=h
 rcases h with rfl | rfl | rfl <;> exact YT 0 r (by decide) (by decide)
theorem Jfn {fn:Int→List UInt8} (l:List FnM) {rest:List Tok} (h:Ends rest):Ends (tk (iFs fn l)++rest):=by
 cases l with
 | nil=>exact h
 | cons f l=>exact ⟨kDef,_,by rw[iFs]; unfold iF; rfl,.inl rfl⟩
theorem Jdt {fn:Int→List UInt8} {pa:List Nat} (hf:FnOk fn pa.length) {g:Nat}:∀ (l:List FnM) (ac:List FnS) (rest:List Tok) (f:Nat),(∀ x∈l,FnFit fn pa x)→(∀ x∈l,x.params.length+1≤g)→l.length+1≤f→
  12*(tk (iFs fn l)++rest).length+12≤g→(∃ s r,rest=tW s::r∧(s=kWhen∨s=kDefault))→funsP g f ac (tk (iFs fn l)++rest)=.ok (ac++l.map (fS fn)) rest
 | [],ac,rest,f,_,_,hl,_,hr=>by
  obtain ⟨g',rfl⟩:∃ g',f=g'+1:=⟨f-1,by simp at hl; omega⟩
  obtain ⟨s,r,rfl,hs⟩:=hr;rw[funsP,show tk (iFs fn [])++tW s::r=tW s::r from rfl,VM (by rcases hs with rfl | rfl <;> decide)];simp
 | x::l,ac,rest,f,hx,hx2,hl,hg,hr=>by
  obtain ⟨g',rfl⟩:∃ g',f=g'+1:=⟨f-1,by simp at hl; omega⟩
  simp only[List.length_cons] at hl;have hE:Ends rest:=by obtain ⟨s,r,rfl,hs⟩:=hr; exact ⟨s,r,rfl,.inr hs⟩
  have e1:tk (iFs fn (x::l))++rest=tk (iF fn x)++(tk (iFs fn l)++rest):=by rw[iFs,KZ,List.append_assoc]
  rw[e1] at hg ⊢;have e2:tk (iF fn x)++(tk (iFs fn l)++rest)=tW kDef::(tk (iF fn x)++(tk (iFs fn l)++rest)).tail:=by unfold iF; rfl
  have h1:=JjM hf (hx x (by simp)) (Jfn (fn:=fn) l hE).ro hg (hx2 x (by simp));rw[funsP,e2,show acc 0 kDef (tW kDef::(tk (iF fn x)++(tk (iFs fn l)++rest)).tail)=some _ from JK ..];simp only;rw[h1,Jj,Jdt hf l (ac++[fS fn x]) rest g' (fun y hy=>hx y (by simp[hy])) (fun y hy=>hx2 y (by simp[hy])) (by omega) (by simp only[List.length_append] at hg ⊢; omega) hr];simp
structure ClFit (pa:List Nat) (c:ClM):Prop where
 act:actB c.action=true
 fits:fitsN pa 0 40 c.cond=true
theorem Jfo {fn:Int→List UInt8} {pa:List Nat} (hf:FnOk fn pa.length) {g:Nat}:∀ (l:List ClM) (ac:List ClS) (rest:List Tok) (f:Nat),(∀ x∈l,ClFit pa x)→l.length+1≤f→
  12*(tk (iCs fn l)++rest).length+12≤g→(∃ r,rest=tW kDefault::r)→clausesP g f ac (tk (iCs fn l)++rest)=.ok (ac++l.map (cS fn)) rest
 | [],ac,rest,f,_,hl,_,hr=>by
  obtain ⟨g',rfl⟩:∃ g',f=g'+1:=⟨f-1,by simp at hl; omega⟩
  obtain ⟨r,rfl⟩:=hr;rw[clausesP,show tk (iCs fn [])++tW kDefault::r=tW kDefault::r from rfl,VM (by decide)];simp
 | x::l,ac,rest,f,hx,hl,hg,hr=>by
  obtain ⟨g',rfl⟩:∃ g',f=g'+1:=⟨f-1,by simp at hl; omega⟩
  simp only[List.length_cons] at hl
  have e1:tk (iCs fn (x::l))++rest=tW kWhen::(tk (iB fn false x.cond)++tW kThen::actT x.action::tT x.reason::(tk (iCs fn l)++rest)):=by
   rw[iCs];unfold iC;exact bx69
  rw[e1] at hg ⊢
  have hb:pM g .expr (tk (iB fn false x.cond)++tW kThen::actT x.action::tT x.reason::(tk (iCs fn l)++rest))=.ok (sN fn x.cond) (tW kThen::actT x.action::tT x.reason::(tk (iCs fn l)++rest)):=by
   refine ((KD hf x.cond 0 40 (hx x (by simp)).fits (by decide)).expr (YT 0 _ (by decide) (by decide))).at ?_;simp only[List.length_cons,List.length_append] at hg ⊢;omega
  rw[clausesP,show acc 0 kWhen (tW kWhen::(tk (iB fn false x.cond)++tW kThen::actT x.action::tT x.reason::(tk (iCs fn l)++rest)))=some _ from JK ..];simp only;rw[hb,Jj,show accept 0 kThen (tW kThen::actT x.action::tT x.reason::(tk (iCs fn l)++rest))=.ok () _ from Jy ..,Jj,Jfm (hx x (by simp)).act,Jj];rw[show textP (tT x.reason::(tk (iCs fn l)++rest))=.ok x.reason (tk (iCs fn l)++rest) from rfl,Jj];have ih:=Jfo hf (g:=g) l (ac++[(⟨sN fn x.cond,x.action,x.reason⟩:ClS)]) rest g' (fun y hy=>hx y (by simp[hy])) (by omega) (by simp only[List.length_cons,List.length_append] at hg ⊢; omega) hr;rw[ih];simp[cS]
def srcO (r:RuleM):Src:=⟨r.funcs.map (fS (fnF r)),r.clauses.map (cS (fnF r)),r.action⟩
theorem Jfp (fn:Int→List UInt8):∀ l:List FnM,(l.length≤(tk (iFs fn l)).length)∧∀ x∈l,x.params.length≤(tk (iFs fn l)).length
 | []=>⟨by simp,fun x hx=>by cases hx⟩
 | f::l=>by
  obtain ⟨h1,h2⟩:=Jfp fn l
  have hp:∀ (l:List Int) (i:Nat),l.length≤(tk (iPt i l)).length:=by
   intro l
   induction l with
   | nil=>intro i; simp
   | cons t l ih=>intro i; have:=ih (i+1); rw[iPt]; simp only[tk_t,tk_s,List.length_cons] at *; omega
  have hp2:f.params.length≤(tk (iP f.params)).length:=by
   cases f.params with
   | nil=>simp
   | cons t l=>have:=hp l 1; rw[iP]; simp only[tk_t,tk_s,List.length_cons] at *; omega
  have e:(tk (iFs fn (f::l))).length=(tk (iF fn f)).length+(tk (iFs fn l)).length:=by rw[iFs,KZ,List.length_append]
  have e2:(tk (iF fn f)).length≥1+(tk (iP f.params)).length:=by
   unfold iF;simp only[tk_t,tk_s,KZ,Jdl,List.length_cons,List.length_append];omega
  refine ⟨by rw[e]; simp only[List.length_cons]; omega,fun x hx=>?_⟩;rw[e]
  rcases List.mem_cons.1 hx with rfl | hx
  ·omega
  ·have:=h2 x hx; omega
theorem Jfq (fn:Int→List UInt8):∀ l:List ClM,l.length≤(tk (iCs fn l)).length
 | []=>by simp
 | c::l=>by
  have h1:=Jfq fn l;have e:(tk (iCs fn (c::l))).length=(tk (iC fn c)).length+(tk (iCs fn l)).length:=by rw[iCs,KZ,List.length_append]
  have e2:(tk (iC fn c)).length≥1:=by
   unfold iC;simp only[tk_t,tk_s,KZ,Jdl,List.length_cons,List.length_append];omega
  rw[e]; simp only[List.length_cons]; omega
theorem JjN {r:RuleM} (hf:FnOk (fnF r) r.pa.length) (h1:∀ x∈r.funcs,FnFit (fnF r) r.pa x) (h2:∀ x∈r.clauses,ClFit r.pa x) (h3:actB r.action=true) {e:Tok} (he:e.kind=4) {f:Nat} (hg:12*(tk (iR r)++[e]).length+12≤f) :
  srcP f (tk (iR r)++[e])=.ok (srcO r) [e]:=by
 have e0:tk (iR r)++[e]=tk (iFs (fnF r) r.funcs)++(tk (iCs (fnF r) r.clauses)++(tW kDefault::actT r.action::[e])):=by
  unfold iR;exact bx69
 rw[e0] at hg ⊢;have hl1:=Jfp (fnF r) r.funcs;have hl2:=Jfq (fnF r) r.clauses;have hg':=hg;simp only[List.length_append] at hg';unfold srcP
 have hE:∃ s r',tk (iCs (fnF r) r.clauses)++(tW kDefault::actT r.action::[e])=tW s::r'∧(s=kWhen∨s=kDefault):=by
  cases r.clauses with
  | nil=>exact ⟨kDefault,_,rfl,.inr rfl⟩
  | cons c l=>exact ⟨kWhen,_,by rw[iCs]; unfold iC; rfl,.inl rfl⟩
 rw[Jdt hf r.funcs [] _ f h1 (fun x hx=>by have:=hl1.2 x hx; omega) (by omega) hg hE,Jj];rw[Jfo hf r.clauses [] _ f h2 (by omega) (by simp only[List.length_append]; omega) ⟨_,rfl⟩,Jj];rw[show accept 0 kDefault (tW kDefault::actT r.action::[e])=.ok () _ from Jy ..,Jj,Jfm h3,Jj];rw[if_pos (show (hd [e]).kind=4 from he)];rfl
theorem Yw:∀ {l:List FnM} {seen:List (List UInt8)},namesM seen l=true→(∀ f∈l,identB f.name=true∧typeB f.result=true∧f.params.all typeB=true∧f.name∉seen)∧(l.map (·.name)).Nodup
 | [],_,_=>⟨fun f hf=>(by cases hf),List.nodup_nil⟩
 | f::l,seen,h=>by
  rw[namesM] at h;simp only[Bool.and_eq_true,Bool.not_eq_true',decide_eq_false_iff_not] at h;obtain ⟨⟨⟨⟨h1,h2⟩,h3⟩,h4⟩,h5⟩:=h;obtain ⟨g1,g2⟩:=Yw h5;refine ⟨fun x hx=>?_,?_⟩
  ·rcases List.mem_cons.1 hx with rfl | hx
   ·exact ⟨h1,h3,h4,h2⟩
   ·obtain ⟨a,b,c,d⟩:=g1 x hx;exact ⟨a,b,c,fun hm=>d (by simp[hm])⟩
  ·rw[List.map_cons,List.nodup_cons];refine ⟨fun hm=>?_,g2⟩;obtain ⟨x,hx,e⟩:=List.mem_map.1 hm;exact (g1 x hx).2.2.2 (by simp[e])
theorem Jas:∀ {l:List (List UInt8 × Int)} {seen:List (List UInt8)},(l.map (·.1)).Nodup→(∀ x∈l,x.1∉seen)→dupl l seen=[]
 | [],_,_,_=>by rw[dupl]
 | (s,o)::l,seen,h,hs=>by
  rw[List.map_cons,List.nodup_cons] at h;rw[dupl,if_neg (hs (s,o) (by simp)),Jas h.2 fun x hx hm=>?_]
  ·rfl
  ·rcases List.mem_append.1 hm with hm | hm
   ·exact hs x (by simp[hx]) hm
   ·simp only[List.mem_cons,List.not_mem_nil,or_false] at hm;have hmem:=List.mem_map_of_mem (f:=fun y:List UInt8 × Int=>y.1) hx;rw[hm] at hmem;exact h.1 hmem
theorem JiZ:∀ (l:List Int) (i:Nat),(pn i l).map (·.1)=(List.range' i l.length).map fun (j:Nat)=>vn (j:Int)
 | [],_=>rfl
 | t::l,i=>by rw[pn,List.map_cons,JiZ l (i+1),List.length_cons,List.range'_succ,List.map_cons]
theorem Jfr (l:List Int):(pn 0 l).map (·.1)=vars l.length:=by rw[JiZ,vars,List.range_eq_range']
theorem ZY:∀ nv,nv≤big→(vars nv).Nodup
 | 0,_=>by simp[vars]
 | nv+1,h=>by
  rw[YU,List.nodup_append];refine ⟨ZY nv (by omega),by simp,fun a ha b hb=>?_⟩;simp only[List.mem_cons,List.not_mem_nil,or_false] at hb;subst hb;unfold vars at ha;obtain ⟨i,hi,rfl⟩:=List.mem_map.1 ha;have:=List.mem_range.1 hi;intro e;have:=JiY (by omega) (by omega) (by omega) (by omega) e;omega
def RFew (r:RuleM):Prop:=∀ f∈r.funcs,f.params.length+40≤big
theorem KA {r:RuleM} (h:rightM r=true):namesM [] r.funcs=true∧clsM r.clauses=true∧actB r.action=true∧treesM r=true∧typedM r=true:=by
 unfold rightM at h;simp only[Bool.and_eq_true] at h;exact ⟨h.1.1.1.1,h.1.1.1.2,h.1.1.2,h.1.2,h.2⟩
theorem Jln {r:RuleM} (h:rightM r=true):FnOk (fnF r) r.pa.length∧FnAt (fnF r) (r.funcs.map (·.name)):=by
 obtain ⟨h1,h2,h3,h4,h5⟩:=KA h;obtain ⟨g1,g2⟩:=Yw h1
 have hget:∀ n:Int,0≤n→n<(r.funcs.length:Int)→∃ f∈r.funcs,r.funcs[n.toNat]?=some f∧fnF r n=f.name:=fun n h0 hn=>by
  have hl:n.toNat<r.funcs.length:=by omega
  have hg:=List.getElem?_eq_getElem hl;refine ⟨_,List.getElem_mem hl,hg,?_⟩;unfold fnF;rw[List.getD_eq_getElem?_getD,List.getElem?_map,hg];rfl
 refine ⟨fun n h0 hn=>?_,g2,fun n h0 hn=>?_⟩
 ·have e:r.pa.length=r.funcs.length:=by simp[RuleM.pa]
  obtain ⟨f,hf,_,e2⟩:=hget n h0 (by omega);rw[e2];exact (g1 f hf).1
 ·rw[List.length_map] at hn;obtain ⟨f,hf,q1,e2⟩:=hget n h0 hn;rw[List.getElem?_map,q1,e2];rfl
theorem Jco {r:RuleM} (h:rightM r=true) (hw:RFew r):(∀ x∈r.funcs,FnFit (fnF r) r.pa x)∧∀ x∈r.clauses,ClFit r.pa x:=by
 obtain ⟨h1,h2,h3,h4,h5⟩:=KA h;obtain ⟨g1,g2⟩:=Yw h1;unfold treesM at h4;rw[Bool.and_eq_true,List.all_eq_true,List.all_eq_true] at h4;unfold clsM at h2;rw[List.all_eq_true] at h2;refine ⟨fun x hx=>?_,fun x hx=>?_⟩
 ·obtain ⟨a,b,c,_⟩:=g1 x hx;exact ⟨a,c,b,hw x hx,h4.1 x hx⟩
 ·have:=h2 x hx;rw[Bool.and_eq_true] at this;exact ⟨this.1,h4.2 x hx⟩
theorem flatten_nil {α β:Type} (l:List α) (f:α→List β) (h:∀ x∈l,f x=[]):(l.map f).flatten=[]:=by
 induction l with
 | nil=>rfl
 | cons a l ih=>rw[List.map_cons,List.flatten_cons,h a (by simp),ih fun x hx=>h x (by simp[hx])]; rfl
theorem bx125 {P:Prop}(h:P:=by
  refine (List.map_congr_left (g:=id) fun x hx=>?_).trans (List.map_id _)
  simp only[Function.comp,Jfk,id]):P:=h
theorem Jej {r:RuleM} (h:rightM r=true) (hw:RFew r) {e:Tok} (he:e.kind=4) {f:Nat} (hg:12*(tk (iR r)++[e]).length+12≤f):parseT f (tk (iR r)++[e])=some (r,0,0):=by
 obtain ⟨hfn,hat⟩:=Jln h;obtain ⟨hF,hC⟩:=Jco h hw;obtain ⟨h1,h2,h3,h4,h5⟩:=KA h;obtain ⟨g1,g2⟩:=Yw h1;have hpa:r.pa.length=(r.funcs.map (·.name)).length:=by simp[RuleM.pa]
 have rF:∀ x∈r.funcs,resN (r.funcs.map (·.name)) (vars x.params.length) (sN (fnF r) x.body)=(utN x.body,[])∧nest (sN (fnF r) x.body)≤40:=fun x hx=>
  VL hat hpa x.body x.params.length 40 (hF x hx).fits (hF x hx).few
 have rC:∀ x∈r.clauses,resN (r.funcs.map (·.name)) [] (sN (fnF r) x.cond)=(utN x.cond,[])∧nest (sN (fnF r) x.cond)≤40:=fun x hx=>
  VL hat hpa x.cond 0 40 (hC x hx).fits (by decide)
 have hfs:(srcO r).funcs.map (·.name.1)=r.funcs.map (·.name):=by
  unfold srcO; rw[List.map_map]; rfl
 unfold parseT;rw[JjN hfn hF hC h3 he hg];simp only
 have hlim:limitM (srcO r)=none:=by
  unfold limitM;rw[List.find?_eq_none.2]
  ·rfl
  intro a ha;unfold Src.roots srcO at ha;simp only[List.map_map,List.mem_append,List.mem_map,Function.comp] at ha
  rcases ha with ⟨x,hx,rfl⟩ | ⟨x,hx,rfl⟩
  ·have:=(rF x hx).2;intro hd;exact absurd (of_decide_eq_true hd) (Nat.not_lt.2 this)
  ·have:=(rC x hx).2;intro hd;exact absurd (of_decide_eq_true hd) (Nat.not_lt.2 this)
 rw[hlim];simp only
 have hresF:∀ x∈r.funcs,resF (r.funcs.map (·.name)) (fS (fnF r) x)=(⟨(x.name,0),pn 0 x.params,x.params,x.result,utN x.body⟩,[]):=fun x hx=>by
  unfold resF fS;simp only[Jfr,(rF x hx).1];rw[Jas (by rw[Jfr]; exact ZY _ (by have:=(hF x hx).few; omega)) fun _ _ hm=>by cases hm];rfl
 have hresC:∀ x∈r.clauses,resC (r.funcs.map (·.name)) (cS (fnF r) x)=(⟨utN x.cond,x.action,x.reason⟩,[]):=fun x hx=>by
  unfold resC cS;simp only[(rC x hx).1]
 have hR:resolveM (srcO r)=(⟨r.funcs.map fun x=>⟨(x.name,0),pn 0 x.params,x.params,x.result,utN x.body⟩,r.clauses.map fun x=>⟨utN x.cond,x.action,x.reason⟩,r.action⟩,[]):=by
  unfold resolveM;simp only[hfs]
  have hd:dupl ((srcO r).funcs.map (·.name)) []=[]:=by
   refine Jas ?_ fun _ _ hm=>by cases hm
   rw[List.map_map];have:((fun x:List UInt8 × Int=>x.1)∘fun x:FnS=>x.name)=fun x:FnS=>x.name.1:=rfl
   rw[this,hfs];exact g2
  rw[hd];unfold srcO;simp only[List.map_map,List.nil_append];rw[flatten_nil r.funcs _ fun x hx=>by simp only[Function.comp,hresF x hx],flatten_nil r.clauses _ fun x hx=>by simp only[Function.comp,hresC x hx]];refine congrArg (fun z=>(z,([]:List Int))) ?_
  congr 1
  ·exact List.map_congr_left fun x hx=>by simp only[Function.comp,hresF x hx]
  ·exact List.map_congr_left fun x hx=>by simp only[Function.comp,hresC x hx]
 rw[hR];simp only[least];unfold typedM at h5;rw[Bool.and_eq_true,List.all_eq_true,List.all_eq_true] at h5
 have hchk:checkM ⟨r.funcs.map fun x=>⟨(x.name,0),pn 0 x.params,x.params,x.result,utN x.body⟩,r.clauses.map fun x=>⟨utN x.cond,x.action,x.reason⟩,r.action⟩=[]:=by
  unfold checkM;simp only[List.map_map];have hsig:r.funcs.map ((fun f:FnS=>(⟨f.types,f.result⟩:SigM))∘fun x=>⟨(x.name,0),pn 0 x.params,x.params,x.result,utN x.body⟩)=r.sigs:=rfl;rw[hsig,flatten_nil r.funcs _ fun x hx=>by simpa using h5.1 x hx,flatten_nil r.clauses _ fun x hx=>by simpa using h5.2 x hx];rfl
 rw[hchk];simp only[least];unfold ruleOf;simp only[List.map_map]
 have e1:r.funcs.map ((fun f:FnS=>(⟨f.name.1,f.types,f.result,treeN f.body⟩:FnM))∘fun x=>⟨(x.name,0),pn 0 x.params,x.params,x.result,utN x.body⟩)=r.funcs:=by
  exact bx125
 have e2:r.clauses.map ((fun c:ClS=>(⟨treeN c.cond,c.action,c.reason⟩:ClM))∘fun x=>⟨utN x.cond,x.action,x.reason⟩)=r.clauses:=by
  exact bx125
 rw[e1,e2]
def WordOk (s:List UInt8):Prop:=s.length≤24∧(∃ c r,s=c::r∧isLe c=true)∧∀ c∈s,isWo c=true
def signs:List (List UInt8):=[[40],[41],[44],[58],[61],[60],[62],[43],[45],[42],[47],[37],[61,61],[33,61],[60,61],[62,61]]
def Tk1 (t:Tok):Prop:=(∃ s,t=tW s∧WordOk s)∨(∃ n,t=tI n∧0≤n∧n≤1125899906842624)∨(∃ s,t=tT s∧textB s=true)∨∃ s,t=tS s∧s∈signs
def Safe (r:List UInt8):Prop:=r.head?.map isWo≠some true
def Nx (t:Tok) (r:List UInt8):Prop:=(t.kind=0∨t.kind=1→Safe r)∧(t.kind=3→t.text=[61]∨t.text=[60]∨t.text=[62]→r.head?≠some 61)
theorem Jml {c:UInt8} (h:isLe c=true):isSp c=false:=by
 cases hs:isSp c with
 | false=>rfl
 | true=>rcases JbV hs with rfl | rfl | rfl | rfl <;> exact absurd h (by decide)
theorem JhD {s r:List UInt8} (h:WordOk s) (hr:Safe r):tokF (s++r)=some (tW s,s.length)∧∃ c q,s=c::q∧isSp c=false:=by
 obtain ⟨h1,⟨c,q,rfl,h2⟩,h3⟩:=h;refine ⟨?_,c,q,rfl,Jml h2⟩;have hw:=Vz (w:=c::q) h3 hr;rw[List.cons_append] at hw ⊢;unfold tokF;simp only[h2,if_true,hw];rw[if_pos h1];rfl
theorem JjO {n:Int} {r:List UInt8} (h0:0≤n) (h1:n≤1125899906842624) (hr:Safe r):tokF (itoa n++r)=some (tI n,(itoa n).length)∧∃ c q,itoa n=c::q∧isSp c=false:=by
 have hi:itoa n=decDigits n.toNat:=by
  rcases V6 n with h | h
  ·exact h.2
  ·omega
 cases hd:decDigits n.toNat with
 | nil=>exact absurd hd (V5 _)
 | cons c q=>
  have hall:=JbT n.toNat;rw[hd] at hall;obtain ⟨w1,w2,w3,w4⟩:=JiU (hall c (by simp));rw[hi,hd];refine ⟨?_,c,q,rfl,w4⟩;have hw:=Vz (w:=c::q) (fun x hx=>(JiU (hall x hx)).1) hr;rw[List.cons_append] at hw ⊢;unfold tokF;simp only[w2,w3,hw];have hp:parseI (c::q) 0 1125899906842624=some n:=Jhp (by rw[hi,hd]) ⟨by omega,by omega⟩ h0 h1;rw[hp];rfl
theorem Jek:∀ (w:List UInt8) (f:Nat) (r:List UInt8),(∀ c∈w,printB c=true)→w.length+1≤f→textF f (w++34::r)=some w:=by
 intro w f r h hf;refine Jeb f (w++[34]) w r ?_;rw[JbY w f h,if_pos hf]
theorem ZZ {s:List UInt8} (h:textB s=true):(∀ c∈s,printB c=true)∧s.length≤24:=by
 unfold textB at h;rw[Bool.and_eq_true,decide_eq_true_eq,List.all_eq_true] at h;exact ⟨fun c hc=>h.1 c hc,h.2⟩
theorem Jfs {s r:List UInt8} (h:textB s=true):tokF (34::(s++[34])++r)=some (tT s,(34::(s++[34])).length):=by
 obtain ⟨h1,h2⟩:=ZZ h;have ht:=Jek s 25 r h1 (by omega);rw[show 34::(s++[34])++r=34::(s++34::r) by simp];unfold tokF;simp only;rw[if_neg (by decide),if_neg (by decide),if_pos trivial,ht];simp[tT]
theorem JhE {c:UInt8} (hc:c∈short1) (h:c≠33) {r:List UInt8} (hr:c=61∨c=60∨c=62→r.head?≠some 61):signL (c::r)=[c]:=by
 unfold signL;rw[if_neg,if_neg (by simp),if_pos (show (c::r).headD 0∈short1 from hc)]
 ·rfl
 ·intro hm;rw[take2] at hm
  cases r with
  | nil=>simp[long2] at hm
  | cons d r=>
   simp only[long2,List.head?_cons,Option.toList,List.mem_cons,List.not_mem_nil,or_false,List.cons.injEq,and_true] at hm hr
   rcases hm with ⟨rfl,rfl⟩ | ⟨rfl,rfl⟩ | ⟨rfl,rfl⟩ | ⟨rfl,rfl⟩
   ·exact hr (.inl rfl) rfl
   ·exact h rfl
   ·exact hr (.inr (.inl rfl)) rfl
   ·exact hr (.inr (.inr rfl)) rfl
theorem Yx {a b:UInt8} (h:[a,b]∈long2) (r:List UInt8):signL (a::b::r)=[a,b]:=by
 unfold signL;rw[show (a::b::r).take 2=[a,b] from rfl,if_pos h]
theorem JjP {s r:List UInt8} (hs:s∈signs) (hr:s=[61]∨s=[60]∨s=[62]→r.head?≠some 61):tokF (s++r)=some (tS s,s.length)∧∃ c q,s=c::q∧isSp c=false:=by
 have key:∀ (c:UInt8) (q:List UInt8),isLe c=false→isDi c=false→c≠34→isSp c=false→signL (c::q++r)=c::q→tokF (c::q++r)=some (tS (c::q),(c::q).length)∧∃ c' q',c::q=c'::q'∧isSp c'=false:=by
  intro c q h1 h2 h3 h4 h5;refine ⟨?_,c,q,rfl,h4⟩;rw[List.cons_append] at h5 ⊢;unfold tokF;simp only;rw[if_neg (by rw[h1]; decide),if_neg (by rw[h2]; decide),if_neg h3,h5,if_neg (by simp)];rfl
 simp only[signs,List.mem_cons,List.not_mem_nil,or_false] at hs;have one:∀ c:UInt8,c∈short1→c≠33→(c=61∨c=60∨c=62→r.head?≠some 61)→signL ([c]++r)=[c]:=fun c h1 h2 h3=>JhE h1 h2 h3
 have none':∀ c:UInt8,¬ (c=61∨c=60∨c=62)→(c=61∨c=60∨c=62→r.head?≠some 61):=fun c h h'=>absurd h' h
 rcases hs with rfl | rfl | rfl | rfl | rfl | rfl | rfl | rfl | rfl | rfl | rfl | rfl | rfl | rfl | rfl | rfl
 ·exact key 40 [] (by decide) (by decide) (by decide) (by decide) (one 40 (by decide) (by decide) (none' 40 (by decide)))
 ·exact key 41 [] (by decide) (by decide) (by decide) (by decide) (one 41 (by decide) (by decide) (none' 41 (by decide)))
 ·exact key 44 [] (by decide) (by decide) (by decide) (by decide) (one 44 (by decide) (by decide) (none' 44 (by decide)))
 ·exact key 58 [] (by decide) (by decide) (by decide) (by decide) (one 58 (by decide) (by decide) (none' 58 (by decide)))
 ·exact key 61 [] (by decide) (by decide) (by decide) (by decide) (one 61 (by decide) (by decide) fun _=>hr (by decide))
 ·exact key 60 [] (by decide) (by decide) (by decide) (by decide) (one 60 (by decide) (by decide) fun _=>hr (by decide))
 ·exact key 62 [] (by decide) (by decide) (by decide) (by decide) (one 62 (by decide) (by decide) fun _=>hr (by decide))
 ·exact key 43 [] (by decide) (by decide) (by decide) (by decide) (one 43 (by decide) (by decide) (none' 43 (by decide)))
 ·exact key 45 [] (by decide) (by decide) (by decide) (by decide) (one 45 (by decide) (by decide) (none' 45 (by decide)))
 ·exact key 42 [] (by decide) (by decide) (by decide) (by decide) (one 42 (by decide) (by decide) (none' 42 (by decide)))
 ·exact key 47 [] (by decide) (by decide) (by decide) (by decide) (one 47 (by decide) (by decide) (none' 47 (by decide)))
 ·exact key 37 [] (by decide) (by decide) (by decide) (by decide) (one 37 (by decide) (by decide) (none' 37 (by decide)))
 ·exact key 61 [61] (by decide) (by decide) (by decide) (by decide) (Yx (by decide) r)
 ·exact key 33 [61] (by decide) (by decide) (by decide) (by decide) (Yx (by decide) r)
 ·exact key 60 [61] (by decide) (by decide) (by decide) (by decide) (Yx (by decide) r)
 ·exact key 62 [61] (by decide) (by decide) (by decide) (by decide) (Yx (by decide) r)
theorem Jlo {t:Tok} {r:List UInt8} (h:Tk1 t) (hr:Nx t r):tokF (wr t++r)=some (t,(wr t).length)∧(∃ c q,wr t=c::q∧isSp c=false)∧t.off=0:=by
 rcases h with ⟨s,rfl,h⟩ | ⟨n,rfl,h0,h1⟩ | ⟨s,rfl,h⟩ | ⟨s,rfl,h⟩
 ·have:=JhD h (hr.1 (.inl rfl));exact ⟨this.1,this.2,rfl⟩
 ·have:=JjO h0 h1 (hr.1 (.inr rfl));exact ⟨this.1,this.2,rfl⟩
 ·exact ⟨Jfs h,⟨34,_,rfl,by decide⟩,rfl⟩
 ·have:=JjP h (hr.2 rfl);exact ⟨this.1,this.2,rfl⟩
def Ch:List It→Prop
 | []=>True
 | .s c::l=>isSp c=true∧Ch l
 | .t x::l=>Tk1 x∧Nx x (flat l)∧Ch l
theorem Jcp:∀ (l:List It) (k:Nat),Ch l→∃ us,sc k (flat l)=.ok us∧us.map er=tk l++[endTok]
 | [],k,_=>⟨_,Jdf k,rfl⟩
 | .s c::l,k,h=>by
  rw[Ch] at h;obtain ⟨us,h1,h2⟩:=Jcp l (k+1) h.2;exact ⟨us,by rw[show flat (.s c::l)=c::flat l from rfl,Jhr k _ h.1,h1],h2⟩
 | .t x::l,k,h=>by
  rw[Ch] at h;obtain ⟨ht,⟨c,q,hc,hs⟩,ho⟩:=Jlo h.1 h.2.1;obtain ⟨us,h1,h2⟩:=Jcp l (k+(wr x).length) h.2.2;have e:flat (.t x::l)=wr x++flat l:=rfl;refine ⟨{ x with off:=(k:Int) }::us,?_,?_⟩
  ·rw[e];rw[hc,List.cons_append] at ht ⊢;rw[Jak k _ hs ht,← List.cons_append,List.drop_left' rfl];rw[hc] at h1;rw[h1];rfl
  ·rw[List.map_cons,h2,tk_t];obtain ⟨a,b,d,o⟩:=x;simp only at ho;subst ho;rfl
theorem JV {c:UInt8} (h:isSp c=true) (l:List It):Safe (flat (.s c::l)):=by
 change Option.map isWo (some c)≠some true;simp[JeR h]
theorem JY {s:List UInt8} (h:s∈signs) (l:List It):Safe (flat (.t (tS s)::l)):=by
 have:∃ c q,s=c::q∧isWo c=false:=by
  simp only[signs,List.mem_cons,List.not_mem_nil,or_false] at h
  rcases h with rfl | rfl | rfl | rfl | rfl | rfl | rfl | rfl | rfl | rfl | rfl | rfl | rfl | rfl | rfl | rfl <;> exact ⟨_,_,rfl,by decide⟩
 obtain ⟨c,q,rfl,hc⟩:=this;change Option.map isWo (some c)≠some true;simp[hc]
theorem KB {l:List It} (h:Ch l):Ch (.s 32::l):=by rw[Ch]; exact ⟨by decide,h⟩
theorem JjQ {l:List It} (h:Ch l):Ch (.s 10::l):=by rw[Ch]; exact ⟨by decide,h⟩
theorem JD {s:List UInt8} {l:List It} (hs:WordOk s) (h:Ch l) (hl:Safe (flat l)):Ch (.t (tW s)::l):=by
 rw[Ch];exact ⟨.inl ⟨s,rfl,hs⟩,⟨fun _=>hl,fun h=>absurd h (by change ¬ (0:Int)=3; decide)⟩,h⟩
theorem Jcq {s:List UInt8} {l:List It} (hs:textB s=true) (h:Ch l):Ch (.t (tT s)::l):=by
 rw[Ch];exact ⟨.inr (.inr (.inl ⟨s,rfl,hs⟩)),⟨fun h=>absurd h (by change ¬ ((2:Int)=0∨(2:Int)=1); decide),fun h=>absurd h (by change ¬ (2:Int)=3; decide)⟩,h⟩
theorem Jft {s:List UInt8} {l:List It} (hs:s∈signs) (h:Ch l) (hl:s=[61]∨s=[60]∨s=[62]→(flat l).head?≠some 61):Ch (.t (tS s)::l):=by
 rw[Ch];exact ⟨.inr (.inr (.inr ⟨s,rfl,hs⟩)),⟨fun h=>absurd h (by change ¬ ((3:Int)=0∨(3:Int)=1); decide),fun _=>hl⟩,h⟩
theorem KE {s:List UInt8} {l:List It} (hs:s∈signs) (h:Ch l) (hl:¬ (s=[61]∨s=[60]∨s=[62])):Ch (.t (tS s)::l):=Jft hs h fun h=>absurd h hl
theorem YX {s:List UInt8} {l:List It} (hs:s∈signs) (h:Ch l):Ch (.t (tS s)::.s 32::l):=Jft hs (KB h) fun _=>by change some (32:UInt8)≠some 61; decide
theorem Kh {s:List UInt8} (h:identB s=true):WordOk s:=by
 unfold identB at h
 cases s with
 | nil=>cases h
 | cons c r=>
  simp only[Bool.and_eq_true,decide_eq_true_eq,List.all_eq_true] at h;exact ⟨h.1.1.1.1,⟨c,r,rfl,h.1.1.1.2⟩,fun x hx=>h.1.1.2 x hx⟩
def wordB (s:List UInt8):Bool:=decide (s.length≤24)&&(match s with | c::_=>isLe c | []=>false)&&s.all isWo
theorem J6 {s:List UInt8} (h:wordB s=true):WordOk s:=by
 unfold wordB at h
 cases s with
 | nil=>simp at h
 | cons c r=>
  simp only[Bool.and_eq_true,decide_eq_true_eq,List.all_eq_true] at h;exact ⟨h.1.1,⟨c,r,rfl,h.1.2⟩,fun x hx=>h.2 x hx⟩
theorem JaY {s:List UInt8} (h:(factI s).isSome=true):WordOk s:=by
 have hs:s∈[fLikes,fBoosts,fReplies,fReports,fAge,fHome,fScope,fLength]∨s∈[fFollows,fReply]:=by
  exact bx45
 simp only[List.mem_cons,List.not_mem_nil,or_false] at hs
 rcases hs with (rfl | rfl | rfl | rfl | rfl | rfl | rfl | rfl) | (rfl | rfl) <;> exact J6 (by decide)
def Cl (x:List It):Prop:=∀ L,Ch L→Safe (flat L)→Ch (x++L)
theorem Cl.par {x:List It} (h:Cl x) (b:Bool):Cl (par b x):=by
 cases b with
 | false=>exact h
 | true=>
  intro L hL hs;change Ch (.t (tS [40])::(x++[.t (tS [41])]++L));rw[List.append_assoc];exact KE (by decide) (h _ (KE (by decide) hL (by decide)) (JY (by decide) L)) (by decide)
theorem JhF {k:Int} (ne:Bool) (hk:bin k) {l:List It} (h:Ch l):Ch (.t (symT ne k)::.s 32::l):=by
 rcases hk with rfl | rfl | rfl | rfl | rfl | rfl | rfl | rfl | rfl | rfl
 ·exact YX (s:=[43]) (by decide) h
 ·exact YX (s:=[45]) (by decide) h
 ·exact YX (s:=[42]) (by decide) h
 ·exact YX (s:=[47]) (by decide) h
 ·exact YX (s:=[37]) (by decide) h
 ·exact YX (s:=[60]) (by decide) h
 ·exact YX (s:=[60,61]) (by decide) h
 ·cases ne
  ·exact YX (s:=[61,61]) (by decide) h
  ·exact YX (s:=[33,61]) (by decide) h
 ·exact JD (s:=kAnd) (J6 (by decide)) (KB h) (JV (by decide) l)
 ·exact JD (s:=kOr) (J6 (by decide)) (KB h) (JV (by decide) l)
theorem Jfu {fn:Int→List UInt8}:∀ (l:List Exp),(∀ a∈l,Cl (iB fn false a))→Cl (iT fn l)
 | [],_=>fun L hL _=>by rw[iT]; exact hL
 | a::l,h=>fun L hL hs=>by
  rw[iT];change Ch (.t (tS [44])::.s 32::(iB fn false a++iT fn l++L));rw[List.append_assoc];refine KE (by decide) (KB (h a (by simp) _ (Jfu l (fun b hb=>h b (by simp[hb])) L hL hs) ?_)) (by decide)
  cases l with
  | nil=>rw[iT]; exact hs
  | cons b l=>rw[iT]; exact JY (by decide) _
theorem bx122 {P:Prop}(h:P:=by
  simp only[List.cons_append,List.append_assoc,List.nil_append]):P:=h
theorem Yb {fn:Int→List UInt8} {pa:List Nat} (hf:FnOk fn pa.length):∀ (e:Exp) (ne:Bool) (nv m:Nat),fitsN pa nv m e=true→nv+m≤big→Cl (iB fn ne e)
 | .mk k n s l,ne,nv,m,h,hb=>by
  obtain ⟨h1,h2,h3,h4⟩:=KL h;have hk:=Vo h2;intro L hL hs
  rcases kinds hk with rfl | rfl | rfl | rfl | rfl | rfl | rfl | rfl | rfl | rfl | rfl | hbin
  ·rw[JM];have:=JaX h2;change Ch (.t (tI n)::L);rw[Ch];exact ⟨.inr (.inl ⟨n,rfl,this.1,this.2⟩),⟨fun _=>hs,fun h=>absurd h (by change ¬ (1:Int)=3; decide)⟩,hL⟩
  ·rw[JM];change Ch (.t (tW (if n=0 then kFalse else kTrue))::L);refine JD ?_ hL hs;split <;> exact J6 (by decide)
  ·rw[JM];have:=Ve h2;exact JD (Kh (KH this.1 (by omega))) hL hs
  ·rw[JM];exact JD (JaY (Ya h2)) hL hs
  ·rw[JM];exact JD (J6 (by decide)) (KE (by decide) (Jcq (ZU h2 (.inl rfl)) (KE (by decide) hL (by decide))) (by decide)) (JY (by decide) _)
  ·rw[JM];exact JD (J6 (by decide)) (KE (by decide) (Jcq (ZU h2 (.inr rfl)) (KE (by decide) hL (by decide))) (by decide)) (JY (by decide) _)
  ·obtain ⟨a,rfl⟩:=len1 h3;have ha:=rfit1 h4 (by decide);have ca:=Yb hf a false nv (m-1) ha.1 (by omega);rw[JM];exact KE (by decide) (ca.par _ L hL hs) (by decide)
  ·obtain ⟨a,rfl⟩:=len1 h3;have ha:=rfit1 h4 (by decide);have ca:=Yb hf a false nv (m-1) ha.1 (by omega);have cb:=Yb hf a true nv (m-1) ha.1 (by omega);have e1:iB fn ne (.mk 7 n s [a])=if a.kind=15 then iB fn true a else .t (tW kNot)::.s 32::par (decide (lvE a<3)) (iB fn false a):=by rw[JM]; rfl
   rw[e1];split
   ·exact cb L hL hs
   ·exact JD (J6 (by decide)) (KB (ca.par _ L hL hs)) (JV (by decide) _)
  ·obtain ⟨c,a,b,rfl⟩:=len3 h3;obtain ⟨hc,h5⟩:=rfit1 h4 (by decide);obtain ⟨ha,h6⟩:=rfit1 h5 (by decide);obtain ⟨hb',_⟩:=rfit1 h6 (by decide);have cc:=Yb hf c false nv (m-1) hc (by omega);have ca:=Yb hf a false nv (m-1) ha (by omega);have cb:=Yb hf b false nv (m-1) hb' (by omega)
   have e1:iB fn ne (.mk 18 n s [c,a,b])++L=.t (tW kIf)::.s 32::(iB fn false c++.s 32::.t (tW kThen)::.s 32::(iB fn false a++.s 32::.t (tW kElse)::.s 32::(iB fn false b++L))):=by
    rw[JM];change .t (tW kIf)::.s 32::(iB fn false c++.s 32::.t (tW kThen)::.s 32::(iB fn false a++.s 32::.t (tW kElse)::.s 32::iB fn false b))++L=_;simp only[List.cons_append,List.append_assoc]
   rw[e1];refine JD (J6 (by decide)) (KB (cc _ (KB (JD (J6 (by decide)) (KB (ca _ (KB (JD (J6 (by decide)) (KB (cb L hL hs)) (JV (by decide) _))) (JV (by decide) _))) (JV (by decide) _))) (JV (by decide) _))) (JV (by decide) _)
  ·obtain ⟨a,b,rfl⟩:=len2 h3;have hn:=VK h2;obtain ⟨ha,h5⟩:=KG h4;obtain ⟨hb',_⟩:=KG h5;rw[if_neg (by decide)] at ha;rw[if_pos (by decide)] at hb';have ca:=Yb hf a false nv (m-1) ha (by omega);have cb:=Yb hf b false (nv+1) (m-1) hb' (by omega)
   have e1:iB fn ne (.mk 19 n s [a,b])++L=.t (tW kLet)::.s 32::.t (tW (vn n))::.s 32::.t (tS [61])::.s 32::(iB fn false a++.s 32::.t (tW kIn)::.s 32::(iB fn false b++L)):=by
    rw[JM];change .t (tW kLet)::.s 32::.t (tW (vn n))::.s 32::.t (tS [61])::.s 32::(iB fn false a++.s 32::.t (tW kIn)::.s 32::iB fn false b)++L=_;simp only[List.cons_append,List.append_assoc]
   rw[e1];refine JD (J6 (by decide)) (KB (JD (Kh (KH (by omega) (by omega))) (KB (YX (by decide) (ca _ (KB (JD (J6 (by decide)) (KB (cb L hL hs)) (JV (by decide) _))) (JV (by decide) _)))) (JV (by decide) _))) (JV (by decide) _)
  ·have hn:=K1 h2;have hid:=Kh (hf n hn.1 hn.2)
   have hall:∀ (i:Nat) (l':List Exp),fitsL pa nv (m-1) 20 i l'=true→∀ a∈l',fitsN pa nv (m-1) a=true:=by
    exact bx42
   have hA:∀ a∈l,Cl (iB fn false a):=fun a ha=>Yb hf a false nv (m-1) (hall 0 l h4 a ha) (by omega)
   have e1:iB fn ne (.mk 20 n s l)++L=.t (tW (fn n))::.t (tS [40])::(iA fn l++.t (tS [41])::L):=by
    rw[JM];change .t (tW (fn n))::.t (tS [40])::(iA fn l++[.t (tS [41])])++L=_;exact bx122
   rw[e1];have hE:=KE (s:=[41]) (by decide) hL (by decide);refine JD hid (KE (by decide) ?_ (by decide)) (JY (by decide) _)
   cases l with
   | nil=>rw[iA]; exact hE
   | cons a l=>
    rw[iA,List.append_assoc];refine hA a (by simp) _ (Jfu l (fun b hb=>hA b (by simp[hb])) _ hE (JY (by decide) L)) ?_
    cases l with
    | nil=>rw[iT]; exact JY (by decide) L
    | cons b l=>rw[iT]; exact JY (by decide) _
  ·obtain ⟨a,b,rfl⟩:=len2 (h3.trans (Jdo hbin));have h19:k≠19:=by unfold bin at hbin; omega
   obtain ⟨ha,h5⟩:=rfit1 h4 h19;obtain ⟨hb',_⟩:=rfit1 h5 h19;have ca:=Yb hf a false nv (m-1) ha (by omega);have cb:=Yb hf b false nv (m-1) hb' (by omega);rw[Jdn fn ne hbin,List.append_assoc,List.cons_append,List.cons_append,List.cons_append];exact ca.par _ _ (KB (JhF ne hbin (cb.par _ L hL hs))) (JV (by decide) _)
termination_by e=>SizeOf.sizeOf e
decreasing_by
 all_goals (subst_vars; simp only[Exp.mk.sizeOf_spec,List.cons.sizeOf_spec])
 all_goals first | omega | (have:=List.sizeOf_lt_of_mem ‹_∈_›; omega)
theorem Jat (t:Int):WordOk (if t=1 then kBool else kInt):=by split <;> exact J6 (by decide)
theorem Jdu (a:Int):WordOk (actName a.toNat):=by
 unfold actName;split
 ·exact J6 (by decide)
 split
 ·exact J6 (by decide)
 split <;> exact J6 (by decide)
theorem Jja:∀ (l:List Int) (i:Nat),i+l.length<big→Cl (iPt i l)
 | [],i,_=>fun L hL _=>by rw[iPt]; exact hL
 | t::l,i,hi=>fun L hL hs=>by
  simp only[List.length_cons] at hi;rw[iPt];have ih:=Jja l (i+1) (by omega) L hL hs;refine KE (by decide) (KB (JD (Kh (KH (by omega) (by omega))) (KE (by decide) (KB (JD (Jat t) ih ?_)) (by decide)) (JY (by decide) _))) (by decide)
  cases l with
  | nil=>rw[iPt]; exact hs
  | cons u l=>rw[iPt]; exact JY (by decide) _
theorem Jmm:∀ (l:List Int),l.length+1<big→Cl (iP l)
 | [],_=>fun L hL _=>by rw[iP]; exact hL
 | t::l,hi=>fun L hL hs=>by
  simp only[List.length_cons] at hi;rw[iP];have ih:=Jja l 1 (by omega) L hL hs;refine JD (Kh (KH (by omega) (by decide))) (KE (by decide) (KB (JD (Jat t) ih ?_)) (by decide)) (JY (by decide) _)
  cases l with
  | nil=>rw[iPt]; exact hs
  | cons u l=>rw[iPt]; exact JY (by decide) _
theorem Jjb {fn:Int→List UInt8} {pa:List Nat} (hf:FnOk fn pa.length):∀ (l:List FnM),(∀ x∈l,FnFit fn pa x)→∀ L,Ch L→Ch (iFs fn l++L)
 | [],_,L,hL=>hL
 | f::l,h,L,hL=>by
  have hx:=h f (by simp);have ih:=Jjb hf l (fun x hx=>h x (by simp[hx])) L hL
  have e:iFs fn (f::l)++L=.t (tW kDef)::.s 32::.t (tW f.name)::.t (tS [40])::(iP f.params++.t (tS [41])::.t (tS [58])::.s 32::.t (typT f.result)::.s 32::.t (tS [61])::.s 32::(iB fn false f.body++.s 10::(iFs fn l++L))):=by
   rw[iFs];unfold iF;exact bx122
  rw[e];have hb:=Yb hf f.body false f.params.length 40 hx.fits hx.few _ (JjQ ih) (JV (by decide) _);have h2:=KE (s:=[41]) (by decide) (KE (s:=[58]) (by decide) (KB (JD (Jat f.result) (KB (YX (s:=[61]) (by decide) hb)) (JV (by decide) _))) (by decide)) (by decide);exact JD (J6 (by decide)) (KB (JD (Kh hx.name) (KE (by decide) (Jmm f.params (by have:=hx.few; omega) _ h2 (JY (by decide) _)) (by decide)) (JY (by decide) _))) (JV (by decide) _)
theorem Jjc {fn:Int→List UInt8} {pa:List Nat} (hf:FnOk fn pa.length):∀ (l:List ClM),(∀ x∈l,ClFit pa x∧textB x.reason=true)→∀ L,Ch L→Ch (iCs fn l++L)
 | [],_,L,hL=>hL
 | c::l,h,L,hL=>by
  have hx:=h c (by simp);have ih:=Jjc hf l (fun x hx=>h x (by simp[hx])) L hL
  have e:iCs fn (c::l)++L=.t (tW kWhen)::.s 32::(iB fn false c.cond++.s 32::.t (tW kThen)::.s 32::.t (actT c.action)::.s 32::.t (tT c.reason)::.s 10::(iCs fn l++L)):=by
   rw[iCs];unfold iC;exact bx122
  rw[e];have h2:=KB (JD (s:=kThen) (J6 (by decide)) (KB (JD (Jdu c.action) (KB (Jcq hx.2 (JjQ ih))) (JV (by decide) _))) (JV (by decide) _));exact JD (J6 (by decide)) (KB (Yb hf c.cond false 0 40 hx.1.fits (by decide) _ h2 (JV (by decide) _))) (JV (by decide) _)
theorem Jlp {r:RuleM} (h:rightM r=true) (hw:RFew r):Ch (iR r):=by
 obtain ⟨hfn,_⟩:=Jln h;obtain ⟨hF,hC⟩:=Jco h hw;obtain ⟨_,h2,_,_,_⟩:=KA h;unfold clsM at h2;rw[List.all_eq_true] at h2;unfold iR;refine Jjb hfn r.funcs hF _ (Jjc hfn r.clauses (fun x hx=>⟨hC x hx,?_⟩) _ ?_)
 ·have:=h2 x hx;rw[Bool.and_eq_true] at this;exact this.2
 ·exact JD (J6 (by decide)) (KB (JD (Jdu r.action) (JjQ (by rw[Ch]; trivial)) (JV (by decide) _))) (JV (by decide) _)
def writeM (r:RuleM):List UInt8:=if rightM r=true then flat (iR r) else []
end Go.Proofs.YtdlkcjkjnehnkaaGreatDoor
