import Derived.Test.YtdlkcjkjnehnkaaGreatDoorG05
namespace Go.Proofs.YtdlkcjkjnehnkaaGreatDoor
open Go Go.Lib
open _root_.Go.Proofs.Tryz
set_option linter.all false
set_option maxRecDepth 100000
set_option maxHeartbeats 32000000
theorem Jdm (b:Bool) (x:List It):tk (par b x)=if b=true then tS [40]::(tk x++[tS [41]]) else tk x:=by
 cases b
 ·rfl
 ·simp only[par,if_true,tk_t,KZ,Jdl]
theorem bx121 {P:Prop}(h:P:=by
  rw[fitsN] at h;simp only[Bool.and_eq_true,decide_eq_true_eq,beq_iff_eq] at h
  exact ⟨h.1.1.1,h.1.1.2,h.1.2,h.2⟩):P:=h
theorem KL {pa:List Nat} {nv m:Nat} {k n:Int} {s:List UInt8} {l:List Exp} (h:fitsN pa nv m (.mk k n s l)=true) :
  1≤m∧fieldsB pa.length nv k n s=true∧l.length=arityM pa k n∧fitsL pa nv (m-1) k 0 l=true:=by
 exact bx121
theorem KG {pa:List Nat} {nv m:Nat} {k:Int} {i:Nat} {a:Exp} {l:List Exp} (h:fitsL pa nv m k i (a::l)=true) :
  fitsN pa (if k=19∧i=1 then nv+1 else nv) m a=true∧fitsL pa nv m k (i+1) l=true:=by
 rw[fitsL] at h;simpa using h
theorem Vo {nf nv:Nat} {k n:Int} {s:List UInt8} (h:fieldsB nf nv k n s=true):0≤k∧k<21:=by
 unfold fieldsB at h;simp only[Bool.and_eq_true,decide_eq_true_eq] at h;exact ⟨h.1.2,h.2⟩
theorem rfit1 {pa:List Nat} {nv m:Nat} {k:Int} {i:Nat} {a:Exp} {l:List Exp} (h:fitsL pa nv m k i (a::l)=true) (hk:k≠19):fitsN pa nv m a=true∧fitsL pa nv m k (i+1) l=true:=by
 have:=KG h
 rwa [if_neg (fun h=>hk h.1)] at this
def FnOk (fn:Int→List UInt8) (nf:Nat):Prop:=∀ n:Int,0≤n→n<(nf:Int)→identB (fn n)=true
def big:Nat:=1000000000000000000
theorem Jli (e:Exp):lvE e≤8:=by
 obtain ⟨k,n,s,l⟩:=e;rw[Js]
 repeat' split
 all_goals omega
theorem Jfe (fn:Int→List UInt8) (e:Exp):(sN fn e).off=0:=by
 obtain ⟨k,n,s,l⟩:=e;rw[sN]
 repeat' split
 all_goals rfl
theorem Jlj {c:UInt8} (h:isDig c):isWo c=true:=by
 unfold isWo isDi;have h1:decide (48≤c.toNat)=true:=decide_eq_true h.1;have h2:decide (c.toNat≤57)=true:=decide_eq_true h.2;rw[h1,h2];simp
theorem KH {n:Int} (h0:0≤n) (h1:n<(big:Int)):identB (vn n)=true:=by
 have hi:itoa n=decDigits n.toNat:=by
  rcases V6 n with h | h
  ·exact h.2
  ·omega
 have hb:big=10 ^ 18:=by decide
 have hl:(decDigits n.toNat).length≤18:=ZJ n.toNat 18 (by rw[← hb]; omega) (by decide);unfold vn identB
 have hk:keywordB (118::itoa n)=false:=by
  unfold keywordB;refine decide_eq_false ?_;simp only[List.mem_cons,List.not_mem_nil,or_false,kAnd,kBool,kDef,kDefault,kElse,kFalse,kHide,kIf,kIn,kInt,kLabel,kLet,kLimit,kMedia,kNot,kOr,kShow,kThen,kTrue,kWhen,kWord];simp
 have hf:factI (118::itoa n)=none:=by
  unfold factI;rw[if_neg,if_neg]
  ·simp[fFollows,fReply]
  ·simp[fLikes,fBoosts,fReplies,fReports,fAge,fHome,fScope,fLength]
 have hall:(118::itoa n).all isWo=true:=by
  rw[List.all_cons,hi];simp only[Bool.and_eq_true,List.all_eq_true];exact ⟨by decide,fun c hc=>Jlj (JbT _ c hc)⟩
 simp only[hk,hf,hall];rw[hi];simp only[List.length_cons];have:decide ((decDigits n.toNat).length+1≤24)=true:=decide_eq_true (by omega);rw[this]
 decide
theorem V9 {s:List UInt8} (lv:Nat) (h1:s≠kLet) (h2:s≠kIf) (h3:s≠kNot):Hd lv (tW s):=
 ⟨rfl,fun _ h=>h1 h.2,fun _ h=>h2 h.2,fun _ h=>h3 h.2,fun _ h=>absurd h.1 (by change ¬ (0:Int)=3; decide),fun h=>absurd h.1 (by change ¬ (0:Int)=3; decide)⟩
theorem Jff {s:List UInt8} (lv:Nat) (h:identB s=true):Hd lv (tW s):=by
 obtain ⟨_,_,_,_,n1,n2,n3,_⟩:=VI h;exact V9 lv n1 n2 n3
theorem Jhz {s:List UInt8} (h:(factI s).isSome=true):s≠kLet∧s≠kIf∧s≠kNot:=by
 have hs:s∈[fLikes,fBoosts,fReplies,fReports,fAge,fHome,fScope,fLength]∨s∈[fFollows,fReply]:=by
  exact bx45
 exact bx100
theorem Jlk (lv:Nat) (n:Int):Hd lv (tI n):=
 ⟨rfl,fun _ h=>absurd h.1 (by change ¬ (1:Int)=0; decide),fun _ h=>absurd h.1 (by change ¬ (1:Int)=0; decide),fun _ h=>absurd h.1 (by change ¬ (1:Int)=0; decide),fun _ h=>absurd h.1 (by change ¬ (1:Int)=3; decide),fun h=>absurd h.1 (by change ¬ (1:Int)=3; decide)⟩
theorem Jfg (lv:Nat):Hd lv (tS [40]):=
 ⟨rfl,fun _ h=>absurd h.1 (by change ¬ (3:Int)=0; decide),fun _ h=>absurd h.1 (by change ¬ (3:Int)=0; decide),fun _ h=>absurd h.1 (by change ¬ (3:Int)=0; decide),fun _ h=>absurd h.2 (by change ¬ ([40]:List UInt8)=[45]; decide),fun h=>absurd h.2 (by change ¬ ([40]:List UInt8)=[41]; decide)⟩
def Head (lv:Nat) (l:List Tok):Prop:=∃ t r,l=t::r∧Hd lv t
theorem Head.app {lv:Nat} {l:List Tok} (h:Head lv l) (r:List Tok):Head lv (l++r):=by
 obtain ⟨t,r1,rfl,h⟩:=h;exact ⟨t,r1++r,rfl,h⟩
theorem Head.par {e:Exp} {fn:Int→List UInt8} {lv:Nat} (h:Head (lvE e) (tk (iB fn false e))) (m:Nat) (hm:m≤lv):Head m (tk (par (decide (lvE e<lv)) (iB fn false e))):=by
 rw[Jdm]
 by_cases hl:lvE e<lv
 ·rw[if_pos (decide_eq_true hl)];exact ⟨_,_,rfl,Jfg m⟩
 ·rw[if_neg (by simpa using hl)];obtain ⟨t,r,h1,h2⟩:=h;exact ⟨t,r,h1,h2.mono (by omega)⟩
theorem Head.hd {lv:Nat} {l:List Tok} (h:Head lv l):Hd lv (hd l):=by
 obtain ⟨t,r,rfl,h⟩:=h;exact h
def bin (k:Int):Prop:=k=8∨k=9∨k=10∨k=11∨k=12∨k=13∨k=14∨k=15∨k=16∨k=17
theorem Jdn (fn:Int→List UInt8) (ne:Bool) {k:Int} (hk:bin k) (n:Int) (s:List UInt8) (a b:Exp):iB fn ne (.mk k n s [a,b]) =
  par (decide (lvE a<rleftL (lvE (.mk k n s [a,b])))) (iB fn false a)++.s 32::.t (symT ne k)::.s 32::par (decide (lvE b<lvE (.mk k n s [a,b])+1)) (iB fn false b):=by
 rcases hk with rfl | rfl | rfl | rfl | rfl | rfl | rfl | rfl | rfl | rfl <;> (rw[JM]; rfl)
theorem kinds {k:Int} (h:0≤k∧k<21):k=0∨k=1∨k=2∨k=3∨k=4∨k=5∨k=6∨k=7∨k=18∨k=19∨k=20∨bin k:=by
 unfold bin; omega
theorem len0 {α:Type} {l:List α} (h:l.length=0):l=[]:=List.length_eq_zero_iff.1 h
theorem len1 {α:Type} {l:List α} (h:l.length=1):∃ a,l=[a]:=List.length_eq_one_iff.1 h
theorem len2 {α:Type} {l:List α} (h:l.length=2):∃ a b,l=[a,b]:=by
 match l,h with
 | [a,b],_=>exact ⟨a,b,rfl⟩
theorem len3 {α:Type} {l:List α} (h:l.length=3):∃ a b c,l=[a,b,c]:=by
 match l,h with
 | [a,b,c],_=>exact ⟨a,b,c,rfl⟩
theorem Jdo {pa:List Nat} {k n:Int} (h:bin k):arityM pa k n=2:=by
 rcases h with rfl | rfl | rfl | rfl | rfl | rfl | rfl | rfl | rfl | rfl <;> rfl
theorem Jfh {k n:Int} {s:List UInt8} {l:List Exp} (h:bin k):1≤lvE (.mk k n s l)∧lvE (.mk k n s l)≤6∧lvE (.mk k n s l)≤rleftL (lvE (.mk k n s l)):=by
 rcases h with rfl | rfl | rfl | rfl | rfl | rfl | rfl | rfl | rfl | rfl <;> (rw[Js]; exact ⟨Nat.le_of_ble_eq_true rfl,Nat.le_of_ble_eq_true rfl,Nat.le_of_ble_eq_true rfl⟩)
theorem KM {nf nv:Nat} {k n:Int} {s:List UInt8} (h:fieldsB nf nv k n s=true) (h3:k≠3) (h4:k≠4) (h5:k≠5):s=[]:=by
 unfold fieldsB at h;simp only[Bool.and_eq_true] at h;have:=h.1.1.2;rw[if_neg h3,if_neg (by omega)] at this;simpa using this
theorem VA {nf nv:Nat} {k n:Int} {s:List UInt8} (h:fieldsB nf nv k n s=true) (h0:k≠0) (h1:k≠1) (h2:k≠2) (h19:k≠19) (h20:k≠20):n=0:=by
 unfold fieldsB at h;simp only[Bool.and_eq_true] at h;have:=h.1.1.1;rw[if_neg h0,if_neg h1,if_neg h2,if_neg h19,if_neg h20] at this;simpa using this
theorem Ya {nf nv:Nat} {n:Int} {s:List UInt8} (h:fieldsB nf nv 3 n s=true):(factI s).isSome=true:=by
 unfold fieldsB at h;simp only[Bool.and_eq_true] at h;exact h.1.1.2
theorem ZU {nf nv:Nat} {k n:Int} {s:List UInt8} (h:fieldsB nf nv k n s=true) (hk:k=4∨k=5):textB s=true:=by
 unfold fieldsB at h;simp only[Bool.and_eq_true] at h;have:=h.1.1.2
 rwa [if_neg (by omega),if_pos hk] at this
theorem bx55 {P:Prop}(h:P:=by
  unfold fieldsB at h;simp only[Bool.and_eq_true] at h;have:=h.1.1.1
  simpa using this):P:=h
theorem JaX {nf nv:Nat} {n:Int} {s:List UInt8} (h:fieldsB nf nv 0 n s=true):0≤n∧n≤1125899906842624:=by
 exact bx55
theorem ZV {nf nv:Nat} {n:Int} {s:List UInt8} (h:fieldsB nf nv 1 n s=true):n=0∨n=1:=by
 exact bx55
theorem Ve {nf nv:Nat} {n:Int} {s:List UInt8} (h:fieldsB nf nv 2 n s=true):0≤n∧n<(nv:Int):=by
 exact bx55
theorem VK {nf nv:Nat} {n:Int} {s:List UInt8} (h:fieldsB nf nv 19 n s=true):n=(nv:Int):=by
 exact bx55
theorem K1 {nf nv:Nat} {n:Int} {s:List UInt8} (h:fieldsB nf nv 20 n s=true):0≤n∧n<(nf:Int):=by
 exact bx55
theorem bx82 {P:Prop}(h:P:=by
  exact ⟨rfl,fun h=>absurd h (by decide),fun h=>absurd h (by decide),fun h=>absurd h (by decide),fun h=>absurd h (by decide),fun h=>absurd h.1 (by change ¬ (0:Int)=3; decide)⟩):P:=h
theorem Jcl {fn:Int→List UInt8} {pa:List Nat} (hf:FnOk fn pa.length):∀ (e:Exp) (ne:Bool) (nv m:Nat),fitsN pa nv m e=true→nv+m≤big→Head (lvE e) (tk (iB fn ne e))
 | .mk k n s l,ne,nv,m,h,hb=>by
  obtain ⟨h1,h2,h3,h4⟩:=KL h;have hk:=Vo h2
  rcases kinds hk with rfl | rfl | rfl | rfl | rfl | rfl | rfl | rfl | rfl | rfl | rfl | hbin
  ·rw[JM]; exact ⟨tI n,[],rfl,Jlk _ n⟩
  ·rw[JM];refine ⟨_,[],rfl,?_⟩
   by_cases e:n=0
   ·rw[if_pos e]; exact V9 _ (by decide) (by decide) (by decide)
   ·rw[if_neg e]; exact V9 _ (by decide) (by decide) (by decide)
  ·rw[JM];have:=Ve h2;exact ⟨tW (vn n),[],rfl,Jff _ (KH this.1 (by omega))⟩
  ·rw[JM];obtain ⟨n1,n2,n3⟩:=Jhz (Ya h2);exact ⟨tW s,[],rfl,V9 _ n1 n2 n3⟩
  ·rw[JM]; exact ⟨_,_,rfl,V9 _ (by decide) (by decide) (by decide)⟩
  ·rw[JM]; exact ⟨_,_,rfl,V9 _ (by decide) (by decide) (by decide)⟩
  ·obtain ⟨a,rfl⟩:=len1 h3;rw[JM];exact ⟨tS [45],_,rfl,⟨rfl,fun _ h=>absurd h.1 (by change ¬ (3:Int)=0; decide),fun _ h=>absurd h.1 (by change ¬ (3:Int)=0; decide),fun _ h=>absurd h.1 (by change ¬ (3:Int)=0; decide),fun h=>absurd h (by rw[Js]; simp),fun h=>absurd h.2 (by change ¬ ([45]:List UInt8)=[41]; decide)⟩⟩
  ·obtain ⟨a,rfl⟩:=len1 h3;have ha:=rfit1 h4 (by decide);have e1:iB fn ne (.mk 7 n s [a])=if a.kind=15 then iB fn true a else .t (tW kNot)::.s 32::par (decide (lvE a<3)) (iB fn false a):=by rw[JM]; rfl
   have e2:lvE (.mk 7 n s [a])=if a.kind=15 then 4 else 3:=by rw[Js]; rfl
   rw[e1,e2]
   by_cases e:a.kind=15
   ·rw[if_pos e,if_pos e];obtain ⟨t,r,q1,q2⟩:=Jcl hf a true nv (m-1) ha.1 (by omega);obtain ⟨k',n',s',l'⟩:=a;simp only[Exp.kind] at e;subst e;exact ⟨t,r,q1,q2.mono (by rw[Js]; exact Nat.le_of_ble_eq_true rfl)⟩
   ·rw[if_neg e,if_neg e];exact ⟨tW kNot,_,rfl,⟨rfl,fun _ h=>absurd h.2 (by change ¬ kNot=kLet; decide),fun _ h=>absurd h.2 (by change ¬ kNot=kIf; decide),fun h=>absurd h (by decide),fun h=>absurd h (by decide),fun h=>absurd h.1 (by change ¬ (0:Int)=3; decide)⟩⟩
  ·obtain ⟨c,a,b,rfl⟩:=len3 h3;rw[JM];refine ⟨tW kIf,_,rfl,?_⟩;rw[show lvE (.mk 18 n s [c,a,b])=0 from by rw[Js]; rfl];exact bx82
  ·obtain ⟨a,b,rfl⟩:=len2 h3;rw[JM];refine ⟨tW kLet,_,rfl,?_⟩;rw[show lvE (.mk 19 n s [a,b])=0 from by rw[Js]; rfl];exact bx82
  ·rw[JM];have:=K1 h2;exact ⟨tW (fn n),_,rfl,Jff _ (hf n this.1 this.2)⟩
  ·obtain ⟨a,b,rfl⟩:=len2 (h3.trans (Jdo hbin));have h19:k≠19:=by unfold bin at hbin; omega
   have ha:=rfit1 h4 h19;rw[Jdn fn ne hbin,KZ];exact ((Jcl hf a false nv (m-1) ha.1 (by omega)).par _ (Jfh hbin).2.2).app _
termination_by e=>SizeOf.sizeOf e
decreasing_by
 all_goals (subst_vars; simp only[Exp.mk.sizeOf_spec,List.cons.sizeOf_spec]; omega)
theorem Jdp {fn:Int→List UInt8} {e:Exp} (hB:∀ rest,Ro (lvE e) rest→Ev (pl (lvE e)) (tk (iB fn false e)++rest) (sN fn e) rest) (hh:Head (lvE e) (tk (iB fn false e)))
  {lv:Nat} (hl:lv≤8) {rest:List Tok} (hr:Ro lv rest):Ev (pl lv) (tk (iX fn lv e)++rest) (sN fn e) rest:=by
 unfold iX;rw[Jdm];have h8:=Jli e
 by_cases hlt:lvE e<lv
 ·rw[if_pos (decide_eq_true hlt)];have hro:∀ m,Ro m (tS [41]::rest):=fun m=>Vd ⟨by decide,fun _=>by decide,fun _=>by decide,fun _=>by decide,fun _=>by decide,fun _=>by decide⟩
  have h1:=Jhy (lvE e) 0 (by omega) (by rw[Nat.zero_add]; exact hB (tS [41]::rest) (hro _)) (hro _) (by rw[Nat.zero_add]; exact (hh.app _).hd);have h2:Ev .prim (tS [40]::(tk (iB fn false e)++tS [41]::rest)) (sN fn e) rest:=Jhv h1 (Jfe fn e);have h3:=Jhy (8-lv) lv (a:=sN fn e) (r:=tS [40]::(tk (iB fn false e)++tS [41]::rest)) (r1:=rest) (by omega) (by rw[show lv+(8-lv)=8 by omega]; exact h2) hr (Jfg _);simpa using h3
 ·rw[if_neg (by simpa using hlt)];exact Jhy (lvE e-lv) lv (by omega) (by rw[show lv+(lvE e-lv)=lvE e by omega]; exact hB rest (hr.mono (by omega))) hr (by rw[show lv+(lvE e-lv)=lvE e by omega]; exact (hh.app _).hd)
theorem Jfi {fn:Int→List UInt8} {e:Exp} (hB:∀ rest,Ro (lvE e) rest→Ev (pl (lvE e)) (tk (iB fn false e)++rest) (sN fn e) rest) (hh:Head (lvE e) (tk (iB fn false e)))
  {lv:Nat} (hl:lv=1∨lv=2∨lv=5∨lv=6) (hL:lvE e=lv→∀ rest b r2,Ro (lv+1) rest→Ev (.loop lv 0 (sN fn e)) rest b r2→Ev (.level lv) (tk (iB fn false e)++rest) b r2)
  {rest r2:List Tok} {b:Nd} (hr:Ro (lv+1) rest) (hk:Ev (.loop lv 0 (sN fn e)) rest b r2):Ev (.level lv) (tk (iX fn lv e)++rest) b r2:=by
 by_cases he:lvE e=lv
 ·unfold iX;rw[Jdm,if_neg (by simp; omega)];exact hL he rest b r2 hr hk
 ·have e1:iX fn lv e=iX fn (lv+1) e:=by
   unfold iX;rw[show decide (lvE e<lv)=decide (lvE e<lv+1) from decide_eq_decide.2 (by omega)]
  have h1:=Jdp hB hh (show lv+1≤8 by omega) hr;rw[JjJ (by omega) (by omega) (by omega)] at h1
  have h0:Hd lv (hd (tk (iX fn lv e)++rest)):=by
   unfold iX;exact ((hh.par lv zzl).app _).hd
  rw[e1] at h0 ⊢;exact VH (by omega) (by omega) h1 (by rw[h0.off]; exact hk)
structure EvAll (fn:Int→List UInt8) (e:Exp):Prop where
 bare:∀ rest,Ro (lvE e) rest→Ev (pl (lvE e)) (tk (iB fn false e)++rest) (sN fn e) rest
 loop:∀ lv,(lv=1∨lv=2∨lv=5∨lv=6)→lvE e=lv→∀ rest b r2,Ro (lv+1) rest→Ev (.loop lv 0 (sN fn e)) rest b r2→Ev (.level lv) (tk (iB fn false e)++rest) b r2
 neq:e.kind=15→∀ rest,Ro 4 rest→Ev .cmp (tk (iB fn true e)++rest) (.mk 7 0 [] 0 [sN fn e]) rest
 head:Head (lvE e) (tk (iB fn false e))
theorem EvAll.of {fn:Int→List UInt8} {e:Exp} (hh:Head (lvE e) (tk (iB fn false e))) (h15:e.kind≠15) (hl:lvE e=0∨lvE e=3∨lvE e=4∨lvE e=7∨lvE e=8)
  (h:∀ rest,Ro (lvE e) rest→Ev (pl (lvE e)) (tk (iB fn false e)++rest) (sN fn e) rest):EvAll fn e:=
 ⟨h,fun lv h1 h2=>by omega,fun h=>absurd h h15,hh⟩
theorem EvAll.at {fn:Int→List UInt8} {e:Exp} (h:EvAll fn e) {lv:Nat} (hl:lv≤8) {rest:List Tok} (hr:Ro lv rest):Ev (pl lv) (tk (iX fn lv e)++rest) (sN fn e) rest:=
 Jdp h.bare h.head hl hr
theorem EvAll.lat {fn:Int→List UInt8} {e:Exp} (h:EvAll fn e) {lv:Nat} (hl:1≤lv∧lv≤7∧lv≠4) {rest:List Tok} (hr:Ro lv rest):Ev (.level lv) (tk (iX fn lv e)++rest) (sN fn e) rest:=by
 have:=h.at (lv:=lv) (by omega) hr
 rwa [JjJ hl.1 hl.2.2 hl.2.1] at this
theorem EvAll.expr {fn:Int→List UInt8} {e:Exp} (h:EvAll fn e) {rest:List Tok} (hr:Ro 0 rest):Ev .expr (tk (iB fn false e)++rest) (sN fn e) rest:=by
 have:=h.at (lv:=0) (by omega) hr;unfold iX at this;rw[Jdm,if_neg (by simp)] at this;exact this
theorem YT {s:List UInt8} (lv:Nat) (r:List Tok) (h1:s≠kOr) (h2:s≠kAnd):Ro lv (tW s::r):=by
 have e:∀ l,opK l (tW s)=none:=fun l=>by
  unfold opK;rw[if_neg (fun h=>h1 h.2.2),if_neg (fun h=>h2 h.2.2),if_pos (by change ¬ (0:Int)=3; decide)]
 have c:cmpK (tW s)=none:=by unfold cmpK; rw[if_pos (by change ¬ (0:Int)=3; decide)]
 exact ⟨ZP,fun _=>e 6,fun _=>e 5,fun _=>c,fun _=>e 2,fun _=>e 1⟩
theorem JhA (lv:Nat) (r:List Tok):Ro lv (tS [44]::r):=Vd ⟨by decide,fun _=>by decide,fun _=>by decide,fun _=>by decide,fun _=>by decide,fun _=>by decide⟩
theorem JjK (lv:Nat) (r:List Tok):Ro lv (tS [41]::r):=Vd ⟨by decide,fun _=>by decide,fun _=>by decide,fun _=>by decide,fun _=>by decide,fun _=>by decide⟩
theorem Jfj {fn:Int→List UInt8} {s:List UInt8}:∀ (l:List Exp) (acc:List Nd) (a:Exp) (rest:List Tok),EvAll fn a→(∀ b∈l,EvAll fn b)→
  Ev (.args s 0 acc) (tk (iB fn false a++iT fn l)++tS [41]::rest) (.mk 20 0 s 0 (acc++sN fn a::sL fn l)) rest
 | [],acc,a,rest,h,_=>by
  rw[iT,sL,List.append_nil];exact Jcj (h.expr (JjK 0 rest))
 | b::l,acc,a,rest,h,hl=>by
  rw[iT,sL,KZ,tk_t,tk_s,List.append_assoc,List.cons_append];have ih:=Jfj (s:=s) l (acc++[sN fn a]) b rest (hl b (by simp)) fun c hc=>hl c (by simp[hc])
  rw[List.append_assoc,List.cons_append,List.nil_append] at ih;exact JaW (h.expr (JhA 0 _)) ih
def loopK (k:Int):Prop:=k=8∨k=9∨k=10∨k=11∨k=12∨k=16∨k=17
theorem JjL {k:Int} (hk:loopK k) (n:Int) (s:List UInt8) (l:List Exp):∃ lv,lvE (.mk k n s l)=lv∧(lv=1∨lv=2∨lv=5∨lv=6)∧opK lv (symT false k)=some k∧∀ rest,Ro (lv+1) (symT false k::rest):=by
 rcases hk with rfl | rfl | rfl | rfl | rfl | rfl | rfl
 ·exact ⟨5,by rw[Js]; rfl,by decide,by decide,fun r=>Vd ⟨by decide,by decide,by decide,by decide,by decide,by decide⟩⟩
 ·exact ⟨5,by rw[Js]; rfl,by decide,by decide,fun r=>Vd ⟨by decide,by decide,by decide,by decide,by decide,by decide⟩⟩
 ·exact ⟨6,by rw[Js]; rfl,by decide,by decide,fun r=>Vd ⟨by decide,by decide,by decide,by decide,by decide,by decide⟩⟩
 ·exact ⟨6,by rw[Js]; rfl,by decide,by decide,fun r=>Vd ⟨by decide,by decide,by decide,by decide,by decide,by decide⟩⟩
 ·exact ⟨6,by rw[Js]; rfl,by decide,by decide,fun r=>Vd ⟨by decide,by decide,by decide,by decide,by decide,by decide⟩⟩
 ·exact ⟨2,by rw[Js]; rfl,by decide,by decide,fun r=>Vd ⟨by decide,by decide,by decide,by decide,by decide,by decide⟩⟩
 ·exact ⟨1,by rw[Js]; rfl,by decide,by decide,fun r=>Vd ⟨by decide,by decide,by decide,by decide,by decide,by decide⟩⟩
theorem Jll {k:Int} (hk:k=13∨k=14∨k=15) (ne:Bool):cmpK (symT ne k)=some k∧∀ rest,Ro 5 (symT ne k::rest):=by
 rcases hk with rfl | rfl | rfl <;> cases ne
 all_goals exact ⟨by decide,fun r=>Vd ⟨by decide,by decide,by decide,by decide,by decide,by decide⟩⟩
theorem JiX {fn:Int→List UInt8} {ne:Bool} {k:Int} (hk:bin k) (s:List UInt8) (n:Int) (a b:Exp) (rest:List Tok) {lv:Nat} (hl:lvE (.mk k n s [a,b])=lv) :
  tk (iB fn ne (.mk k n s [a,b]))++rest=tk (iX fn (rleftL lv) a)++symT ne k::(tk (iX fn (lv+1) b)++rest):=by
 rw[Jdn fn ne hk,hl,KZ,tk_s,tk_t,tk_s];unfold iX;simp
theorem Jlm {fn:Int→List UInt8} {k:Int} (hk:bin k) (a b:Exp):sN fn (.mk k 0 [] [a,b])=.mk k 0 [] 0 [sN fn a,sN fn b]:=by
 unfold bin at hk;rw[sN,if_neg (by omega),if_neg (by omega),if_neg (by omega)];rfl
theorem bx42 {P:Prop}(h:P:=by
  intro i l'
  induction l' generalizing i with
  | nil=>intro _ a ha; cases ha
  | cons x l' ih=>
   intro hx a ha;obtain ⟨q1,q2⟩:=rfit1 hx (by decide)
   rcases List.mem_cons.1 ha with rfl | ha
   ·exact q1
   ·exact ih _ q2 a ha):P:=h
theorem bx69 {P:Prop}(h:P:=by
  simp only[tk_t,tk_s,KZ,Jdl,List.cons_append,List.append_assoc,List.nil_append]):P:=h
theorem KD {fn:Int→List UInt8} {pa:List Nat} (hf:FnOk fn pa.length):∀ (e:Exp) (nv m:Nat),fitsN pa nv m e=true→nv+m≤big→EvAll fn e
 | .mk k n s l,nv,m,h,hb=>by
  have hh:=Jcl hf (.mk k n s l) false nv m h hb;obtain ⟨h1,h2,h3,h4⟩:=KL h;have hk:=Vo h2
  rcases kinds hk with rfl | rfl | rfl | rfl | rfl | rfl | rfl | rfl | rfl | rfl | rfl | hbin
  ·obtain rfl:=len0 h3;obtain rfl:=KM h2 (by decide) (by decide) (by decide);exact .of hh (by simp[Exp.kind]) (by rw[Js]; simp) fun rest hr=>by rw[JM]; exact Jlg
  ·obtain rfl:=len0 h3;obtain rfl:=KM h2 (by decide) (by decide) (by decide);exact .of hh (by simp[Exp.kind]) (by rw[Js]; simp) fun rest hr=>by rw[JM]; exact JjH (ZV h2)
  ·obtain rfl:=len0 h3;have hv:=Ve h2;exact .of hh (by simp[Exp.kind]) (by rw[Js]; simp) fun rest hr=>by rw[JM]; exact Jlf (KH hv.1 (by omega)) hr.call
  ·obtain rfl:=len0 h3;obtain rfl:=VA h2 (by decide) (by decide) (by decide) (by decide) (by decide);exact .of hh (by simp[Exp.kind]) (by rw[Js]; simp) fun rest hr=>by rw[JM]; exact JjF (Ya h2)
  ·obtain rfl:=len0 h3;obtain rfl:=VA h2 (by decide) (by decide) (by decide) (by decide) (by decide);exact .of hh (by simp[Exp.kind]) (by rw[Js]; simp) fun rest hr=>by rw[JM]; exact Jhx
  ·obtain rfl:=len0 h3;obtain rfl:=VA h2 (by decide) (by decide) (by decide) (by decide) (by decide);exact .of hh (by simp[Exp.kind]) (by rw[Js]; simp) fun rest hr=>by rw[JM]; exact JjI
  ·obtain ⟨a,rfl⟩:=len1 h3;obtain rfl:=KM h2 (by decide) (by decide) (by decide);obtain rfl:=VA h2 (by decide) (by decide) (by decide) (by decide) (by decide);have ha:=rfit1 h4 (by decide);have ea:=KD hf a nv (m-1) ha.1 (by omega)
   exact .of hh (by simp[Exp.kind]) (by rw[Js]; simp) fun rest hr=>by
    have hl:lvE (.mk 6 0 [] [a])=7:=by rw[Js]; rfl
    rw[hl] at hr ⊢;have:=Jlc (ea.lat (lv:=7) (by decide) hr);rw[JM];exact this
  ·obtain ⟨a,rfl⟩:=len1 h3;obtain rfl:=KM h2 (by decide) (by decide) (by decide);obtain rfl:=VA h2 (by decide) (by decide) (by decide) (by decide) (by decide);have ha:=rfit1 h4 (by decide);have ea:=KD hf a nv (m-1) ha.1 (by omega);have e1:iB fn false (.mk 7 0 [] [a])=if a.kind=15 then iB fn true a else .t (tW kNot)::.s 32::par (decide (lvE a<3)) (iB fn false a):=by rw[JM]; rfl
   have e2:lvE (.mk 7 0 [] [a])=if a.kind=15 then 4 else 3:=by rw[Js]; rfl
   refine .of hh (by simp[Exp.kind]) ?_ fun rest hr=>?_
   ·rw[e2]; split <;> omega
   ·rw[e2] at hr ⊢;rw[e1]
    by_cases e:a.kind=15
    ·rw[if_pos e] at hr ⊢;rw[if_pos e];exact ea.neq e rest hr
    ·rw[if_neg e] at hr ⊢;rw[if_neg e];exact JjE (ea.lat (lv:=3) (by decide) hr)
  ·obtain ⟨c,a,b,rfl⟩:=len3 h3;obtain rfl:=KM h2 (by decide) (by decide) (by decide);obtain rfl:=VA h2 (by decide) (by decide) (by decide) (by decide) (by decide);obtain ⟨hc,h5⟩:=rfit1 h4 (by decide);obtain ⟨ha,h6⟩:=rfit1 h5 (by decide);obtain ⟨hb',_⟩:=rfit1 h6 (by decide);have ec:=KD hf c nv (m-1) hc (by omega);have ea:=KD hf a nv (m-1) ha (by omega);have eb:=KD hf b nv (m-1) hb' (by omega)
   exact .of hh (by simp[Exp.kind]) (by rw[Js]; simp) fun rest hr=>by
    have hl:lvE (.mk 18 0 [] [c,a,b])=0:=by rw[Js]; rfl
    rw[hl] at hr ⊢
    have e0:tk (iB fn false (.mk 18 0 [] [c,a,b]))++rest=tW kIf::(tk (iB fn false c)++tW kThen::(tk (iB fn false a)++tW kElse::(tk (iB fn false b)++rest))):=by
     rw[JM];change tk (.t (tW kIf)::.s 32::(iB fn false c++.s 32::.t (tW kThen)::.s 32::(iB fn false a++.s 32::.t (tW kElse)::.s 32::iB fn false b)))++rest=_;simp only[tk_t,tk_s,KZ,List.cons_append,List.append_assoc]
    rw[e0];exact Jld (ec.expr (YT 0 _ (by decide) (by decide))) (ea.expr (YT 0 _ (by decide) (by decide))) (eb.expr hr)
  ·obtain ⟨a,b,rfl⟩:=len2 h3;obtain rfl:=KM h2 (by decide) (by decide) (by decide);have hn:=VK h2;obtain ⟨ha,h5⟩:=KG h4;obtain ⟨hb',_⟩:=KG h5;rw[if_neg (by decide)] at ha;rw[if_pos (by decide)] at hb';have ea:=KD hf a nv (m-1) ha (by omega);have eb:=KD hf b (nv+1) (m-1) hb' (by omega)
   exact .of hh (by simp[Exp.kind]) (by rw[Js]; simp) fun rest hr=>by
    have hl:lvE (.mk 19 n [] [a,b])=0:=by rw[Js]; rfl
    rw[hl] at hr ⊢
    have e0:tk (iB fn false (.mk 19 n [] [a,b]))++rest=tW kLet::tW (vn n)::tS [61]::(tk (iB fn false a)++tW kIn::(tk (iB fn false b)++rest)):=by
     rw[JM];change tk (.t (tW kLet)::.s 32::.t (tW (vn n))::.s 32::.t (tS [61])::.s 32::(iB fn false a++.s 32::.t (tW kIn)::.s 32::iB fn false b))++rest=_;simp only[tk_t,tk_s,KZ,List.cons_append,List.append_assoc]
    rw[e0];exact Jle (KH (by omega) (by omega)) (ea.expr (YT 0 _ (by decide) (by decide))) (eb.expr hr)
  ·obtain rfl:=KM h2 (by decide) (by decide) (by decide);have hn:=K1 h2;have hid:=hf n hn.1 hn.2
   have hall:∀ (i:Nat) (l':List Exp),fitsL pa nv (m-1) 20 i l'=true→∀ a∈l',fitsN pa nv (m-1) a=true:=by
    exact bx42
   have hA:∀ a∈l,EvAll fn a:=fun a ha=>KD hf a nv (m-1) (hall 0 l h4 a ha) (by omega)
   refine .of hh (by simp[Exp.kind]) (by rw[Js]; simp) fun rest hr=>?_
   have hl:lvE (.mk 20 n [] l)=8:=by rw[Js]; rfl
   rw[hl]
   have e0:tk (iB fn false (.mk 20 n [] l))++rest=tW (fn n)::tS [40]::(tk (iA fn l)++tS [41]::rest):=by
    rw[JM];change tk (.t (tW (fn n))::.t (tS [40])::(iA fn l++[.t (tS [41])]))++rest=_;exact bx69
   rw[e0];have e3:sN fn (.mk 20 n [] l)=.mk 20 0 (fn n) 0 (sL fn l):=by rw[sN]; rfl
   rw[e3]
   cases l with
   | nil=>
    rw[iA,sL];exact Jhw hid
   | cons a l=>
    have ha:=hA a (by simp);have:=Jfj (s:=fn n) l [] a rest ha fun b hb=>hA b (by simp[hb])
    rw[iA,sL]
    have hd':Head (lvE a) (tk (iB fn false a++iT fn l)++tS [41]::rest):=by
     rw[KZ,List.append_assoc];exact ha.head.app _
    exact JjG hid hd'.hd.shut this
  ·obtain ⟨a,b,rfl⟩:=len2 (h3.trans (Jdo hbin));have hq:k≠0∧k≠1∧k≠2∧k≠3∧k≠4∧k≠5∧k≠19∧k≠20:=by unfold bin at hbin; omega
   obtain rfl:=KM h2 hq.2.2.2.1 hq.2.2.2.2.1 hq.2.2.2.2.2.1;obtain rfl:=VA h2 hq.1 hq.2.1 hq.2.2.1 hq.2.2.2.2.2.2.1 hq.2.2.2.2.2.2.2;obtain ⟨ha,h5⟩:=rfit1 h4 hq.2.2.2.2.2.2.1;obtain ⟨hb',_⟩:=rfit1 h5 hq.2.2.2.2.2.2.1;have ea:=KD hf a nv (m-1) ha (by omega);have eb:=KD hf b nv (m-1) hb' (by omega);have hs:=Jlm (fn:=fn) hbin a b
   by_cases hloop:loopK k
   ·obtain ⟨lv,hl,hlv,hop,hro⟩:=JjL hloop 0 [] [a,b];have hleft:rleftL lv=lv:=by unfold rleftL; rw[if_neg (by omega)]
    have hL:∀ rest b' r2,Ro (lv+1) rest→Ev (.loop lv 0 (sN fn (.mk k 0 [] [a,b]))) rest b' r2→Ev (.level lv) (tk (iB fn false (.mk k 0 [] [a,b]))++rest) b' r2:=by
     intro rest b' r2 hr hk';rw[JiX hbin [] 0 a b rest hl,hleft];rw[hs] at hk';refine Jfi ea.bare ea.head hlv (fun he=>ea.loop lv hlv he) (hro _) ?_;exact Jei hop (eb.lat (by omega) hr) hk'
    refine ⟨fun rest hr=>?_,fun lv' h1' h2'=>?_,fun h=>?_,hh⟩
    ·rw[hl] at hr ⊢;rw[JjJ (by omega) (by omega) (by omega)];refine hL rest _ _ (hr.mono (by omega)) (KK ?_)
     rcases hlv with rfl | rfl | rfl | rfl
     ·exact hr.l1 (by omega)
     ·exact hr.l2 (by omega)
     ·exact hr.l5 (by omega)
     ·exact hr.l6 (by omega)
    ·rw[hl] at h2';subst h2';exact hL
    ·simp only[Exp.kind] at h;unfold loopK at hloop;omega
   ·have hcmp:k=13∨k=14∨k=15:=by unfold loopK at hloop; unfold bin at hbin; omega
    have hl:lvE (.mk k 0 [] [a,b])=4:=by rcases hcmp with rfl | rfl | rfl <;> (rw[Js]; rfl)
    have hC:∀ (ne:Bool) rest,Ro 4 rest→Ev .cmp (tk (iB fn ne (.mk k 0 [] [a,b]))++rest) (cmpN (symT ne k) k (sN fn a) (sN fn b)) rest:=by
     intro ne rest hr;rw[JiX hbin [] 0 a b rest hl];obtain ⟨q1,q2⟩:=Jll hcmp ne;exact Jci (ea.lat (lv:=5) (by decide) (q2 _)) q1 (eb.lat (lv:=5) (by decide) (hr.mono (by decide)))
    refine ⟨fun rest hr=>?_,fun lv' h1' h2'=>by omega,fun h rest hr=>?_,hh⟩
    ·rw[hl] at hr ⊢;have:=hC false rest hr;rw[hs]
     have e9:cmpN (symT false k) k (sN fn a) (sN fn b)=.mk k 0 [] 0 [sN fn a,sN fn b]:=by
      rcases hcmp with rfl | rfl | rfl <;> (unfold cmpN; rw[Jfe]; rfl)
     rwa [e9] at this
    ·simp only[Exp.kind] at h;subst h;have:=hC true rest hr;rw[hs]
     have e9:cmpN (symT true 15) 15 (sN fn a) (sN fn b)=.mk 7 0 [] 0 [.mk 15 0 [] 0 [sN fn a,sN fn b]]:=by
      unfold cmpN; rw[Jfe]; rfl
     rwa [e9] at this
termination_by e=>SizeOf.sizeOf e
decreasing_by
 all_goals (subst_vars; simp only[Exp.mk.sizeOf_spec,List.cons.sizeOf_spec])
 all_goals first | omega | (have:=List.sizeOf_lt_of_mem ‹_∈_›; omega)
def vars (nv:Nat):List (List UInt8):=(List.range nv).map fun (i:Nat)=>vn (i:Int)
theorem YU (nv:Nat):vars (nv+1)=vars nv++[vn (nv:Int)]:=by simp[vars,List.range_succ]
theorem JhB (nv:Nat):(vars nv).length=nv:=by simp[vars]
theorem JiY {a b:Int} (ha:0≤a) (hA:a<(big:Int)) (hb:0≤b) (hB:b<(big:Int)) (h:vn a=vn b):a=b:=by
 unfold vn at h;injection h with _ h;have e:(big:Int)=1000000000000000000:=by decide
 have h1:=YL (n:=a) (by omega) (by omega);have h2:=YL (n:=b) (by omega) (by omega);rw[h,h2] at h1;injection h1 with h1;exact h1.symm
theorem YV (n:Nat) (hn:n<big):∀ nv,nv≤big→(vars nv).foldl (fun (p:Int × Int) v=>(p.1+1,if v=vn (n:Int) then p.1 else p.2)) (0,-1)=((nv:Int),if n<nv then (n:Int) else -1)
 | 0,_=>rfl
 | nv+1,h=>by
  rw[YU,List.foldl_append,YV n hn nv (by omega)];simp only[List.foldl_cons,List.foldl_nil]
  by_cases e:nv=n
  ·subst e;rw[if_pos rfl,if_pos (by omega)];simp
  ·rw[if_neg (fun h'=>e (by have:=JiY (by omega) (by omega) (by omega) (by omega) h'; omega))]
   by_cases h':n<nv
   ·rw[if_pos h',if_pos (by omega)]; simp
   ·rw[if_neg h',if_neg (by omega)]; simp
theorem Jcm {n:Int} {nv:Nat} (h0:0≤n) (h1:n<(nv:Int)) (hb:nv≤big):lastIx (vars nv) (vn n)=n:=by
 obtain ⟨m,rfl⟩:∃ m:Nat,n=(m:Int):=⟨n.toNat,by omega⟩
 unfold lastIx;rw[YV m (by omega) nv hb];simp only;rw[if_pos (by omega)]
theorem YW:∀ {fs:List (List UInt8)},fs.Nodup→∀ (i:Nat) (s:List UInt8),fs[i]?=some s→firstIx fs s=some i
 | [],_,i,s,h=>by simp at h
 | a::fs,hn,i,s,h=>by
  rw[List.nodup_cons] at hn;unfold firstIx;rw[List.findIdx?_cons]
  cases i with
  | zero=>
   simp only[List.getElem?_cons_zero,Option.some.injEq] at h;rw[if_pos (decide_eq_true h)]
  | succ i=>
   simp only[List.getElem?_cons_succ] at h
   rw[if_neg (by
    simp only[decide_eq_true_eq];rintro rfl
    exact hn.1 (List.mem_of_getElem? h))]
   have:=YW hn.2 i s h;unfold firstIx at this;rw[this];rfl
structure FnAt (fn:Int→List UInt8) (fs:List (List UInt8)):Prop where
 nodup:fs.Nodup
 get:∀ n:Int,0≤n→n<(fs.length:Int)→fs[n.toNat]?=some (fn n)
theorem Jcn (fs vars:List (List UInt8)):resL fs vars []=([],[]):=by rw[resL]
theorem Jaq (fs vars:List (List UInt8)) (a:Nd) (l:List Nd):resL fs vars (a::l)=((resN fs vars a).1::(resL fs vars l).1,(resN fs vars a).2++(resL fs vars l).2):=by rw[resL]
theorem ZW (fs vars:List (List UInt8)) (k n:Int) (s:List UInt8) (o:Int) (l:List Nd):resN fs vars (.mk k n s o l) =
  (if k=2 then
   let r:=resL fs vars l
   (.mk k (lastIx vars s) [] o r.1,(if lastIx vars s<0 then [o] else [])++r.2)
  else if k=20 then
   let r:=resL fs vars l
   (.mk k ((firstIx fs s).getD 0) [] o r.1,(if (firstIx fs s).isNone then [o] else [])++r.2)
  else if k=19 then
   match l with
   | [a,b]=>
    let x:=resN fs vars a
    let y:=resN fs (vars++[s]) b
    (.mk k vars.length [] o [x.1,y.1],x.2++y.2)
   | l=>(.mk k n s o l,[])
  else
   let r:=resL fs vars l
   (.mk k n s o r.1,r.2)):=by
 conv=>lhs; unfold resN
 rfl
mutual
theorem VL {fn:Int→List UInt8} {fs:List (List UInt8)} {pa:List Nat} (hfn:FnAt fn fs) (hp:pa.length=fs.length):∀ (e:Exp) (nv m:Nat),fitsN pa nv m e=true→nv+m≤big→resN fs (vars nv) (sN fn e)=(utN e,[])∧nest (sN fn e)≤m
 | .mk k n s l,nv,m,h,hb=>by
  obtain ⟨h1,h2,h3,h4⟩:=KL h;rw[sN,utN]
  by_cases e2:k=2
  ·subst e2;obtain rfl:=len0 h3;obtain rfl:=KM h2 (by decide) (by decide) (by decide);have hv:=Ve h2;rw[if_pos rfl,sL,utL,ZW,if_pos rfl];simp only[Jcn,Jcm hv.1 hv.2 (show nv≤big by omega)];refine ⟨?_,by rw[nest,nestL]; omega⟩;rw[if_neg (by omega)];rfl
  rw[if_neg e2]
  by_cases e19:k=19
  ·subst e19;obtain ⟨a,b,rfl⟩:=len2 h3;obtain rfl:=KM h2 (by decide) (by decide) (by decide);have hn:=VK h2;obtain ⟨ha,h5⟩:=KG h4;obtain ⟨hb',_⟩:=KG h5;rw[if_neg (by decide)] at ha;rw[if_pos (by decide)] at hb';obtain ⟨ra,na⟩:=VL hfn hp a nv (m-1) ha (by omega);obtain ⟨rb,nb⟩:=VL hfn hp b (nv+1) (m-1) hb' (by omega);rw[if_pos rfl,sL,sL,sL,utL,utL,utL];refine ⟨?_,by rw[nest,nestL,nestL,nestL]; omega⟩;rw[ZW,if_neg (by decide),if_neg (by decide),if_pos rfl];simp only;rw[ra,hn,← YU,rb,JhB];rfl
  rw[if_neg e19];have hm:nestL (sL fn l)≤m-1∧resL fs (vars nv) (sL fn l)=(utL l,[]):=(Jdq hfn hp l nv (m-1) k 0 e19 h4 (by omega))
  by_cases e20:k=20
  ·subst e20;obtain rfl:=KM h2 (by decide) (by decide) (by decide);have hn:=K1 h2;have hg:=YW hfn.nodup _ _ (hfn.get n hn.1 (by omega));rw[if_pos rfl];refine ⟨?_,by rw[nest]; omega⟩;rw[ZW,if_neg (by decide),if_pos rfl];simp only[hm.2,hg,Option.getD_some];rw[show ((n.toNat:Nat):Int)=n by omega];rfl
  ·rw[if_neg e20];refine ⟨?_,by rw[nest]; omega⟩;rw[ZW,if_neg e2,if_neg e20,if_neg e19];simp only[hm.2]
theorem Jdq {fn:Int→List UInt8} {fs:List (List UInt8)} {pa:List Nat} (hfn:FnAt fn fs) (hp:pa.length=fs.length):∀ (l:List Exp) (nv m:Nat) (k:Int) (i:Nat),k≠19→fitsL pa nv m k i l=true→nv+m≤big→nestL (sL fn l)≤m∧resL fs (vars nv) (sL fn l)=(utL l,[])
 | [],nv,m,k,i,_,_,_=>by rw[sL,utL,Jcn,nestL]; exact ⟨by omega,rfl⟩
 | a::l,nv,m,k,i,hk,h,hb=>by
  obtain ⟨h1,h2⟩:=rfit1 h hk;obtain ⟨r1,n1⟩:=VL hfn hp a nv m h1 hb;obtain ⟨n2,r2⟩:=Jdq hfn hp l nv m k (i+1) hk h2 hb;rw[sL,utL,Jaq,nestL,r1,r2];exact ⟨by omega,rfl⟩
end
mutual
theorem Jfk:∀ (e:Exp),treeN (utN e)=e
 | .mk k n s l=>by rw[utN,treeN,Jdr l]
theorem Jdr:∀ (l:List Exp),treeL (utL l)=l
 | []=>by rw[utL,treeL]
 | a::l=>by rw[utL,treeL,Jfk a,Jdr l]
end
def Le {α:Type} (x y:PR α):Prop:=x=.out∨x=y
theorem Le.rfl' {α:Type} (x:PR α):Le x x:=.inr rfl
theorem Le.bind {α β:Type} {x y:PR α} {f g:α→List Tok→PR β} (h:Le x y) (hf:∀ a r,Le (f a r) (g a r)):Le (x.bind f) (y.bind g):=by
 rcases h with rfl | rfl
 ·exact .inl rfl
 ·cases x with
  | out=>exact .inl rfl
  | bad o=>exact .inr rfl
  | ok a r=>exact hf a r
theorem Jds:∀ (f:Nat) (md:Md) (r:List Tok),Le (pM f md r) (pM (f+1) md r)
 | 0,_,_=>.inl (by rw[pM])
 | f+1,md,r=>by
  have ih:=Jds f
  cases md with
  | expr=>
   rw[pM,pM]
   cases acc 0 kLet r with
   | some r1=>exact (Le.rfl' _).bind fun _ _=>(Le.rfl' _).bind fun _ _=>(ih _ _).bind fun _ _=>(Le.rfl' _).bind fun _ _=>(ih _ _).bind fun _ _=>Le.rfl' _
   | none=>
    simp only
    cases acc 0 kIf r with
    | some r1=>exact (ih _ _).bind fun _ _=>(Le.rfl' _).bind fun _ _=>(ih _ _).bind fun _ _=>(Le.rfl' _).bind fun _ _=>(ih _ _).bind fun _ _=>Le.rfl' _
    | none=>exact ih _ _
  | level lv=>
   rw[pM,pM]
   by_cases h3:lv=3
   ·rw[if_pos h3,if_pos h3]
    cases acc 0 kNot r with
    | some r1=>exact (ih _ _).bind fun _ _=>Le.rfl' _
    | none=>exact ih _ _
   ·rw[if_neg h3,if_neg h3]
    by_cases h7:lv=7
    ·rw[if_pos h7,if_pos h7]
     cases acc 3 [45] r with
     | some r1=>exact (ih _ _).bind fun _ _=>Le.rfl' _
     | none=>exact ih _ _
    ·rw[if_neg h7,if_neg h7];exact (ih _ _).bind fun _ _=>ih _ _
  | loop lv o a=>
   rw[pM,pM]
   cases opK lv (hd r) with
   | none=>exact Le.rfl' _
   | some k=>exact (ih _ _).bind fun _ _=>ih _ _
  | cmp=>
   rw[pM,pM];refine (ih _ _).bind fun a r1=>?_
   cases cmpK (hd r1) with
   | none=>exact Le.rfl' _
   | some k=>exact (ih _ _).bind fun _ _=>Le.rfl' _
  | prim=>
   rw[pM,pM]
   by_cases h1:(hd r).kind=1
   ·rw[if_pos h1,if_pos h1]; exact Le.rfl' _
   rw[if_neg h1,if_neg h1]
   cases acc 3 [40] r with
   | some r1=>exact (ih _ _).bind fun _ _=>Le.rfl' _
   | none=>
    simp only
    cases acc 0 kFalse r with
    | some r1=>exact Le.rfl' _
    | none=>
     simp only
     cases acc 0 kTrue r with
     | some r1=>exact Le.rfl' _
     | none=>
      simp only
      cases acc 0 kLabel r with
      | some r1=>exact Le.rfl' _
      | none=>
       simp only
       cases acc 0 kWord r with
       | some r1=>exact Le.rfl' _
       | none=>
        simp only
        by_cases h2:(factI (hd r).text).isSome∧(hd r).kind=0
        ·rw[if_pos h2,if_pos h2]; exact Le.rfl' _
        ·rw[if_neg h2,if_neg h2]; exact ih _ _
  | named=>
   rw[pM,pM];refine (Le.rfl' _).bind fun nm r1=>?_
   cases acc 3 [40] r1 with
   | none=>exact Le.rfl' _
   | some r2=>
    simp only
    cases acc 3 [41] r2 with
    | some r3=>exact Le.rfl' _
    | none=>exact ih _ _
  | args nm o l=>
   rw[pM,pM];refine (ih _ _).bind fun a r1=>?_
   cases acc 3 [44] r1 with
   | some r2=>exact ih _ _
   | none=>exact Le.rfl' _
theorem Jfl {f:Nat} {md:Md} {r:List Tok} (h:pM f md r≠.out):∀ d,pM (f+d) md r=pM f md r
 | 0=>rfl
 | d+1=>by
  have ih:=Jfl h d
  rcases Jds (f+d) md r with h1 | h1
  ·rw[ih] at h1; exact absurd h1 h
  ·rw[← Nat.add_assoc,← h1,ih]
theorem Ev.at {r r1:List Tok} {a:Nd} (h:Ev .expr r a r1) {f:Nat} (hf:12*r.length+12≤f):pM f .expr r=.ok a r1:=by
 obtain ⟨f0,h⟩:=h;have hn:pM f .expr r≠.out:=JU f .expr r trivial (by rw[rankM]; omega);rw[← Jfl hn f0];exact h _ (by omega)
end Go.Proofs.YtdlkcjkjnehnkaaGreatDoor
