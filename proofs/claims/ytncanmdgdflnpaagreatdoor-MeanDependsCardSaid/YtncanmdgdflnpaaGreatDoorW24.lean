import Derived.Defers
import Derived.Recover
import Derived.Test.YtncanmdgdflnpaaGreatDoorW23
namespace Go.Proofs.YtncanmdgdflnpaaGreatDoor
open _root_.Go.Proofs.Tryz
set_option linter.all false
set_option maxRecDepth 100000
set_option maxHeartbeats 32000000
def Sh (r:List Tok):Prop:=∀ t∈r,t.text.length≤1000000
theorem Sh.tail {r:List Tok} (h:Sh r):Sh r.tail:=fun t ht=>h t (List.mem_of_mem_tail ht)
theorem Sh.hd {r:List Tok} (h:Sh r):(hd r).text.length≤1000000:=by
 cases r with
 | nil=>show ([]:List UInt8).length≤_; simp
 | cons a l=>exact h a (by simp)
theorem Ki {k:Int} {s:List UInt8} {r r':List Tok} (hs:Sh r) (h:acc k s r=some r'):Sh r':=by
 unfold acc at h;split at h
 ·injection h with h;subst h;exact hs.tail
 ·cases h
theorem JU {k:Int} {s:List UInt8} {r r':List Tok} {u:Unit} (hs:Sh r) (h:accept k s r=.ok u r'):Sh r':=by
 unfold accept at h;split at h
 ·rename_i r1 h1;injection h with h0 h;subst h;exact Ki hs h1
 ·cases h
theorem VI {r r':List Tok} {nm:List UInt8 × Int} (hs:Sh r) (h:identP r=.ok nm r'):Sh r'∧nm.1.length≤1000000:=by
 unfold identP at h;split at h
 ·injection h with h0 h;subst h h0;exact ⟨hs.tail,hs.hd⟩
 ·cases h
theorem JcV {r r':List Tok} {s:List UInt8} (hs:Sh r) (h:textP r=.ok s r'):Sh r'∧s.length≤1000000:=by
 unfold textP at h;split at h
 ·injection h with h0 h;subst h h0;exact ⟨hs.tail,hs.hd⟩
 ·cases h
theorem JdP {r r':List Tok} {s:List UInt8} (hs:Sh r) (h:quotedP r=.ok s r'):Sh r'∧s.length≤1000000:=by
 unfold quotedP at h;obtain ⟨_,r1,h1,h⟩:=Jd h;obtain ⟨_,r2,h2,h⟩:=Jd h;obtain ⟨_,r3,h3,h⟩:=Jd h;injection h with h0 h;subst h h0;have s1:=JU hs h1;obtain ⟨s2,g2⟩:=JcV s1 h2;exact ⟨JU s2 h3,g2⟩
theorem Jfh {r r':List Tok} {t:Int} (hs:Sh r) (h:typP r=.ok t r'):Sh r':=by
 unfold typP at h;split at h
 ·rename_i r1 h1;injection h with h0 h;subst h;exact Ki hs h1
 ·split at h
  ·rename_i r1 h1;injection h with h0 h;subst h;exact Ki hs h1
  ·cases h
theorem JiR {r r':List Tok} {t:Int} (hs:Sh r) (h:actP r=.ok t r'):Sh r':=by
 unfold actP at h
 repeat' split at h
 all_goals first
  | (rename_i r1 h1; injection h with h0 h; subst h; exact Ki hs h1)
  | cases h
theorem KV {k n:Int} {s:List UInt8} {o:Int} {l:List Nd}:WfN (.mk k n s o l)↔(k=19→l.length=2)∧(k=15→l.length=2)∧(k=18→l.length=3)∧s.length≤1000000∧WfL l:=by unfold WfN; rfl
theorem JN {a:Nd} {l:List Nd}:WfL (a::l)↔WfN a∧WfL l:=by rw[WfL]
theorem K5:WfL []:=by unfold WfL; trivial
theorem Jfi {l:List Nd} {a:Nd} (h:WfL l) (ha:WfN a):WfL (l++[a]):=by
 induction l with
 | nil=>exact JN.2 ⟨ha,K5⟩
 | cons x r ih=>
  have:=JN.1 h;exact JN.2 ⟨this.1,ih this.2⟩
theorem JiS {a:Nd} (h:WfN a) (o:Int):WfN (.mk a.kind a.num a.name o a.kids):=by cases a; rw[KV] at *; exact h
theorem wf1 {k:Int} {n:Int} {s:List UInt8} {o:Int} {a:Nd} (h19:k≠19) (h15:k≠15) (h18:k≠18) (hs:s.length≤1000000) (ha:WfN a):WfN (.mk k n s o [a]):=
 KV.2 ⟨fun h=>absurd h h19,fun h=>absurd h h15,fun h=>absurd h h18,hs,JN.2 ⟨ha,K5⟩⟩
theorem wf0 {k:Int} {n:Int} {s:List UInt8} {o:Int} (h19:k≠19) (h15:k≠15) (h18:k≠18) (hs:s.length≤1000000):WfN (.mk k n s o []):=
 KV.2 ⟨fun h=>absurd h h19,fun h=>absurd h h15,fun h=>absurd h h18,hs,K5⟩
theorem wf2 {k:Int} {n:Int} {s:List UInt8} {o:Int} {a b:Nd} (h18:k≠18) (hs:s.length≤1000000) (ha:WfN a) (hb:WfN b):WfN (.mk k n s o [a,b]):=
 KV.2 ⟨fun _=>rfl,fun _=>rfl,fun h=>absurd h h18,hs,JN.2 ⟨ha,JN.2 ⟨hb,K5⟩⟩⟩
theorem wx143 {P:Prop}(h:P:=by
  unfold opK at h
  repeat' split at h
  all_goals first
   | (injection h with h; subst h; decide)
   | cases h):P:=h
theorem JjY {lv:Nat} {t:Tok} {k:Int} (h:opK lv t=some k):k≠18:=by
 exact wx143
theorem wx142 {P:Prop}(h:P:=by
  unfold cmpK at h
  repeat' split at h
  all_goals first
   | (injection h with h; subst h; decide)
   | cases h):P:=h
theorem JiT {t:Tok} {k:Int} (h:cmpK t=some k):k≠18:=by
 exact wx142
theorem JiU {t:Tok} {k:Int} {a b:Nd} (h18:k≠18) (ha:WfN a) (hb:WfN b):WfN (cmpN t k a b):=by
 unfold cmpN;split
 ·exact wf2 h18 (by simp) hb ha
 ·split
  ·exact wf1 (by decide) (by decide) (by decide) (by simp) (wf2 h18 (by simp) ha hb)
  ·exact wf2 h18 (by simp) ha hb
def extW:Md→Prop
 | .loop _ _ a=>WfN a
 | .args nm _ l=>nm.length≤1000000∧WfL l
 | _=>True
theorem wx80 {P:Prop}(h:P:=by
  obtain ⟨_,r2,h2,h⟩:=Jd h;injection h with h0 h;subst h h0;obtain ⟨g2,s2⟩:=Kx f _ _ _ _ (Ki hs h1) h2 trivial
  exact ⟨wf1 (by decide) (by decide) (by decide) (by simp) g2,s2⟩):P:=h
theorem wx89 {P:Prop}(h:P:=by
  obtain ⟨_,r2,h2,h⟩:=Jd h;injection h with h0 h;subst h h0;obtain ⟨s2,g2⟩:=JdP (Ki hs h1) h2
  exact ⟨wf0 (by decide) (by decide) (by decide) g2,s2⟩):P:=h
theorem wx135 {P:Prop}(h:P:=by
  injection h with h0 h;subst h h0
  exact ⟨wf0 (by decide) (by decide) (by decide) (by simp),Ki hs h1⟩):P:=h
theorem Kx:∀ (f:Nat) (md:Md) (r r':List Tok) (a:Nd),Sh r→pM f md r=.ok a r'→extW md→WfN a∧Sh r'
 | 0,md,r,r',a,hs,h,he=>by unfold pM at h; cases h
 | f+1,.expr,r,r',a,hs,h,he=>by
  rw[pM] at h;split at h
  ·rename_i r1 h1;obtain ⟨_,r2,h2,h⟩:=Jd h;obtain ⟨_,r3,h3,h⟩:=Jd h;obtain ⟨_,r4,h4,h⟩:=Jd h;obtain ⟨_,r5,h5,h⟩:=Jd h;obtain ⟨_,r6,h6,h⟩:=Jd h;injection h with h0 h;subst h h0;have s1:=Ki hs h1;obtain ⟨s2,g2⟩:=VI s1 h2;have s3:=JU s2 h3;obtain ⟨g4,s4⟩:=Kx f _ _ _ _ s3 h4 trivial;have s5:=JU s4 h5;obtain ⟨g6,s6⟩:=Kx f _ _ _ _ s5 h6 trivial;exact ⟨wf2 (by decide) g2 g4 g6,s6⟩
  ·split at h
   ·rename_i r1 h1;obtain ⟨_,r2,h2,h⟩:=Jd h;obtain ⟨_,r3,h3,h⟩:=Jd h;obtain ⟨_,r4,h4,h⟩:=Jd h;obtain ⟨_,r5,h5,h⟩:=Jd h;obtain ⟨_,r6,h6,h⟩:=Jd h;injection h with h0 h;subst h h0;have s1:=Ki hs h1;obtain ⟨g2,s2⟩:=Kx f _ _ _ _ s1 h2 trivial;have s3:=JU s2 h3;obtain ⟨g4,s4⟩:=Kx f _ _ _ _ s3 h4 trivial;have s5:=JU s4 h5;obtain ⟨g6,s6⟩:=Kx f _ _ _ _ s5 h6 trivial;exact ⟨KV.2 ⟨fun h=>absurd h (by decide),fun h=>absurd h (by decide),fun _=>rfl,by simp,JN.2 ⟨g2,JN.2 ⟨g4,JN.2 ⟨g6,K5⟩⟩⟩⟩,s6⟩
   ·exact Kx f _ _ _ _ hs h trivial
 | f+1,.level lv,r,r',a,hs,h,he=>by
  rw[pM] at h;split at h
  ·split at h
   ·rename_i r1 h1;exact wx80
   ·exact Kx f _ _ _ _ hs h trivial
  ·split at h
   ·split at h
    ·rename_i r1 h1;exact wx80
    ·exact Kx f _ _ _ _ hs h trivial
   ·obtain ⟨_,r1,h1,h⟩:=Jd h;obtain ⟨g1,s1⟩:=Kx f _ _ _ _ hs h1 trivial;exact Kx f _ _ _ _ s1 h g1
 | f+1,.loop lv o b,r,r',a,hs,h,he=>by
  rw[pM] at h;split at h
  ·injection h with h0 h;subst h h0;exact ⟨he,hs⟩
  ·rename_i k hk;obtain ⟨_,r1,h1,h⟩:=Jd h;obtain ⟨g1,s1⟩:=Kx f _ _ _ _ hs.tail h1 trivial;exact Kx f _ _ _ _ s1 h (show WfN _ from wf2 (JjY hk) (by simp) he g1)
 | f+1,.cmp,r,r',a,hs,h,he=>by
  rw[pM] at h;obtain ⟨x,r1,h1,h⟩:=Jd h;obtain ⟨g1,s1⟩:=Kx f _ _ _ _ hs h1 trivial;split at h
  ·injection h with h0 h;subst h h0;exact ⟨g1,s1⟩
  ·rename_i k hk;obtain ⟨y,r2,h2,h⟩:=Jd h;obtain ⟨g2,s2⟩:=Kx f _ _ _ _ s1.tail h2 trivial;injection h with h0 h;subst h h0;exact ⟨JiU (JiT hk) g1 g2,s2⟩
 | f+1,.prim,r,r',a,hs,h,he=>by
  rw[pM] at h;split at h
  ·injection h with h0 h;subst h h0;exact ⟨wf0 (by decide) (by decide) (by decide) (by simp),hs.tail⟩
  split at h
  ·rename_i r1 h1;obtain ⟨x,r2,h2,h⟩:=Jd h;obtain ⟨_,r3,h3,h⟩:=Jd h;injection h with h0 h;subst h h0;obtain ⟨g2,s2⟩:=Kx f _ _ _ _ (Ki hs h1) h2 trivial;exact ⟨JiS g2 _,JU s2 h3⟩
  split at h
  ·rename_i r1 h1;exact wx135
  split at h
  ·rename_i r1 h1;exact wx135
  split at h
  ·rename_i r1 h1;exact wx89
  split at h
  ·rename_i r1 h1;exact wx89
  split at h
  ·injection h with h0 h;subst h h0;exact ⟨wf0 (by decide) (by decide) (by decide) hs.hd,hs.tail⟩
  ·exact Kx f _ _ _ _ hs h trivial
 | f+1,.named,r,r',a,hs,h,he=>by
  rw[pM] at h;obtain ⟨nm,r1,h1,h⟩:=Jd h;obtain ⟨s1,g1⟩:=VI hs h1;split at h
  ·injection h with h0 h;subst h h0;exact ⟨wf0 (by decide) (by decide) (by decide) g1,s1⟩
  ·rename_i r2 h2;split at h
   ·rename_i r3 h3;injection h with h0 h;subst h h0;exact ⟨wf0 (by decide) (by decide) (by decide) g1,Ki (Ki s1 h2) h3⟩
   ·exact Kx f _ _ _ _ (Ki s1 h2) h (show _∧_ from ⟨g1,K5⟩)
 | f+1,.args nm o l,r,r',a,hs,h,he=>by
  obtain ⟨he1,he2⟩:nm.length≤1000000∧WfL l:=he;rw[pM] at h;obtain ⟨x,r1,h1,h⟩:=Jd h;obtain ⟨g1,s1⟩:=Kx f _ _ _ _ hs h1 trivial;split at h
  ·rename_i r2 h2;exact Kx f _ _ _ _ (Ki s1 h2) h (show _∧_ from ⟨he1,Jfi he2 g1⟩)
  ·obtain ⟨_,r2,h2,h⟩:=Jd h;injection h with h0 h;subst h h0;exact ⟨KV.2 ⟨fun h=>absurd h (by decide),fun h=>absurd h (by decide),fun h=>absurd h (by decide),he1,Jfi he2 g1⟩,JU s1 h2⟩
def FnWf (f:FnS):Prop:=WfN f.body∧f.name.1.length≤1000000
def ClWf (c:ClS):Prop:=WfN c.cond
theorem Zq:∀ (f:Nat) (ps:List (List UInt8 × Int)) (ts:List Int) (r r':List Tok) a,Sh r→paramsP f ps ts r=.ok a r'→Sh r'
 | 0,_,_,_,_,_,_,h=>by cases h
 | f+1,ps,ts,r,r',a,hs,h=>by
  rw[paramsP] at h;obtain ⟨_,r1,h1,h⟩:=Jd h;obtain ⟨_,r2,h2,h⟩:=Jd h;obtain ⟨_,r3,h3,h⟩:=Jd h;have s3:=Jfh (JU (VI hs h1).1 h2) h3;split at h
  ·rename_i r4 h4;exact Zq f _ _ _ _ _ (Ki s3 h4) h
  ·obtain ⟨_,r4,h4,h⟩:=Jd h;injection h with h0 h;subst h h0;exact JU s3 h4
theorem JiV {f:Nat} {r r':List Tok} {x:FnS} (hs:Sh r) (h:funP f r=.ok x r'):FnWf x∧Sh r':=by
 unfold funP at h;obtain ⟨nm,r1,h1,h⟩:=Jd h;obtain ⟨_,r2,h2,h⟩:=Jd h;obtain ⟨pt,r3,h3,h⟩:=Jd h;obtain ⟨_,r4,h4,h⟩:=Jd h;obtain ⟨_,r5,h5,h⟩:=Jd h;obtain ⟨_,r6,h6,h⟩:=Jd h;obtain ⟨_,r7,h7,h⟩:=Jd h;injection h with h0 h;subst h h0;obtain ⟨s1,g1⟩:=VI hs h1;have s2:=JU s1 h2
 have s3:Sh r3:=by
  split at h3
  ·rename_i r9 h9;injection h3 with h0 h3;subst h3;exact Ki s2 h9
  ·exact Zq _ _ _ _ _ _ s2 h3
 have s6:=JU (Jfh (JU s3 h4) h5) h6;obtain ⟨g7,s7⟩:=Kx _ _ _ _ _ s6 h7 trivial;exact ⟨⟨g7,g1⟩,s7⟩
theorem JcW (g:Nat):∀ (f:Nat) (l:List FnS) (r r':List Tok) a,Sh r→(∀ x∈l,FnWf x)→funsP g f l r=.ok a r'→(∀ x∈a,FnWf x)∧Sh r'
 | 0,_,_,_,_,_,_,h=>by cases h
 | f+1,l,r,r',a,hs,hl,h=>by
  rw[funsP] at h;split at h
  ·rename_i r1 h1;obtain ⟨x,r2,h2,h⟩:=Jd h;obtain ⟨g1,g2⟩:=JiV (Ki hs h1) h2
   exact JcW g f _ _ _ _ g2 (by
    intro y hy
    rcases List.mem_append.1 hy with hy | hy
    ·exact hl y hy
    ·obtain rfl:y=x:=by simpa using hy
     exact g1) h
  ·injection h with h0 h;subst h h0;exact ⟨hl,hs⟩
theorem YU (g:Nat):∀ (f:Nat) (l:List ClS) (r r':List Tok) a,Sh r→(∀ x∈l,ClWf x)→clausesP g f l r=.ok a r'→(∀ x∈a,ClWf x)∧Sh r'
 | 0,_,_,_,_,_,_,h=>by cases h
 | f+1,l,r,r',a,hs,hl,h=>by
  rw[clausesP] at h;split at h
  ·rename_i r1 h1;obtain ⟨x,r2,h2,h⟩:=Jd h;obtain ⟨_,r3,h3,h⟩:=Jd h;obtain ⟨_,r4,h4,h⟩:=Jd h;obtain ⟨_,r5,h5,h⟩:=Jd h;obtain ⟨g1,s2⟩:=Kx _ _ _ _ _ (Ki hs h1) h2 trivial;have s4:=JiR (JU s2 h3) h4
   exact YU g f _ _ _ _ (JcV s4 h5).1 (by
    intro y hy
    rcases List.mem_append.1 hy with hy | hy
    ·exact hl y hy
    ·obtain rfl:y=_:=by simpa using hy
     exact g1) h
  ·injection h with h0 h;subst h h0;exact ⟨hl,hs⟩
theorem JiW {f:Nat} {r r':List Tok} {s:Src} (hs:Sh r) (h:srcP f r=.ok s r'):(∀ x∈s.funcs,FnWf x)∧∀ x∈s.clauses,ClWf x:=by
 unfold srcP at h;obtain ⟨fs,r1,h1,h⟩:=Jd h;obtain ⟨cs,r2,h2,h⟩:=Jd h;obtain ⟨_,r3,h3,h⟩:=Jd h;obtain ⟨_,r4,h4,h⟩:=Jd h;obtain ⟨g1,s1⟩:=JcW _ _ _ _ _ _ hs (by simp) h1;obtain ⟨g2,s2⟩:=YU _ _ _ _ _ _ s1 (by simp) h2;split at h
 ·injection h with h0 h;subst h0;exact ⟨g1,g2⟩
 ·cases h
theorem Zr {fs:List (List UInt8)} {s:List UInt8} {k:Nat} (h:firstIx fs s=some k):k<fs.length:=by
 unfold firstIx at h;rw[List.findIdx?_eq_some_iff_findIdx_eq] at h;exact h.1
theorem wx100 {P:Prop}(h:P:=by
  subst hk
  exact ⟨KV.2 ⟨fun h=>absurd h (by decide),fun h=>absurd h (by decide),fun h=>absurd h (by decide),by simp,q1⟩,by rw[JA,JA,q2]⟩):P:=h
mutual
theorem YV (fs:List (List UInt8)):∀ (vars:List (List UInt8)) (a:Nd),WfN a→WfN (resN fs vars a).1∧siz (resN fs vars a).1=siz a
 | vars,.mk k n s o l,h=>by
  rw[KV] at h;obtain ⟨w19,w15,w18,ws,wl⟩:=h;rw[K2];obtain ⟨q1,q2,q3⟩:=Jfj fs vars l wl;split
  ·rename_i hk;exact wx100
  split
  ·rename_i hk;exact wx100
  split
  ·rename_i hk;subst hk
   match l,w19 rfl,wl with
   | [a,b],_,wl=>
    rw[JN,JN] at wl;obtain ⟨x1,x2⟩:=YV fs vars a wl.1;obtain ⟨y1,y2⟩:=YV fs (vars++[s]) b wl.2.1;exact ⟨wf2 (by decide) (by simp) x1 y1,by simp only[JA,Ju,JG,x2,y2]⟩
  ·exact ⟨KV.2 ⟨fun h=>by rw[q3]; exact w19 h,fun h=>by rw[q3]; exact w15 h,fun h=>by rw[q3]; exact w18 h,ws,q1⟩,by rw[JA,JA,q2]⟩
theorem Jfj (fs:List (List UInt8)):∀ (vars:List (List UInt8)) (l:List Nd),WfL l→WfL (resL fs vars l).1∧sizL (resL fs vars l).1=sizL l∧(resL fs vars l).1.length=l.length
 | vars,[],h=>by rw[resL]; exact ⟨K5,rfl,rfl⟩
 | vars,a::l,h=>by
  rw[JN] at h;rw[resL];obtain ⟨x1,x2⟩:=YV fs vars a h.1;obtain ⟨y1,y2,y3⟩:=Jfj fs vars l h.2;exact ⟨JN.2 ⟨x1,y1⟩,by simp only[Ju,x2,y2],by simp only[List.length_cons,y3]⟩
end
theorem Jae {nf nv:Nat} {k n:Int} {s:List UInt8} {o:Int} {l:List Nd} (h2:k=2→0≤n∧n<nv) (h20:k=20→0≤n∧n<nf) (h19:k≠19) (hl:TyOkL nf nv l):TyOk nf nv (.mk k n s o l):=by
 unfold TyOk;refine ⟨h2,h20,?_⟩;rw[zzq h19];exact hl
mutual
theorem YW (fs:List (List UInt8)):∀ (vars:List (List UInt8)) (a:Nd),WfN a→(resN fs vars a).2=[]→TyOk fs.length vars.length (resN fs vars a).1
 | vars,.mk k n s o l,hw,h=>by
  rw[KV] at hw;obtain ⟨w19,w15,w18,ws,wl⟩:=hw;rw[K2] at h ⊢;split at h
  ·rename_i hk;subst hk;rw[if_pos rfl];simp only[List.append_eq_nil_iff] at h;have hx:=(VC s _ vars rfl).2;have hlt:¬ lastIx vars s<0:=fun hc=>by rw[if_pos hc] at h; exact absurd h.1 (by simp)
   exact Jae (fun _=>⟨by omega,hx⟩) (fun h=>absurd h (by decide)) (by decide) (Jaf fs vars l wl h.2)
  rename_i hk2;rw[if_neg hk2];split at h
  ·rename_i hk;subst hk;rw[if_pos rfl];simp only[List.append_eq_nil_iff] at h
   cases hf:firstIx fs s with
   | none=>
    rw[hf] at h;simp at h
   | some q=>
    have hlt:=Zr hf;exact Jae (fun h=>absurd h (by decide)) (fun _=>⟨by simp[Option.getD],by simp only[Option.getD]; omega⟩) (by decide) (Jaf fs vars l wl h.2)
  rename_i hk20;rw[if_neg hk20];split at h
  ·rename_i hk;subst hk;rw[if_pos rfl]
   match l,w19 rfl,wl,h with
   | [a,b],_,wl,h=>
    rw[JN,JN] at wl;simp only[List.append_eq_nil_iff] at h;have x:=YW fs vars a wl.1 h.1;have y:=YW fs (vars++[s]) b wl.2.1 h.2;rw[List.length_append,List.length_singleton] at y;unfold TyOk;exact ⟨fun h=>absurd h (by decide),fun h=>absurd h (by decide),x,y⟩
  ·rename_i hk19;rw[if_neg hk19];exact Jae (fun h=>absurd h hk2) (fun h=>absurd h hk20) hk19 (Jaf fs vars l wl h)
theorem Jaf (fs:List (List UInt8)):∀ (vars:List (List UInt8)) (l:List Nd),WfL l→(resL fs vars l).2=[]→TyOkL fs.length vars.length (resL fs vars l).1
 | vars,[],hw,h=>by rw[resL]; unfold TyOkL; trivial
 | vars,a::l,hw,h=>by
  rw[JN] at hw;rw[resL] at h ⊢;simp only[List.append_eq_nil_iff] at h;unfold TyOkL;exact ⟨YW fs vars a hw.1 h.1,Jaf fs vars l hw.2 h.2⟩
end
theorem VZ {l:List Int} (h:least l=none):l=[]:=by
 cases l with
 | nil=>rfl
 | cons a l=>rw[least] at h; cases h
theorem Zs {s:Src} {m:Nat} (h1:∀ f∈s.funcs,FnWf f∧siz f.body≤m∧f.types.length≤m∧f.params.length=f.types.length) (h2:∀ c∈s.clauses,ClWf c∧siz c.cond≤m) (he:least (resolveM s).2=none) :
  (∀ f∈(resolveM s).1.funcs,WfN f.body∧siz f.body≤m∧f.types.length≤m∧TyOk (resolveM s).1.funcs.length f.types.length f.body)∧(∀ c∈(resolveM s).1.clauses,WfN c.cond∧siz c.cond≤m∧TyOk (resolveM s).1.funcs.length 0 c.cond)∧(resolveM s).1.funcs.length=s.funcs.length∧(resolveM s).1.clauses.length=s.clauses.length:=by
 have hn:=VZ he;unfold resolveM at hn ⊢;simp only[List.append_eq_nil_iff,List.flatten_eq_nil_iff] at hn;obtain ⟨⟨_,e1⟩,e2⟩:=hn;have hfl:(s.funcs.map (·.name.1)).length=s.funcs.length:=by simp
 refine ⟨fun f hf=>?_,fun c hc=>?_,by simp,by simp⟩
 ·simp only[List.mem_map] at hf;obtain ⟨_,⟨g,hg,rfl⟩,rfl⟩:=hf;obtain ⟨q1,q2,q3,q4⟩:=h1 g hg;have e:=e1 (resF (s.funcs.map (·.name.1)) g).2 (List.mem_map.2 ⟨_,List.mem_map.2 ⟨g,hg,rfl⟩,rfl⟩);unfold resF at e;simp only[List.append_eq_nil_iff] at e;obtain ⟨w1,w2⟩:=YV (s.funcs.map (·.name.1)) (g.params.map (·.1)) g.body q1.1;have ty:=YW (s.funcs.map (·.name.1)) (g.params.map (·.1)) g.body q1.1 e.2;rw[List.length_map,List.length_map,q4] at ty;refine ⟨w1,by show siz (resN _ _ _).1≤m; rw[w2]; exact q2,q3,?_⟩;simp only[List.length_map];exact ty
 ·simp only[List.mem_map] at hc;obtain ⟨_,⟨g,hg,rfl⟩,rfl⟩:=hc;obtain ⟨q1,q2⟩:=h2 g hg;have e:=e2 (resC (s.funcs.map (·.name.1)) g).2 (List.mem_map.2 ⟨_,List.mem_map.2 ⟨g,hg,rfl⟩,rfl⟩);unfold resC at e;obtain ⟨w1,w2⟩:=YV (s.funcs.map (·.name.1)) [] g.cond q1;have ty:=YW (s.funcs.map (·.name.1)) [] g.cond q1 e;rw[List.length_map] at ty;refine ⟨w1,by show siz (resN _ _ _).1≤m; rw[w2]; exact q2,?_⟩;simp only[List.length_map];exact ty
end Go.Proofs.YtncanmdgdflnpaaGreatDoor
namespace Go.Proofs.YtncanmdgdflnpaaGreatDoor
open Go.ChangeShapes Go.WideShapes Go.ChangeAt Go.RowKit Go.Lib
open _root_.Go.Proofs.Tryz
set_option linter.all false
set_option maxRecDepth 100000
set_option maxHeartbeats 32000000
theorem Jch (p q s:Addr) (w:World) :
  CallsD prog 33 #[.pointer (some p),.pointer (some q),.pointer (some s)] .returning w fun e u' w'=>e=.returned (.tuple #[])∧u'=.returning∧Below w.heap.size w w':=by
 have ta:∀ w,(Instr.typeAssert .nilIface 20 69 true).run prog w=.ok (.tuple #[.agg #[.int .i64 0,.int .i64 0],.bool false]) w:=fun _=>by kernel_rfl
 refine callsD_of_wpS func33 rfl fun c₀ cs hu=>?_
 apply wpS_seq;apply wpS_region;simp[wpOpsS,go_sem,recoverD,hu,ntmps33,Exit.thenS,ta];apply wpS_seq;apply wpS_region;simp[wpOpsS,go_sem,Exit.thenS];refine wpS_cond (t:=false) (by simp[Act.eval,Array.replicate]) ?_;simp only[Bool.false_eq_true,if_false];refine wpS_of_wp (wp_skip ?_)
 cases c₀
 simp only[bodyPostS,results,Tryz.results33];refine ⟨by simp,.returning,by simp_all,.tuple #[],by simp[go_sem],rfl,rfl,zzb.alloc zzl _⟩
theorem Jfk {r e a:Nat} (er o:Int) {f0 f1 f2 e0 a0:Value} {w:World} {tr te ta:Nat} (hr:w.heap[r]?=some (.cells #[f0,f1,f2] tr (0,0))) (he:w.heap[e]?=some (.cells #[e0] te (0,0))) (ha:w.heap[a]?=some (.cells #[a0] ta (0,0))) (h1:r≠e) (h2:r≠a) (h3:e≠a) (X:Obj) :
  ∀ W,W=((((((w.setCell ⟨r,0,none⟩ (.slice none 0 0)).setCell ⟨r,1,none⟩ (.slice none 0 0)).setCell ⟨r,2,none⟩ (.int .i64 0)).setCell ⟨e,0,none⟩ (.int .i64 er)).setCell ⟨a,0,none⟩ (.int .i64 o)).alloc X).drew→
  W.heap[r]?=some (.cells #[.slice none 0 0,.slice none 0 0,.int .i64 0] tr (0,0))∧W.heap[e]?=some (.cells #[.int .i64 er] te (0,0))∧W.heap[a]?=some (.cells #[.int .i64 o] ta (0,0))∧Chg [r,e,a] w W:=by
 rintro W rfl;have g1:=blk3Z (.slice none 0 0) (.slice none 0 0) (.int .i64 0) hr
 have g2:((((w.setCell ⟨r,0,none⟩ (.slice none 0 0)).setCell ⟨r,1,none⟩ (.slice none 0 0)).setCell ⟨r,2,none⟩ (.int .i64 0)).setCell ⟨e,0,none⟩ (.int .i64 er)).heap[e]?=some (.cells #[.int .i64 er] te (0,0)):=
  heap_setCell_same _ _ 0 _ _ _ (Jh (Jh (Jh he (fun h=>h1 h.symm) _) (fun h=>h1 h.symm) _) (fun h=>h1 h.symm) _)
 refine ⟨?_,?_,?_,?_⟩
 ·show ((World.alloc _ X).heap)[r]?=_
  exact Jf (Jh (Jh g1 h1 _) h2 _)
 ·show ((World.alloc _ X).heap)[e]?=_
  exact Jf (Jh g2 h3 _)
 ·show ((World.alloc _ X).heap)[a]?=_
  refine Jf (heap_setCell_same _ _ 0 _ _ _ (Jh (Jh (Jh (Jh ha (fun h=>h2 h.symm) _) (fun h=>h2 h.symm) _) (fun h=>h2 h.symm) _) (fun h=>h3 h.symm) _))
 ·exact ((((((Chg.refl _ _).setCell (.inl (by simp)) _).setCell (.inl (by simp)) _).setCell (.inl (by simp)) _).setCell (.inl (by simp)) _).setCell (.inl (by simp)) _).alloc _ |>.drew
theorem Yc (r e a:Nat) (er o:Int) (older:List PanicEntry) (f0 f1 f2:Value) (e0 a0:Int) (w:World) (hr:w.heap[r]?=some (.cells #[f0,f1,f2] 30 (0,0))) (he:w.heap[e]?=some (.cells #[.int .i64 e0] 31 (0,0))) (ha:w.heap[a]?=some (.cells #[.int .i64 a0] 3 (0,0))) (h1:r≠e) (h2:r≠a) (h3:e≠a) :
  CallsD prog 33 #[.pointer (some ⟨r,0,none⟩),.pointer (some ⟨e,0,none⟩),.pointer (some ⟨a,0,none⟩)] (.panicking ({ v:=failE er o,recovered:=false }::older)) w fun en u' w'=>
   en=.returned (.tuple #[])∧u'=.panicking ({ v:=failE er o,recovered:=true }::older)∧w'.heap[r]?=some (.cells #[.slice none 0 0,.slice none 0 0,.int .i64 0] 30 (0,0))∧w'.heap[e]?=some (.cells #[.int .i64 er] 31 (0,0))∧w'.heap[a]?=some (.cells #[.int .i64 o] 3 (0,0))∧Chg [r,e,a] w w':=by
 have ta:∀ w,(Instr.typeAssert (failE er o) 20 69 true).run prog w=.ok (.tuple #[.agg #[.int .i64 er,.int .i64 o],.bool true]) w:=fun _=>by kernel_rfl
 refine callsD_of_wpS func33 rfl fun c₀ cs hu=>?_
 apply wpS_seq;apply wpS_region;simp[wpOpsS,go_sem,recoverD,hu,ntmps33,Exit.thenS,ta];apply wpS_seq;apply wpS_region;simp[wpOpsS,go_sem,Exit.thenS];refine wpS_cond (t:=true) (by simp[Act.eval,Array.replicate]) ?_;simp only[if_true];refine wpS_of_wp ?_;have hl:=Jb hr;have hle:=Jb he;have hla:=Jb ha;have r0:=Ja hr 0;have r1:=Ja hr 1;have r2:=Ja hr 2;have e1:=Ja he 0;have a1:=Ja ha 0;have q0:=Jc hr 0;have q1:=Jc hr 1;have q2:=Jc hr 2;have q3:=Jc he 0;have q4:=Jc ha 0;simp only[ZD,ZE,ZF] at r0 r1 r2 e1 a1;have n1:=Ne.symm h1;have n2:=Ne.symm h2;have n3:=Ne.symm h3;go_region
 all_goals have fin:=Jfk er o hr he ha h1 h2 h3 (.cells #[.int .i64 er,.int .i64 o] 69)
 all_goals clear hr he ha r0 r1 r2 e1 a1 q0 q1 q2 q3 q4 hl hle hla ta
 all_goals (cases c₀; simp only[bodyPostS,results,Tryz.results33]; refine ⟨by trivial,_,rfl,.tuple #[],by simp[go_sem],rfl,rfl,fin _ rfl⟩)
def parseM (l:List UInt8):RuleM × Int × Int:=
 if (scanR l).2.1=0 then (parseT (12*((scanR l).1.length+1)) (scanR l).1).getD (noRule,0,0) else (noRule,(scanR l).2.1,(scanR l).2.2)
def PsP (w:World) (X:RuleM × Int × Int) (e:Ending) (w':World):Prop:=
 ∃ c,e=.returned (.tuple #[.agg c,.int .i64 X.2.1,.int .i64 X.2.2])∧RuleX w' (fun b=>w.heap.size≤b∧b<w'.heap.size) X.1 c∧Below w.heap.size w w'
theorem JcX (W:World) (P:Nat→Prop):RuleX W P noRule #[.slice none 0 0,.slice none 0 0,.int .i64 0]:=
 ⟨_,_,rfl,⟨none,0,[],rfl,Nat.le_refl _,rfl,.inl rfl⟩,⟨none,0,[],rfl,Nat.le_refl _,rfl,.inl rfl⟩⟩
structure Res (w W:World) (rs:Array Value) (er a:Int):Prop where
 r:W.heap[w.heap.size]?=some (.cells rs 30 (0,0))
 e:W.heap[w.heap.size+1]?=some (.cells #[.int .i64 er] 31 (0,0))
 a:W.heap[w.heap.size+2]?=some (.cells #[.int .i64 a] 3 (0,0))
 bel:Below w.heap.size w W
theorem KP {w W:World} {rs:Array Value} {er a:Int} (h:Res w W rs er a) (hs:rs.size=3) (tmps:Array Value) (h2:tmps.getD 2 undef=.pointer (some ⟨w.heap.size,0,none⟩)) (h3:tmps.getD 3 undef=.pointer (some ⟨w.heap.size+1,0,none⟩)) (h4:tmps.getD 4 undef=.pointer (some ⟨w.heap.size+2,0,none⟩)) :
  (results Tryz.f11 tmps).run prog W=.ok (.tuple #[.agg rs,.int .i64 er,.int .i64 a]) W:=by
 have q2:tmps[2]?.getD undef=.pointer (some ⟨w.heap.size,0,none⟩):=by simpa using h2
 have q3:tmps[3]?.getD undef=.pointer (some ⟨w.heap.size+1,0,none⟩):=by simpa using h3
 have q4:tmps[4]?.getD undef=.pointer (some ⟨w.heap.size+2,0,none⟩):=by simpa using h4
 have c1:W.cell? ⟨w.heap.size+1,0,none⟩=some (.int .i64 er):=Ja h.e 0;have c2:W.cell? ⟨w.heap.size+2,0,none⟩=some (.int .i64 a):=Ja h.a 0;have l1:=run_loadVar_row (P:=prog) W w.heap.size 30 30 rs (0,0) _ h.r underlying30 rfl (by rw[hs]; exact infoRule);have l2:(loadVar 31 ⟨w.heap.size+1,0,none⟩).run prog W=.ok (.int .i64 er) W:=by simp[go_sem,c1]
 have l3:(loadVar 3 ⟨w.heap.size+2,0,none⟩).run prog W=.ok (.int .i64 a) W:=by simp[go_sem,c2]
 simp[results,Tryz.results11,q2,q3,q4,asAddr,l1,l2,l3]
theorem Res.up {w W W':World} {rs:Array Value} {er a:Int} (h:Res w W rs er a) (hb:Below W.heap.size W W'):Res w W' rs er a:=
 ⟨(hb.block _ (Jb h.r)).trans h.r,(hb.block _ (Jb h.e)).trans h.e,(hb.block _ (Jb h.a)).trans h.a,Je h.bel hb⟩
theorem Res.setE {w W:World} {rs:Array Value} {er a:Int} (h:Res w W rs er a) (n:Int):Res w (W.setCell ⟨w.heap.size+1,0,none⟩ (.int .i64 n)) rs n a:=
 ⟨Jh h.r (by simp) _,heap_setCell_same _ _ 0 _ _ _ h.e,Jh h.a (by simp) _,h.bel.setCell (by simp) _⟩
theorem Res.setA {w W:World} {rs:Array Value} {er a:Int} (h:Res w W rs er a) (n:Int):Res w (W.setCell ⟨w.heap.size+2,0,none⟩ (.int .i64 n)) rs er n:=
 ⟨Jh h.r (by simp) _,Jh h.e (by simp) _,heap_setCell_same _ _ 0 _ _ _ h.a,h.bel.setCell (by simp) _⟩
theorem Res.setR {w W:World} {f0 f1 f2:Value} {er a:Int} (h:Res w W #[f0,f1,f2] er a) (v0 v1 v2:Value):Res w (((W.setCell ⟨w.heap.size,0,none⟩ v0).setCell ⟨w.heap.size,1,none⟩ v1).setCell ⟨w.heap.size,2,none⟩ v2) #[v0,v1,v2] er a:=
 ⟨blk3Z v0 v1 v2 h.r,Jh (Jh (Jh h.e (by simp) _) (by simp) _) (by simp) _,Jh (Jh (Jh h.a (by simp) _) (by simp) _) (by simp) _,((h.bel.setCell (by simp) _).setCell (by simp) _).setCell (by simp) _⟩
theorem Res.drew {w W:World} {rs:Array Value} {er a:Int} (h:Res w W rs er a):Res w W.drew rs er a:=⟨h.r,h.e,h.a,h.bel.drew⟩
structure ResK (w W:World) (f0 f1 f2:Value) (er a:Int):Prop where
 r0:W.cell? ⟨w.heap.size,0,none⟩=some f0
 r1:W.cell? ⟨w.heap.size,1,none⟩=some f1
 r2:W.cell? ⟨w.heap.size,2,none⟩=some f2
 e0:W.cell? ⟨w.heap.size+1,0,none⟩=some (.int .i64 er)
 a0:W.cell? ⟨w.heap.size+2,0,none⟩=some (.int .i64 a)
 q0:W.frozen? ⟨w.heap.size,0,none⟩=false
 q1:W.frozen? ⟨w.heap.size,1,none⟩=false
 q2:W.frozen? ⟨w.heap.size,2,none⟩=false
 q3:W.frozen? ⟨w.heap.size+1,0,none⟩=false
 q4:W.frozen? ⟨w.heap.size+2,0,none⟩=false
theorem Res.cells {w W:World} {f0 f1 f2:Value} {er a:Int} (h:Res w W #[f0,f1,f2] er a):ResK w W f0 f1 f2 er a:=
 ⟨Ja h.r 0,Ja h.r 1,Ja h.r 2,Ja h.e 0,Ja h.a 0,Jc h.r 0,Jc h.r 1,Jc h.r 2,Jc h.e 0,Jc h.a 0⟩
theorem wx41 {P:Prop}(h:P:=by
  have e1:=zzw (w.alloc (.cells #[.slice none 0 0,.slice none 0 0,.int .i64 0] 30)) (.cells #[.int .i64 0] 31);have e2:=zzw ((w.alloc (.cells #[.slice none 0 0,.slice none 0 0,.int .i64 0] 30)).alloc (.cells #[.int .i64 0] 31)) (.cells #[.int .i64 0] 3);simp only[World.size_alloc] at e1 e2
  exact ⟨Jf (Jf (zzw _ _)),Jf e1,e2,((zzb.alloc zzl _).alloc (by simp) _).alloc (by simp; omega) _⟩):P:=h
theorem JdQ (l:List UInt8) (w:World) (hl:l.length≤281474976710655) (hL:Laid w) (h:(scanR l).2.1≠0) :
  Calls prog 11 #[.string (bs l)] w (PsP w (noRule,(scanR l).2.1,(scanR l).2.2)):=by
 obtain ⟨T,er,at',hsc⟩:∃ T er at',scanR l=(T,er,at'):=⟨_,_,_,rfl⟩
 rw[hsc] at h ⊢;simp only at h ⊢;have hne:(er==(0:Int))=false:=by simpa using h
 have hr0:Res w (((w.alloc (.cells #[.slice none 0 0,.slice none 0 0,.int .i64 0] 30)).alloc (.cells #[.int .i64 0] 31)).alloc (.cells #[.int .i64 0] 3)) #[.slice none 0 0,.slice none 0 0,.int .i64 0] 0 0:=by
  exact wx41
 have HR0:=Zh hr0;clear hr0 h;go_enter_defers func11,ntmps11;go_wp2_with fail;generalize World.alloc (World.alloc (World.alloc w _) _) _=w1 at *;have hw1:=hL.below HR0.out.bel;refine (JcC l w1 hl hw1).mono ?_;rw[hsc];rintro e w2 ⟨v,rfl,hown,hb⟩;obtain ⟨va,vc,rfl⟩:=Z0 hown;have HR2:=Zh (HR0.out.up hb);clear HR0 hown hb hsc hw1 hL;obtain ⟨r0,r1,r2,e0,a0,q0,q1,q2,q3,q4⟩:=HR2.out.cells;have HR3:=Zh ((HR2.out.setE er).setA at');clear r0 r1 r2 q0 q1 q2 HR2;go_wp2_with fail;clear e0 a0 q3 q4;generalize World.setCell (World.setCell w2 _ _) _ _=w3 at *;obtain ⟨r0,r1,r2,e0,a0,q0,q1,q2,q3,q4⟩:=HR3.out.cells;have HR4:=Zh ((((HR3.out.setR (.slice none 0 0) (.slice none 0 0) (.int .i64 0)).setE er).setA at').drew);clear HR3;go_wp2_with fail;go_region
 all_goals clear r0 r1 r2 e0 a0 q0 q1 q2 q3 q4
 all_goals go_wp2
 all_goals (refine ⟨_,KP HR4.out rfl _ rfl rfl rfl,?_⟩; exact ⟨_,rfl,JcX _ _,HR4.out.bel⟩)
end Go.Proofs.YtncanmdgdflnpaaGreatDoor
