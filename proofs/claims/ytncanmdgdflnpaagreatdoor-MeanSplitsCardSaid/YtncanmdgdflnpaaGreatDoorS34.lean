
import Derived.Test.YtncanmdgdflnpaaGreatDoorS32
namespace Go.Proofs.YtncanmdgdflnpaaGreatDoor
open _root_.Go.Proofs.Tryz
set_option linter.all false
set_option maxRecDepth 100000
set_option maxHeartbeats 32000000
def TkB (t:Tok):Prop:=(0≤t.n∧t.n≤1125899906842624)∧(t.kind=2→textB t.text=true)
theorem JaO:∀ (f:Nat) (l w:List UInt8),textF f l=some w→w.all (fun c=>decide (32≤c.toNat)&&decide (c.toNat≤126)&&c !=34&&c !=92)=true
 | 0,l,w,h=>by cases h
 | f+1,[],w,h=>by cases h
 | f+1,c::r,w,h=>by
  rw[textF] at h;split at h
  ·injection h with h;subst h;rfl
  ·rename_i hc;split at h
   ·cases h
   ·rename_i hd
    cases hr:textF f r with
    | none=>rw[hr] at h; cases h
    | some v=>
     rw[hr] at h;injection h with h;subst h;have ih:=JaO f r v hr;simp only[not_or] at hd;rw[List.all_cons,ih];simp[hc,hd.2.2];omega
theorem JgJ {l:List UInt8} {t:Tok} {n:Nat} (h:tokF l=some (t,n)):TkB t:=by
 have hf:=Yp h;refine ⟨⟨hf.2.2.2.1,hf.2.2.2.2.1⟩,fun hk=>?_⟩
 cases l with
 | nil=>cases h
 | cons c r=>
  simp only[tokF] at h;split at h
  ·split at h
   ·injection h with h;injection h with h1 h2;subst h1;simp at hk
   ·cases h
  ·split at h
   ·cases hp:parseI (wordL (c::r)) 0 1125899906842624 with
    | none=>rw[hp] at h; cases h
    | some m=>
     rw[hp] at h;injection h with h;injection h with h1 h2;subst h1;simp at hk
   ·split at h
    ·cases hp:textF 25 r with
     | none=>rw[hp] at h; cases h
     | some w=>
      rw[hp] at h;injection h with h;injection h with h1 h2;subst h1;have h3:=JaO _ _ _ hp;have h4:=(K8 _ _ _ hp).1;unfold textB;rw[h3];simp;omega
    ·split at h
     ·cases h
     ·injection h with h;injection h with h1 h2;subst h1;simp at hk
theorem JiZ:∀ (l:List UInt8) (k:Nat) (ts:List Tok),sc k l=.ok ts→∀ t∈ts,TkB t:=by
 refine ZG (P:=fun k l=>∀ ts,sc k l=.ok ts→∀ t∈ts,TkB t) ?_ ?_ ?_ ?_
 ·intro k ts h;rw[JbU] at h;injection h with h;subst h;intro t ht;obtain rfl:t=_:=by simpa using ht
  exact ⟨⟨by simp,by simp⟩,fun h=>by simp at h⟩
 ·intro k c r hs ih ts h;rw[JfG k r hs] at h;exact ih ts h
 ·intro k c r hs ht ts h;rw[Zy k r hs ht] at h
  cases h
 ·intro k c r t n hs ht h1 hn ih ts h;rw[Zz k r hs ht] at h;obtain ⟨rs,hr,rfl⟩:=Jbg h;intro x hx
  rcases List.mem_cons.1 hx with rfl | hx
  ·have h4:TkB t:=JgJ ht;exact h4
  ·exact ih rs hr x hx
def Tk (r:List Tok):Prop:=∀ t∈r,TkB t
theorem Tk.tail {r:List Tok} (h:Tk r):Tk r.tail:=fun t ht=>h t (List.mem_of_mem_tail ht)
theorem Tk.hd {r:List Tok} (h:Tk r):TkB (hd r):=by
 cases r with
 | nil=>exact ⟨⟨by decide,by decide⟩,fun h=>absurd h (by decide)⟩
 | cons a l=>exact h a (by simp)
theorem Ka {k:Int} {s:List UInt8} {r r':List Tok} (hs:Tk r) (h:acc k s r=some r'):Tk r':=by
 unfold acc at h;split at h
 ·injection h with h;subst h;exact hs.tail
 ·cases h
theorem JI {k:Int} {s:List UInt8} {r r':List Tok} {u:Unit} (hs:Tk r) (h:accept k s r=.ok u r'):Tk r':=by
 unfold accept at h;split at h
 ·rename_i r1 h1;injection h with h0 h;subst h;exact Ka hs h1
 ·cases h
theorem VF {r r':List Tok} {nm:List UInt8 × Int} (hs:Tk r) (h:identP r=.ok nm r'):Tk r'∧identB nm.1=true:=by
 unfold identP at h;split at h
 ·rename_i hc;injection h with h0 h;subst h h0;exact ⟨hs.tail,hc.2⟩
 ·cases h
theorem Jcy {r r':List Tok} {s:List UInt8} (hs:Tk r) (h:textP r=.ok s r'):Tk r'∧textB s=true:=by
 unfold textP at h;split at h
 ·rename_i hc;injection h with h0 h;subst h h0;exact ⟨hs.tail,hs.hd.2 hc⟩
 ·cases h
theorem Zo {r r':List Tok} {s:List UInt8} (hs:Tk r) (h:quotedP r=.ok s r'):Tk r'∧textB s=true:=by
 unfold quotedP at h;obtain ⟨_,r1,h1,h⟩:=Jd h;obtain ⟨_,r2,h2,h⟩:=Jd h;obtain ⟨_,r3,h3,h⟩:=Jd h;injection h with h0 h;subst h h0;have s1:=JI hs h1;obtain ⟨s2,g2⟩:=Jcy s1 h2;exact ⟨JI s2 h3,g2⟩
theorem JeX {r r':List Tok} {t:Int} (hs:Tk r) (h:typP r=.ok t r'):Tk r'∧typeB t=true:=by
 unfold typP at h;split at h
 ·rename_i r1 h1;injection h with h0 h;subst h h0;exact ⟨Ka hs h1,rfl⟩
 ·split at h
  ·rename_i r1 h1;injection h with h0 h;subst h h0;exact ⟨Ka hs h1,rfl⟩
  ·cases h
theorem JeY {r r':List Tok} {t:Int} (hs:Tk r) (h:actP r=.ok t r'):Tk r'∧actB t=true:=by
 unfold actP at h
 repeat' split at h
 all_goals first
  | (rename_i r1 h1; injection h with h0 h; subst h h0; exact ⟨Ka hs h1,rfl⟩)
  | cases h
def ar0 (k:Int):Nat:=if k≤5 then 0 else if k=6∨k=7 then 1 else if k=18 then 3 else 2
def PrF (k n:Int) (s:List UInt8) (m:Nat):Prop:=0≤k∧k<21∧(k=0→0≤n∧n≤1125899906842624)∧(k=1→n=0∨n=1)∧(k≠0→k≠1→n=0)∧(k=3→(factI s).isSome=true)∧
 (k=4∨k=5→textB s=true)∧(k≠2→k≠3→k≠4→k≠5→k≠19→k≠20→s=[])∧(k≠20→m=ar0 k)
mutual
def PrN:Nd→Prop
 | .mk k n s o l=>PrF k n s l.length∧PrL l
def PrL:List Nd→Prop
 | []=>True
 | a::l=>PrN a∧PrL l
end
theorem KV {k n:Int} {s:List UInt8} {o:Int} {l:List Nd}:PrN (.mk k n s o l)↔PrF k n s l.length∧PrL l:=by rw[PrN]
theorem J2 {a:Nd} {l:List Nd}:PrL (a::l)↔PrN a∧PrL l:=by rw[PrL]
theorem Kl:PrL []:=by unfold PrL; trivial
theorem JeZ {l:List Nd} {a:Nd} (h:PrL l) (ha:PrN a):PrL (l++[a]):=by
 induction l with
 | nil=>exact J2.2 ⟨ha,Kl⟩
 | cons x r ih=>
  have:=J2.1 h;exact J2.2 ⟨this.1,ih this.2⟩
theorem Jih {a:Nd} (h:PrN a) (o:Int):PrN (.mk a.kind a.num a.name o a.kids):=by cases a; rw[KV] at *; exact h
theorem Jfa {k:Int} (h:6≤k∧k≤18):PrF k 0 [] (ar0 k):=⟨by omega,by omega,fun h=>by omega,fun h=>by omega,fun _ _=>rfl,fun h=>by omega,fun h=>by omega,fun _ _ _ _ _ _=>rfl,fun _=>rfl⟩
theorem pr1 {k o:Int} {a:Nd} (hk:k=6∨k=7) (ha:PrN a):PrN (.mk k 0 [] o [a]):=by
 have h:=Jfa (k:=k) (by omega);unfold ar0 at h;rw[if_neg (by omega),if_pos hk] at h;exact KV.2 ⟨h,J2.2 ⟨ha,Kl⟩⟩
theorem pr2 {k o:Int} {a b:Nd} (hk:8≤k∧k≤17) (ha:PrN a) (hb:PrN b):PrN (.mk k 0 [] o [a,b]):=by
 have h:=Jfa (k:=k) (by omega);unfold ar0 at h;rw[if_neg (by omega),if_neg (by omega),if_neg (by omega)] at h;exact KV.2 ⟨h,J2.2 ⟨ha,J2.2 ⟨hb,Kl⟩⟩⟩
theorem pr3 {o:Int} {a b c:Nd} (ha:PrN a) (hb:PrN b) (hc:PrN c):PrN (.mk 18 0 [] o [a,b,c]):=
 KV.2 ⟨Jfa (k:=18) (by decide),J2.2 ⟨ha,J2.2 ⟨hb,J2.2 ⟨hc,Kl⟩⟩⟩⟩
theorem prLet {o:Int} {s:List UInt8} {a b:Nd} (ha:PrN a) (hb:PrN b):PrN (.mk 19 0 s o [a,b]):=
 KV.2 ⟨⟨by decide,by decide,fun h=>absurd h (by decide),fun h=>absurd h (by decide),fun _ _=>rfl,fun h=>absurd h (by decide),fun h=>absurd h (by decide),fun _ _ _ _ h=>absurd rfl h,fun _=>rfl⟩,J2.2 ⟨ha,J2.2 ⟨hb,Kl⟩⟩⟩
theorem prCall {o:Int} {s:List UInt8} {l:List Nd} (hl:PrL l):PrN (.mk 20 0 s o l):=
 KV.2 ⟨⟨by decide,by decide,fun h=>absurd h (by decide),fun h=>absurd h (by decide),fun _ _=>rfl,fun h=>absurd h (by decide),fun h=>absurd h (by decide),fun _ _ _ _ _ h=>absurd rfl h,fun h=>absurd rfl h⟩,hl⟩
theorem prVar {o:Int} {s:List UInt8}:PrN (.mk 2 0 s o []):=
 KV.2 ⟨⟨by decide,by decide,fun h=>absurd h (by decide),fun h=>absurd h (by decide),fun _ _=>rfl,fun h=>absurd h (by decide),fun h=>absurd h (by decide),fun h=>absurd rfl h,fun _=>rfl⟩,Kl⟩
theorem prInt {o n:Int} (h:0≤n∧n≤1125899906842624):PrN (.mk 0 n [] o []):=
 KV.2 ⟨⟨by decide,by decide,fun _=>h,fun h=>absurd h (by decide),fun h=>absurd rfl h,fun h=>absurd h (by decide),fun h=>absurd h (by decide),fun _ _ _ _ _ _=>rfl,fun _=>rfl⟩,Kl⟩
theorem prBool {o n:Int} (h:n=0∨n=1):PrN (.mk 1 n [] o []):=
 KV.2 ⟨⟨by decide,by decide,fun h=>absurd h (by decide),fun _=>h,fun _ h=>absurd rfl h,fun h=>absurd h (by decide),fun h=>absurd h (by decide),fun _ _ _ _ _ _=>rfl,fun _=>rfl⟩,Kl⟩
theorem prFact {o:Int} {s:List UInt8} (h:(factI s).isSome=true):PrN (.mk 3 0 s o []):=
 KV.2 ⟨⟨by decide,by decide,fun h=>absurd h (by decide),fun h=>absurd h (by decide),fun _ _=>rfl,fun _=>h,fun h=>absurd h (by decide),fun _ h=>absurd rfl h,fun _=>rfl⟩,Kl⟩
theorem prText {k o:Int} {s:List UInt8} (hk:k=4∨k=5) (h:textB s=true):PrN (.mk k 0 s o []):=
 KV.2 ⟨⟨by omega,by omega,fun h=>by omega,fun h=>by omega,fun _ _=>rfl,fun h=>by omega,fun _=>h,fun _ _ h1 h2=>by omega,fun _=>by unfold ar0; rw[if_pos (by omega)]; rfl⟩,Kl⟩
theorem Jii {lv:Nat} {t:Tok} {k:Int} (h:opK lv t=some k):8≤k∧k≤17:=by
 exact sx157
theorem JgK {t:Tok} {k:Int} (h:cmpK t=some k):8≤k∧k≤17:=by
 exact sx156
theorem Jij {t:Tok} {k:Int} {a b:Nd} (hk:8≤k∧k≤17) (ha:PrN a) (hb:PrN b):PrN (cmpN t k a b):=by
 unfold cmpN;split
 ·exact pr2 hk hb ha
 ·split
  ·exact pr1 (.inr rfl) (pr2 hk ha hb)
  ·exact pr2 hk ha hb
def extP:Md→Prop
 | .loop _ _ a=>PrN a
 | .args _ _ l=>PrL l
 | _=>True
theorem Kt:∀ (f:Nat) (md:Md) (r r':List Tok) (a:Nd),Tk r→pM f md r=.ok a r'→extP md→PrN a∧Tk r'
 | 0,md,r,r',a,hs,h,he=>by unfold pM at h; cases h
 | f+1,.expr,r,r',a,hs,h,he=>by
  rw[pM] at h;split at h
  ·rename_i r1 h1;obtain ⟨_,r2,h2,h⟩:=Jd h;obtain ⟨_,r3,h3,h⟩:=Jd h;obtain ⟨_,r4,h4,h⟩:=Jd h;obtain ⟨_,r5,h5,h⟩:=Jd h;obtain ⟨_,r6,h6,h⟩:=Jd h;injection h with h0 h;subst h h0;have s1:=Ka hs h1;obtain ⟨s2,g2⟩:=VF s1 h2;have s3:=JI s2 h3;obtain ⟨g4,s4⟩:=Kt f _ _ _ _ s3 h4 trivial;have s5:=JI s4 h5;obtain ⟨g6,s6⟩:=Kt f _ _ _ _ s5 h6 trivial;exact ⟨prLet g4 g6,s6⟩
  ·split at h
   ·rename_i r1 h1;obtain ⟨_,r2,h2,h⟩:=Jd h;obtain ⟨_,r3,h3,h⟩:=Jd h;obtain ⟨_,r4,h4,h⟩:=Jd h;obtain ⟨_,r5,h5,h⟩:=Jd h;obtain ⟨_,r6,h6,h⟩:=Jd h;injection h with h0 h;subst h h0;have s1:=Ka hs h1;obtain ⟨g2,s2⟩:=Kt f _ _ _ _ s1 h2 trivial;have s3:=JI s2 h3;obtain ⟨g4,s4⟩:=Kt f _ _ _ _ s3 h4 trivial;have s5:=JI s4 h5;obtain ⟨g6,s6⟩:=Kt f _ _ _ _ s5 h6 trivial;exact ⟨pr3 g2 g4 g6,s6⟩
   ·exact Kt f _ _ _ _ hs h trivial
 | f+1,.level lv,r,r',a,hs,h,he=>by
  rw[pM] at h;split at h
  ·split at h
   ·rename_i r1 h1;obtain ⟨_,r2,h2,h⟩:=Jd h;injection h with h0 h;subst h h0;obtain ⟨g2,s2⟩:=Kt f _ _ _ _ (Ka hs h1) h2 trivial;exact ⟨pr1 (.inr rfl) g2,s2⟩
   ·exact Kt f _ _ _ _ hs h trivial
  ·split at h
   ·split at h
    ·rename_i r1 h1;obtain ⟨_,r2,h2,h⟩:=Jd h;injection h with h0 h;subst h h0;obtain ⟨g2,s2⟩:=Kt f _ _ _ _ (Ka hs h1) h2 trivial;exact ⟨pr1 (.inl rfl) g2,s2⟩
    ·exact Kt f _ _ _ _ hs h trivial
   ·obtain ⟨_,r1,h1,h⟩:=Jd h;obtain ⟨g1,s1⟩:=Kt f _ _ _ _ hs h1 trivial;exact Kt f _ _ _ _ s1 h g1
 | f+1,.loop lv o b,r,r',a,hs,h,he=>by
  rw[pM] at h;split at h
  ·injection h with h0 h;subst h h0;exact ⟨he,hs⟩
  ·rename_i k hk;obtain ⟨_,r1,h1,h⟩:=Jd h;obtain ⟨g1,s1⟩:=Kt f _ _ _ _ hs.tail h1 trivial;exact Kt f _ _ _ _ s1 h (show PrN _ from pr2 (Jii hk) he g1)
 | f+1,.cmp,r,r',a,hs,h,he=>by
  rw[pM] at h;obtain ⟨x,r1,h1,h⟩:=Jd h;obtain ⟨g1,s1⟩:=Kt f _ _ _ _ hs h1 trivial;split at h
  ·injection h with h0 h;subst h h0;exact ⟨g1,s1⟩
  ·rename_i k hk;obtain ⟨y,r2,h2,h⟩:=Jd h;obtain ⟨g2,s2⟩:=Kt f _ _ _ _ s1.tail h2 trivial;injection h with h0 h;subst h h0;exact ⟨Jij (JgK hk) g1 g2,s2⟩
 | f+1,.prim,r,r',a,hs,h,he=>by
  rw[pM] at h;split at h
  ·injection h with h0 h;subst h h0;exact ⟨prInt hs.hd.1,hs.tail⟩
  split at h
  ·rename_i r1 h1;obtain ⟨x,r2,h2,h⟩:=Jd h;obtain ⟨_,r3,h3,h⟩:=Jd h;injection h with h0 h;subst h h0;obtain ⟨g2,s2⟩:=Kt f _ _ _ _ (Ka hs h1) h2 trivial;exact ⟨Jih g2 _,JI s2 h3⟩
  split at h
  ·rename_i r1 h1;injection h with h0 h;subst h h0;exact ⟨prBool (.inl rfl),Ka hs h1⟩
  split at h
  ·rename_i r1 h1;injection h with h0 h;subst h h0;exact ⟨prBool (.inr rfl),Ka hs h1⟩
  split at h
  ·rename_i r1 h1;obtain ⟨_,r2,h2,h⟩:=Jd h;injection h with h0 h;subst h h0;obtain ⟨s2,g2⟩:=Zo (Ka hs h1) h2;exact ⟨prText (.inl rfl) g2,s2⟩
  split at h
  ·rename_i r1 h1;obtain ⟨_,r2,h2,h⟩:=Jd h;injection h with h0 h;subst h h0;obtain ⟨s2,g2⟩:=Zo (Ka hs h1) h2;exact ⟨prText (.inr rfl) g2,s2⟩
  split at h
  ·rename_i hc;injection h with h0 h;subst h h0;exact ⟨prFact hc.1,hs.tail⟩
  ·exact Kt f _ _ _ _ hs h trivial
 | f+1,.named,r,r',a,hs,h,he=>by
  rw[pM] at h;obtain ⟨nm,r1,h1,h⟩:=Jd h;obtain ⟨s1,g1⟩:=VF hs h1;split at h
  ·injection h with h0 h;subst h h0;exact ⟨prVar,s1⟩
  ·rename_i r2 h2;split at h
   ·rename_i r3 h3;injection h with h0 h;subst h h0;exact ⟨prCall Kl,Ka (Ka s1 h2) h3⟩
   ·exact Kt f _ _ _ _ (Ka s1 h2) h (show PrL _ from Kl)
 | f+1,.args nm o l,r,r',a,hs,h,he=>by
  have he2:PrL l:=he;rw[pM] at h;obtain ⟨x,r1,h1,h⟩:=Jd h;obtain ⟨g1,s1⟩:=Kt f _ _ _ _ hs h1 trivial;split at h
  ·rename_i r2 h2;exact Kt f _ _ _ _ (Ka s1 h2) h (show PrL _ from JeZ he2 g1)
  ·obtain ⟨_,r2,h2,h⟩:=Jd h;injection h with h0 h;subst h h0;exact ⟨prCall (JeZ he2 g1),JI s1 h2⟩
structure FnPr (f:FnS):Prop where
 body:PrN f.body
 name:identB f.name.1=true
 types:f.types.all typeB=true
 result:typeB f.result=true
 len:f.params.length=f.types.length
structure ClPr (c:ClS):Prop where
 cond:PrN c.cond
 action:actB c.action=true
 reason:textB c.reason=true
theorem Zp:∀ (f:Nat) (ps:List (List UInt8 × Int)) (ts:List Int) (r r':List Tok) a,Tk r→ts.all typeB=true→ps.length=ts.length→paramsP f ps ts r=.ok a r'→Tk r'∧a.2.all typeB=true∧a.1.length=a.2.length
 | 0,_,_,_,_,_,_,_,_,h=>by cases h
 | f+1,ps,ts,r,r',a,hs,ht,hl,h=>by
  rw[paramsP] at h;obtain ⟨_,r1,h1,h⟩:=Jd h;obtain ⟨_,r2,h2,h⟩:=Jd h;obtain ⟨t,r3,h3,h⟩:=Jd h;obtain ⟨s3,g3⟩:=JeX (JI (VF hs h1).1 h2) h3;have ht2:(ts++[t]).all typeB=true:=by simp only[List.all_append,ht,List.all_cons,g3,List.all_nil,Bool.and_self]
  split at h
  ·rename_i r4 h4;exact Zp f _ _ _ _ _ (Ka s3 h4) ht2 (by simp[hl]) h
  ·obtain ⟨_,r4,h4,h⟩:=Jd h;injection h with h0 h;subst h h0;exact ⟨JI s3 h4,ht2,by simp[hl]⟩
theorem Jik {f:Nat} {r r':List Tok} {x:FnS} (hs:Tk r) (h:funP f r=.ok x r'):FnPr x∧Tk r':=by
 unfold funP at h;obtain ⟨nm,r1,h1,h⟩:=Jd h;obtain ⟨_,r2,h2,h⟩:=Jd h;obtain ⟨pt,r3,h3,h⟩:=Jd h;obtain ⟨_,r4,h4,h⟩:=Jd h;obtain ⟨_,r5,h5,h⟩:=Jd h;obtain ⟨_,r6,h6,h⟩:=Jd h;obtain ⟨_,r7,h7,h⟩:=Jd h;injection h with h0 h;subst h h0;obtain ⟨s1,g1⟩:=VF hs h1;have s2:=JI s1 h2
 have s3:Tk r3∧pt.2.all typeB=true∧pt.1.length=pt.2.length:=by
  split at h3
  ·rename_i r9 h9;injection h3 with h0 h3;subst h3 h0;exact ⟨Ka s2 h9,rfl,rfl⟩
  ·exact Zp _ _ _ _ _ _ s2 rfl rfl h3
 obtain ⟨s5,g5⟩:=JeX (JI s3.1 h4) h5;obtain ⟨g7,s7⟩:=Kt _ _ _ _ _ (JI s5 h6) h7 trivial;exact ⟨⟨g7,g1,s3.2.1,g5,s3.2.2⟩,s7⟩
theorem Jcz (g:Nat):∀ (f:Nat) (l:List FnS) (r r':List Tok) a,Tk r→(∀ x∈l,FnPr x)→funsP g f l r=.ok a r'→(∀ x∈a,FnPr x)∧Tk r'
 | 0,_,_,_,_,_,_,h=>by cases h
 | f+1,l,r,r',a,hs,hl,h=>by
  rw[funsP] at h;split at h
  ·rename_i r1 h1;obtain ⟨x,r2,h2,h⟩:=Jd h;obtain ⟨g1,g2⟩:=Jik (Ka hs h1) h2
   exact Jcz g f _ _ _ _ g2 (by
    intro y hy
    rcases List.mem_append.1 hy with hy | hy
    ·exact hl y hy
    ·obtain rfl:y=x:=by simpa using hy
     exact g1) h
  ·injection h with h0 h;subst h h0;exact ⟨hl,hs⟩
theorem YS (g:Nat):∀ (f:Nat) (l:List ClS) (r r':List Tok) a,Tk r→(∀ x∈l,ClPr x)→clausesP g f l r=.ok a r'→(∀ x∈a,ClPr x)∧Tk r'
 | 0,_,_,_,_,_,_,h=>by cases h
 | f+1,l,r,r',a,hs,hl,h=>by
  rw[clausesP] at h;split at h
  ·rename_i r1 h1;obtain ⟨x,r2,h2,h⟩:=Jd h;obtain ⟨_,r3,h3,h⟩:=Jd h;obtain ⟨ac,r4,h4,h⟩:=Jd h;obtain ⟨tx,r5,h5,h⟩:=Jd h;obtain ⟨g1,s2⟩:=Kt _ _ _ _ _ (Ka hs h1) h2 trivial;obtain ⟨s4,g4⟩:=JeY (JI s2 h3) h4;obtain ⟨s5,g5⟩:=Jcy s4 h5
   exact YS g f _ _ _ _ s5 (by
    intro y hy
    rcases List.mem_append.1 hy with hy | hy
    ·exact hl y hy
    ·obtain rfl:y=_:=by simpa using hy
     exact ⟨g1,g4,g5⟩) h
  ·injection h with h0 h;subst h h0;exact ⟨hl,hs⟩
theorem Jfb {f:Nat} {r r':List Tok} {s:Src} (hs:Tk r) (h:srcP f r=.ok s r'):(∀ x∈s.funcs,FnPr x)∧(∀ x∈s.clauses,ClPr x)∧actB s.action=true:=by
 unfold srcP at h;obtain ⟨fs,r1,h1,h⟩:=Jd h;obtain ⟨cs,r2,h2,h⟩:=Jd h;obtain ⟨_,r3,h3,h⟩:=Jd h;obtain ⟨_,r4,h4,h⟩:=Jd h;obtain ⟨g1,s1⟩:=Jcz _ _ _ _ _ _ hs (by simp) h1;obtain ⟨g2,s2⟩:=YS _ _ _ _ _ _ s1 (by simp) h2;obtain ⟨s4,g4⟩:=JeY (JI s2 h3) h4;split at h
 ·injection h with h0 h;subst h0;exact ⟨g1,g2,g4⟩
 ·cases h
theorem Z6 (a:Exp):(utN a).off=0:=by cases a; rw[utN]; rfl
theorem needL_cons' (fs:List SigM) (vars:List Int) (t:Int) (a:Nd) (l:List Nd):needL fs vars t (a::l)=(ofN fs vars a).2++(if (ofN fs vars a).1≠t then [a.off] else [])++needL fs vars t l:=by rw[needL]
theorem YT (fs:List SigM) (vars:List Int) (b:Bool) (ps:List Int) (a:Nd) (l:List Nd):argL fs vars b ps (a::l)=(ofN fs vars a).2++(if b=true∧(ofN fs vars a).1≠ps.headD 0 then [a.off] else [])++argL fs vars b ps.tail l:=by rw[argL]
theorem K7 (l:List Nd):(treeL l).length=l.length:=by
 induction l with
 | nil=>rw[treeL]; rfl
 | cons a l ih=>rw[treeL,List.length_cons,ih,List.length_cons]
def z0 (l:List Int):List Int:=l.map fun _=>0
theorem Zq (a b:List Int):z0 (a++b)=z0 a++z0 b:=by simp[z0]
theorem Jfc (c:Prop) [Decidable c] (x:Int):z0 (if c then [x] else [])=if c then [0] else []:=by split <;> rfl
mutual
theorem Vg (fs:List SigM):∀ (vars:List Int) (a:Nd),ofN fs vars (utN (treeN a))=((ofN fs vars a).1,z0 (ofN fs vars a).2)
 | vars,.mk k n s o l=>by
  have hN:=fun t=>JcA fs vars t l
  have hA:=fun b ps=>Jfd fs vars b ps l
  have hlen:(utL (treeL l)).length=l.length:=by rw[JP,K7]
  rw[treeN,utN,YM,YM]
  by_cases h1:k=1∨k=5
  ·rw[if_pos h1,if_pos h1]; rfl
  rw[if_neg h1,if_neg h1]
  by_cases h2:k=2
  ·rw[if_pos h2,if_pos h2]; rfl
  rw[if_neg h2,if_neg h2]
  by_cases h3:k=3
  ·rw[if_pos h3,if_pos h3]; rfl
  rw[if_neg h3,if_neg h3]
  by_cases h4:k=6∨(8≤k∧k≤12)
  ·rw[if_pos h4,if_pos h4,hN]
  rw[if_neg h4,if_neg h4]
  by_cases h5:k=13∨k=14
  ·rw[if_pos h5,if_pos h5,hN]
  rw[if_neg h5,if_neg h5]
  by_cases h6:k=15
  ·rw[if_pos h6,if_pos h6]
   match l with
   | []=>rfl
   | [a]=>rfl
   | [a,b]=>
    have ea:=Vg fs vars a;have eb:=Vg fs vars b;simp only[treeL,utL,ea,eb,Zq,Jfc,Z6]
   | a::b::c::r=>rfl
  rw[if_neg h6,if_neg h6]
  by_cases h7:k=7∨k=16∨k=17
  ·rw[if_pos h7,if_pos h7,hN]
  rw[if_neg h7,if_neg h7]
  by_cases h8:k=18
  ·rw[if_pos h8,if_pos h8]
   match l with
   | []=>rfl
   | [a]=>rfl
   | [a,b]=>rfl
   | [c,a,b]=>
    have ec:=Vg fs vars c;have ea:=Vg fs vars a;have eb:=Vg fs vars b;simp only[treeL,utL,ec,ea,eb,Zq,Jfc,Z6]
   | a::b::c::d::r=>rfl
  rw[if_neg h8,if_neg h8]
  by_cases h9:k=19
  ·rw[if_pos h9,if_pos h9]
   match l with
   | []=>rfl
   | [a]=>rfl
   | [a,b]=>
    have ea:=Vg fs vars a;have eb:=fun v=>Vg fs v b
    simp only[treeL,utL,ea,eb,Zq]
   | a::b::c::r=>rfl
  rw[if_neg h9,if_neg h9]
  by_cases h10:k=20
  ·rw[if_pos h10,if_pos h10];simp only[hlen,hA,Zq,Jfc]
  rw[if_neg h10,if_neg h10];rfl
theorem JcA (fs:List SigM):∀ (vars:List Int) (t:Int) (l:List Nd),needL fs vars t (utL (treeL l))=z0 (needL fs vars t l)
 | vars,t,[]=>by rw[treeL,utL,needL]; rfl
 | vars,t,a::l=>by
  rw[treeL,utL,needL_cons',needL_cons',Vg fs vars a,JcA fs vars t l,Z6];simp only[Zq,Jfc]
theorem Jfd (fs:List SigM):∀ (vars:List Int) (b:Bool) (ps:List Int) (l:List Nd),argL fs vars b ps (utL (treeL l))=z0 (argL fs vars b ps l)
 | vars,b,ps,[]=>by rw[treeL,utL,argL]; rfl
 | vars,b,ps,a::l=>by
  rw[treeL,utL,YT,YT,Vg fs vars a,Jfd fs vars b ps.tail l,Z6];simp only[Zq,Jfc]
end
theorem Jfe {fs:List SigM} {vars:List Int} {t:Int} {a:Nd} (h:needN fs vars t a=[]):needN fs vars t (utN (treeN a))=[]:=by
 have h1:=Vj h;unfold needN;rw[Vg,h1];simp[z0]
theorem Ve {fs:List SigM} {vars:List Int} {t:Int}:∀ {l:List Nd},needL fs vars t l=[]→∀ a∈l,(ofN fs vars a).2=[]
 | [],_,a,ha=>by cases ha
 | x::l,h,a,ha=>by
  rw[needL_cons'] at h;simp only[List.append_eq_nil_iff] at h
  rcases List.mem_cons.1 ha with rfl | ha
  ·exact h.1.1
  ·exact Ve h.2 a ha
theorem JaP {fs:List SigM} {vars:List Int} {b:Bool}:∀ {l:List Nd} {ps:List Int},argL fs vars b ps l=[]→∀ a∈l,(ofN fs vars a).2=[]
 | [],_,_,a,ha=>by cases ha
 | x::l,ps,h,a,ha=>by
  rw[YT] at h;simp only[List.append_eq_nil_iff] at h
  rcases List.mem_cons.1 ha with rfl | ha
  ·exact h.1.1
  ·exact JaP h.2 a ha
theorem JbI {fs:List SigM} {vars:List Int} {k n:Int} {s:List UInt8} {o:Int} {l:List Nd} (h:(ofN fs vars (.mk k n s o l)).2=[]) (h19:k≠19) (hk:0≤k∧k<21) (hl:k≠20→l.length=ar0 k):∀ a∈l,(ofN fs vars a).2=[]:=by
 by_cases h5:k≤5
 ·have:=hl (by omega);unfold ar0 at this;rw[if_pos h5] at this;obtain rfl:=List.eq_nil_of_length_eq_zero this;intro a ha
  cases ha
 rw[YM,if_neg (by omega),if_neg (by omega),if_neg (by omega)] at h
 by_cases h4:k=6∨(8≤k∧k≤12)
 ·rw[if_pos h4] at h;exact Ve h
 rw[if_neg h4] at h
 by_cases h6:k=13∨k=14
 ·rw[if_pos h6] at h;exact Ve h
 rw[if_neg h6] at h
 by_cases h7:k=15
 ·subst h7;rw[if_pos rfl] at h
  match l,hl (by decide),h with
  | [a,b],_,h=>
   simp only[List.append_eq_nil_iff] at h;intro x hx;simp at hx
   rcases hx with rfl | rfl
   ·exact h.1.1
   ·exact h.1.2
 rw[if_neg h7] at h
 by_cases h8:k=7∨k=16∨k=17
 ·rw[if_pos h8] at h;exact Ve h
 rw[if_neg h8] at h
 by_cases h9:k=18
 ·subst h9;rw[if_pos rfl] at h
  match l,hl (by decide),h with
  | [c,a,b],_,h=>
   simp only[List.append_eq_nil_iff] at h;intro x hx;simp at hx
   rcases hx with rfl | rfl | rfl
   ·exact h.1.1.1.1
   ·exact h.1.1.2
   ·exact h.1.2
 rw[if_neg h9,if_neg h19,if_pos (by omega)] at h;simp only[List.append_eq_nil_iff] at h;exact JaP h.2
theorem Jil (k n:Int) (s:List UInt8) (o:Int) (l:List Nd):nest (.mk k n s o l)=nestL l+1:=by rw[nest]
theorem VV (a:Nd) (l:List Nd):nestL (a::l)=max (nest a) (nestL l):=by rw[nestL]
theorem Vk (fs vars:List (List UInt8)):∀ l,(resL fs vars l).1.length=l.length
 | []=>by rw[resL]
 | a::l=>by rw[resL]; simp only[List.length_cons,Vk fs vars l]
theorem Jja {pa:List Nat} {k n:Int} (hk:0≤k∧k<21) (h:k≠20):arityM pa k n=ar0 k:=by
 unfold arityM ar0
 by_cases h5:k≤5
 ·rw[if_pos (by omega),if_pos h5]
 ·rw[if_neg (by omega),if_neg h5];split
  ·rfl
  ·split
   ·rfl
   ·rfl
theorem Jff {nf vars:Nat} {k n:Int} {s:List UInt8} {m:Nat} (h:PrF k n s m) (h2:k≠2) (h19:k≠19) (h20:k≠20):fieldsB nf vars k n s=true:=by
 obtain ⟨a1,a2,a3,a4,a5,a6,a7,a8,_⟩:=h;unfold fieldsB;simp only[Bool.and_eq_true];refine ⟨⟨⟨?_,?_⟩,by simpa using a1⟩,by simpa using a2⟩
 ·by_cases h0:k=0
  ·rw[if_pos h0]; have:=a3 h0; simp; omega
  rw[if_neg h0]
  by_cases h1:k=1
  ·rw[if_pos h1]; have:=a4 h1; simp; omega
  rw[if_neg h1,if_neg h2,if_neg h19,if_neg h20,a5 h0 h1];rfl
 ·by_cases h3:k=3
  ·rw[if_pos h3]; exact a6 h3
  rw[if_neg h3]
  by_cases h4:k=4∨k=5
  ·rw[if_pos h4]; exact a7 h4
  rw[if_neg h4,a8 h2 h3 (fun h=>h4 (.inl h)) (fun h=>h4 (.inr h)) h19 h20];rfl
mutual
theorem VG {fs:List (List UInt8)} {sg:List SigM} (hfs:fs.length=sg.length):∀ (a:Nd) (vars:List (List UInt8)) (ty:List Int) (m:Nat),PrN a→(resN fs vars a).2=[]→(ofN sg ty (resN fs vars a).1).2=[]→nest a≤m→fitsN (palen sg) vars.length m (treeN (resN fs vars a).1)=true
 | .mk k n s o l,vars,ty,m,hp,hr,ht,hn=>by
  rw[KV] at hp;obtain ⟨hf,hl⟩:=hp;obtain ⟨a1,a2,a3,a4,a5,a6,a7,a8,a9⟩:=hf;rw[Jil] at hn;rw[K1] at hr ht ⊢
  by_cases h2:k=2
  ·subst h2;rw[if_pos rfl] at hr ht ⊢;obtain rfl:l=[]:=List.eq_nil_of_length_eq_zero (a9 (by decide));simp only[List.append_eq_nil_iff] at hr;have hx:=(Vv s _ vars rfl).2;have hlt:¬ lastIx vars s<0:=fun hc=>by rw[if_pos hc] at hr; exact absurd hr.1 (by simp)
   rw[resL,treeN,treeL];unfold fitsN fieldsB arityM;simp[fitsL];omega
  rw[if_neg h2] at hr ht ⊢
  by_cases h20:k=20
  ·subst h20;rw[if_pos rfl] at hr ht ⊢;simp only[List.append_eq_nil_iff] at hr
   cases hx:firstIx fs s with
   | none=>rw[hx] at hr; simp at hr
   | some q=>
    have hlt:=Zf hx;rw[hx] at ht;have hk:=JbI ht (by decide) (by decide) (fun h=>absurd rfl h);rw[YM,if_neg (by decide),if_neg (by decide),if_neg (by decide),if_neg (by decide),if_neg (by decide),if_neg (by decide),if_neg (by decide),if_neg (by decide),if_neg (by decide),if_pos rfl] at ht;simp only[List.append_eq_nil_iff] at ht
    have hlen:(resL fs vars l).1.length=(sg.getD q ⟨[],0⟩).params.length:=by
     have:=ht.1;split at this
     ·cases this
     ·rename_i hc;exact Classical.not_not.1 hc
    have hkids:=YU hfs l vars (m-1) 20 0 (by decide) hl hr.2 (fun a ha=>⟨ty,hk a ha⟩) (by omega)
    have hpa:(palen sg).getD q 0=(sg.getD q ⟨[],0⟩).params.length:=by
     unfold palen;simp only[List.getD_eq_getElem?_getD,List.getElem?_map]
     cases sg[q]? <;> rfl
    rw[treeN];rw[fitsN,hkids]
    have hfl:fieldsB (palen sg).length vars.length 20 ((Option.getD (some q) 0:Nat):Int) []=true:=by
     unfold fieldsB;rw[K5];simp;omega
    have har:arityM (palen sg) 20 ((Option.getD (some q) 0:Nat):Int)=(resL fs vars l).1.length:=by
     unfold arityM;simp only[Option.getD_some,Int.toNat_natCast];rw[if_neg (by decide),if_neg (by decide),if_neg (by decide),if_pos trivial,hpa,hlen]
    rw[hfl,har,K7];simp;omega
  rw[if_neg h20] at hr ht ⊢
  by_cases h19:k=19
  ·subst h19;rw[if_pos rfl] at hr ht ⊢
   match l,a9 (by decide),hl,hr,ht,hn with
   | [a,b],_,hl,hr,ht,hn=>
    rw[J2,J2] at hl;simp only[List.append_eq_nil_iff] at hr;rw[VV,VV] at hn;simp only at ht ⊢;rw[YM,if_neg (by decide),if_neg (by decide),if_neg (by decide),if_neg (by decide),if_neg (by decide),if_neg (by decide),if_neg (by decide),if_neg (by decide),if_pos rfl] at ht;simp only[List.append_eq_nil_iff] at ht;have fa:=VG hfs a vars ty (m-1) hl.1 hr.1 ht.1 (by omega);have fb:=VG hfs b (vars++[s]) _ (m-1) hl.2.1 hr.2 ht.2 (by omega);rw[List.length_append,List.length_singleton] at fb;rw[treeN,treeL,treeL,treeL,fitsN,fitsL,fitsL,fitsL]
    have hfl:fieldsB (palen sg).length vars.length 19 (vars.length:Int) []=true:=by
     unfold fieldsB;simp
    rw[hfl];simp[fa,fb,arityM];omega
  rw[if_neg h19] at hr ht ⊢;have hk:=JbI ht h19 ⟨a1,a2⟩ (fun h=>by rw[Vk]; exact a9 h);have hkids:=YU hfs l vars (m-1) k 0 h19 hl hr (fun a ha=>⟨ty,hk a ha⟩) (by omega);rw[treeN,fitsN,hkids,Jff ⟨a1,a2,a3,a4,a5,a6,a7,a8,a9⟩ h2 h19 h20,Jja ⟨a1,a2⟩ h20,K7,Vk,a9 h20];simp;omega
theorem YU {fs:List (List UInt8)} {sg:List SigM} (hfs:fs.length=sg.length):∀ (l:List Nd) (vars:List (List UInt8)) (m:Nat) (k:Int) (i:Nat),k≠19→PrL l→(resL fs vars l).2=[]→(∀ a∈(resL fs vars l).1,∃ ty,(ofN sg ty a).2=[])→nestL l≤m→fitsL (palen sg) vars.length m k i (treeL (resL fs vars l).1)=true
 | [],vars,m,k,i,hk,hp,hr,ht,hn=>by rw[resL,treeL,fitsL]
 | a::l,vars,m,k,i,hk,hp,hr,ht,hn=>by
  rw[J2] at hp;rw[resL] at hr ht ⊢;simp only[List.append_eq_nil_iff] at hr;rw[VV] at hn;obtain ⟨ty,h1⟩:=ht _ (List.mem_cons_self);have fa:=VG hfs a vars ty m hp.1 hr.1 h1 (by omega);have fl:=YU hfs l vars m k (i+1) hk hp.2 hr.2 (fun x hx=>ht x (List.mem_cons_of_mem _ hx)) (by omega);simp only;rw[treeL,fitsL,if_neg (fun h=>hk h.1),fa,fl];rfl
end
theorem Jdj {l:List (List UInt8 × Int)} {seen:List (List UInt8)}:dupl l seen=[]→∀ {fs:List FnM},fs.map (·.name)=l.map (·.1)→(∀ f∈fs,identB f.name=true∧typeB f.result=true∧f.params.all typeB=true)→namesM seen fs=true:=by
 induction l generalizing seen with
 | nil=>
  intro _ fs hm _;obtain rfl:fs=[]:=by simpa using hm
  rfl
 | cons a l ih=>
  intro h fs hm hf;obtain ⟨s,o⟩:=a;rw[dupl] at h;simp only[List.append_eq_nil_iff] at h
  cases fs with
  | nil=>simp at hm
  | cons f fs=>
   simp only[List.map_cons,List.cons.injEq] at hm;obtain ⟨e1,e2⟩:=hm;obtain ⟨g1,g2,g3⟩:=hf f (by simp);have hns:s∉seen:=fun hc=>by rw[if_pos hc] at h; exact absurd h.1 (by simp)
   rw[namesM,g1,g2,g3,e1];rw[ih h.2 e2 (fun x hx=>hf x (List.mem_cons_of_mem _ hx))];simp[hns]
theorem Jdk {s:Src} (h:limitM s=none):∀ a∈s.roots,nest a≤40:=by
 unfold limitM at h;simp only[Option.map_eq_none_iff,List.find?_eq_none,decide_eq_true_eq] at h;intro a ha;have:=h a ha;omega
theorem Jfg {s:Src} (h1:∀ x∈s.funcs,FnPr x) (h2:∀ x∈s.clauses,ClPr x) (h3:actB s.action=true) (hl:limitM s=none) (hr:(resolveM s).2=[]) (hc:checkM (resolveM s).1=[]):rightM (ruleOf (resolveM s).1)=true:=by
 have hnest:=Jdk hl;unfold Src.roots at hnest;unfold resolveM at hr hc ⊢;simp only[List.append_eq_nil_iff,List.flatten_eq_nil_iff] at hr;obtain ⟨⟨e0,e1⟩,e2⟩:=hr;unfold checkM at hc;simp only[List.append_eq_nil_iff,List.flatten_eq_nil_iff,List.mem_map,List.map_map] at hc;obtain ⟨c1,c2⟩:=hc;obtain ⟨fs,hfs⟩:∃ fs,s.funcs.map (·.name.1)=fs:=⟨_,rfl⟩
 obtain ⟨sg,hsg⟩:∃ sg,(s.funcs.map fun f=>(⟨f.types,f.result⟩:SigM))=sg:=⟨_,rfl⟩
 have hsg2:(List.map ((fun f:FnS=>(⟨f.types,f.result⟩:SigM))∘(fun x=>x.1)∘resF fs) s.funcs)=sg:=by rw[← hsg]; rfl
 rw[hfs] at e1 e2 c1 c2 ⊢;have hlen:fs.length=sg.length:=by rw[← hfs,← hsg]; simp
 have hpa:palen sg=s.funcs.map fun f=>f.types.length:=by rw[← hsg]; unfold palen; rw[List.map_map]; rfl
 have F:∀ f∈s.funcs,fitsN (palen sg) f.types.length 40 (treeN (resF fs f).1.body)=true∧needN sg f.types f.result (utN (treeN (resF fs f).1.body))=[]:=by
  intro f hf;have hp:=h1 f hf;have r1:=e1 _ (List.mem_map.2 ⟨resF fs f,List.mem_map.2 ⟨f,hf,rfl⟩,rfl⟩);have t1:=c1 _ ⟨f,hf,rfl⟩;simp only[Function.comp,hsg2] at t1;unfold resF at r1 t1 ⊢;simp only[List.append_eq_nil_iff] at r1;simp only at t1 ⊢;have nf:=hnest f.body (List.mem_append_left _ (List.mem_map.2 ⟨f,hf,rfl⟩));have ty:=Vj t1;have:=VG hlen f.body (f.params.map (·.1)) f.types 40 hp.body r1.2 (by rw[ty]) nf;rw[List.length_map,hp.len] at this;exact ⟨this,Jfe t1⟩
 have C:∀ c∈s.clauses,fitsN (palen sg) 0 40 (treeN (resC fs c).1.cond)=true∧needN sg [] 1 (utN (treeN (resC fs c).1.cond))=[]:=by
  intro c hc;have hp:=h2 c hc;have r1:=e2 _ (List.mem_map.2 ⟨resC fs c,List.mem_map.2 ⟨c,hc,rfl⟩,rfl⟩);have t1:=c2 _ ⟨c,hc,rfl⟩;simp only[Function.comp,hsg2] at t1;unfold resC at r1 t1 ⊢;simp only at r1 t1 ⊢;have nf:=hnest c.cond (List.mem_append_right _ (List.mem_map.2 ⟨c,hc,rfl⟩));have ty:=Vj t1;exact ⟨VG hlen c.cond [] [] 40 hp.cond r1 (by rw[ty]) nf,Jfe t1⟩
 unfold rightM ruleOf treesM typedM RuleM.sigs RuleM.pa clsM;simp only[List.map_map,Bool.and_eq_true,List.all_map,List.all_eq_true,Function.comp,beq_iff_eq];have g1:(List.map ((fun x:FnM=>x.params.length)∘(fun f:FnS=>(⟨f.name.1,f.types,f.result,treeN f.body⟩:FnM))∘(fun x=>x.1)∘resF fs) s.funcs)=palen sg:=by rw[hpa]; rfl
 have g2:(List.map ((fun f:FnM=>(⟨f.params,f.result⟩:SigM))∘(fun f:FnS=>(⟨f.name.1,f.types,f.result,treeN f.body⟩:FnM))∘(fun x=>x.1)∘resF fs) s.funcs)=sg:=by rw[← hsg]; rfl
 refine ⟨⟨⟨⟨?_,fun c hc=>⟨(h2 c hc).action,(h2 c hc).reason⟩⟩,h3⟩,?_⟩,?_⟩
 ·refine Jdj e0 ?_ ?_
  ·simp only[List.map_map]; rfl
  ·intro f hf;simp only[List.mem_map,Function.comp] at hf;obtain ⟨g,hg,rfl⟩:=hf;exact ⟨(h1 g hg).name,(h1 g hg).result,(h1 g hg).types⟩
 ·exact ⟨fun f hf=>by rw[g1]; exact (F f hf).1,fun c hc=>by rw[g1]; exact (C c hc).1⟩
 ·exact ⟨fun f hf=>by rw[g2]; exact (F f hf).2,fun c hc=>by rw[g2]; exact (C c hc).2⟩
theorem JaQ:rightM noRule=true:=by rfl
theorem JaR {f:Nat} {T:List Tok} (hT:Tk T) {r:RuleM} {o:Int} (h:parseT f T=some (r,0,o)):rightM r=true:=by
 unfold parseT at h
 cases hs:srcP f T with
 | out=>rw[hs] at h; cases h
 | bad o=>rw[hs] at h; simp at h
 | ok s r'=>
  rw[hs] at h;simp only at h
  cases hl:limitM s with
  | some o=>rw[hl] at h; simp at h
  | none=>
   rw[hl] at h;simp only at h
   cases hr:least (resolveM s).2 with
   | some o=>rw[hr] at h; simp at h
   | none=>
    rw[hr] at h;simp only at h
    cases hc:least (checkM (resolveM s).1) with
    | some o=>rw[hc] at h; simp at h
    | none=>
     rw[hc] at h;simp only[Option.some.injEq,Prod.mk.injEq] at h;rw[← h.1];obtain ⟨g1,g2,g3⟩:=Jfb hT hs;exact Jfg g1 g2 g3 hl (VS hr) (VS hc)
def opE (k:Int) (l:List Exp):Exp:=.mk k 0 [] l
def notE (a:Exp):Exp:=opE 7 [a]
theorem RN.bind_val {α β:Type} (a:α) (u:Nat) (f:α→Nat→RN β):(RN.val a u).bind f=f a u:=rfl
theorem RN.bind_fault {α β:Type} (e:Int) (u:Nat) (f:α→Nat→RN β):(RN.fault e u:RN α).bind f=.fault e u:=rfl
section
variable (call:Int→List Int→Nat→RN Int) (F:FactsM) (vars:List Int) (u:Nat)
end
theorem Jdl {v:Int} (h:VOk 1 v):v=0∨v=1:=by
 rcases h with ⟨h,_⟩ | ⟨_,h⟩
 ·exact absurd h (by decide)
 ·exact h
theorem Jfh {fs:List SigM} {n:Int} {s:List UInt8} {o:Int} {l:List Nd} {t:Int} {k:Int} (hk:k=7∨k=16∨k=17) (h:ofN fs [] (.mk k n s o l)=(t,[])):∀ a∈l,ofN fs [] a=(1,[]):=by
 rw[YM,if_neg (by omega),if_neg (by omega),if_neg (by omega),if_neg (by omega),if_neg (by omega),if_neg (by omega),if_pos hk] at h;simp only[Prod.mk.injEq] at h;have h2:=Kn h.2;clear h
 induction l with
 | nil=>intro a ha; cases ha
 | cons x r ih=>
  intro a ha;rw[List.length_cons,List.replicate_succ] at h2
  rcases List.mem_cons.1 ha with rfl | ha
  ·exact h2.1
  ·exact ih h2.2 a ha
theorem ty1 {fs:List SigM} {t:Int} {a:Exp} (h:ofN fs [] (utN (notE a))=(t,[])):ofN fs [] (utN a)=(1,[]):=by
 unfold notE opE at h;rw[utN,utL,utL] at h;exact Jfh (.inl rfl) h _ (by simp)
end Go.Proofs.YtncanmdgdflnpaaGreatDoor
