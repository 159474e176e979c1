import Derived.Test.YtdlkcjkjnehnkaaGreatDoorE38
import Derived.Test.YtdlkcjkjnehnkaaGreatDoorE19
namespace Go.Proofs.YtdlkcjkjnehnkaaGreatDoor
open Go Go.Lib
open Go.ChangeShapes Go.WideShapes Go.ChangeAt Go.RowKit Go.Lib
open Go.RowKit
open Go
open _root_.Go.Proofs.Tryz
set_option linter.all false
set_option maxRecDepth 100000
set_option maxHeartbeats 32000000
theorem sp_not_short {c:UInt8} (h:isSp c=true):c∉short1∧c≠61∧c≠34:=by
 rcases JbV h with rfl | rfl | rfl | rfl <;> decide
theorem word_all (l:List UInt8):∀ c∈wordL l,isWo c=true:=by
 intro c hc;exact (List.all_eq_true.1 (List.all_takeWhile (p:=isWo) (l:=l))) c hc
theorem word_next {l:List UInt8}:(l.drop (wordL l).length).head?.map isWo≠some true:=by
 unfold wordL
 induction l with
 | nil=>simp
 | cons c l ih=>
  by_cases h:isWo c=true
  ·rw[List.takeWhile_cons_of_pos h];simpa using ih
  ·rw[List.takeWhile_cons_of_neg h];simpa using h
def Stop (r1 r2:List UInt8):Prop:=r1.head?=r2.head?∨r2=[]∨∃ c r,r2=c::r∧isSp c=true
theorem Stop.word {r1 r2:List UInt8} (h:Stop r1 r2) (h1:r1.head?.map isWo≠some true):r2.head?.map isWo≠some true:=by
 rcases h with h | rfl | ⟨c,r,rfl,hc⟩
 ·rw[← h]; exact h1
 ·simp
 ·simp[JeR hc]
theorem tok_stop {w r1 r2:List UInt8} {t:Tok} (h:tokF (w++r1)=some (t,w.length)) (hs:Stop r1 r2):tokF (w++r2)=some (t,w.length):=by
 have h0:=JaP h;have hlen:=h0.2.1
 cases w with
 | nil=>simp at hlen
 | cons c w=>
  simp only[List.cons_append,tokF] at h ⊢;split at h
  ·rename_i hc;rw[if_pos hc];split at h
   ·rename_i h24;injection h with h;injection h with e1 e2;have htw:=JeS (c::(w++r1));have hn:=word_next (l:=c::(w++r1));have ha:=word_all (c::(w++r1));rw[e2] at htw hn;rw[← List.cons_append,List.take_left'] at htw;rw[← List.cons_append,List.drop_left'] at hn;rw[← List.cons_append] at ha e1 e2 h24;rw[← htw] at ha e1 h24
    have hw2:wordL (c::(w++r2))=c::w:=by
     rw[← List.cons_append];exact Vz ha (hs.word hn)
    rw[hw2,if_pos h24,e1]
    all_goals rfl
   ·cases h
  ·rename_i hc;rw[if_neg hc];split at h
   ·rename_i hd;rw[if_pos hd]
    cases hp:parseI (wordL (c::(w++r1))) 0 1125899906842624 with
    | none=>rw[hp] at h; cases h
    | some m=>
     rw[hp] at h;injection h with h;injection h with e1 e2;have htw:=JeS (c::(w++r1));have hn:=word_next (l:=c::(w++r1));have ha:=word_all (c::(w++r1));rw[e2] at htw hn;rw[← List.cons_append,List.take_left'] at htw;rw[← List.cons_append,List.drop_left'] at hn;rw[← List.cons_append] at ha e2 hp;rw[← htw] at ha hp
     have hw2:wordL (c::(w++r2))=c::w:=by
      rw[← List.cons_append];exact Vz ha (hs.word hn)
     rw[hw2,hp,Option.map_some,e1]
     all_goals rfl
   ·rename_i hd;rw[if_neg hd];split at h
    ·rename_i hq;rw[if_pos hq]
     cases hp:textF 25 (w++r1) with
     | none=>rw[hp] at h; cases h
     | some v=>
      rw[hp] at h;injection h with h;injection h with e1 e2;obtain ⟨h2,h3,h4⟩:=V7 _ _ _ hp;have hvl:v.length+1=w.length:=by simp at e2; omega
      rw[hvl,List.take_left'] at h4;rw[h4,List.append_assoc]
      show Option.map _ (textF 25 (v++34::r2))=_
      rw[Jeb 25 _ v r2 hp,Option.map_some,e1]
      ·simp
      ·rfl
    ·rename_i hq;rw[if_neg hq];split at h
     ·cases h
     ·rename_i hne;injection h with h;injection h with e1 e2
      have key:signL (c::(w++r2))=c::w:=by
       rcases Jec (c::(w++r1)) with ⟨hm,e⟩ | ⟨hm,c',r',hcr,hcs,e⟩ | e
       ·have h2:=JeT hm;rw[e2] at h2;rw[← List.cons_append,List.take_append_of_le_length (by omega),List.take_of_length_le (by omega)] at e;rw[← List.cons_append] at e2 hm;unfold signL;rw[← List.cons_append,List.take_append_of_le_length (by omega),List.take_of_length_le (by omega),← e,if_pos hm]
       ·injection hcr with hc1 hc2;subst hc1;rw[e] at e2
        have hw0:w=[]:=by
         cases w with
         | nil=>rfl
         | cons a b=>simp at e2
        subst hw0;simp only[List.nil_append] at hm ⊢
        have hm2:(c::r2).take 2∉long2:=by
         rw[take2] at hm ⊢
         rcases hs with h | rfl | ⟨d,r,rfl,hd⟩
         ·rw[← h]; exact hm
         ·simp[long2]
         ·have:=(sp_not_short hd).2.1;simp[long2,this]
        unfold signL;rw[if_neg hm2];simp[hcs]
       ·exact absurd e hne
      have e3:signL (c::(w++r1))=c::w:=by
       have h3:=(Jaj (c::(w++r1))).2.2;rw[e2,← List.cons_append,List.take_left'] at h3
       ·exact h3.symm
       ·rfl
      rw[key,if_neg (by simp),← e1,e3]
theorem split_at (l:List UInt8) (n:Nat):l=l.take n++l.drop n:=(List.take_append_drop n l).symm
def joinW:List (List UInt8)→List UInt8
 | []=>[]
 | [a]=>a
 | a::b::r=>a++32::joinW (b::r)
def wrO (t:Tok):Option (List UInt8):=
 if t.kind=4 then none else if t.kind=0∨t.kind=3 then some t.text else if t.kind=1 then some (itoa t.n) else if t.kind=2 then some (34::(t.text++[34])) else some []
def writeL (l:List Tok):List UInt8:=joinW (l.filterMap wrO)
theorem wrO_of {t:Tok} (h:0≤t.kind) (h3:t.kind≤3):wrO t=some (wr t):=by
 unfold wrO wr;rw[if_neg (by omega)]
 by_cases h1:t.kind=1
 ·rw[if_neg (by omega),if_pos h1,if_pos h1]
 ·rw[if_neg h1,if_neg h1]
  by_cases h2:t.kind=2
  ·rw[if_neg (by omega),if_pos h2,if_pos h2]
  ·rw[if_pos (by omega),if_neg h2]
theorem sc_step (k:Nat) {c:UInt8} {r:List UInt8} {t:Tok} {n:Nat} (hs:isSp c=false) (ht:tokF (c::r)=some (t,n)) (r2:List UInt8) (hst:Stop ((c::r).drop n) r2) :
  sc k (wr t++r2)=(sc (k+n) r2).push { t with off:=k }:=by
 have hw:=JaP ht;have hsp:=split_at (c::r) n;rw[← hw.1] at hsp
 have h2:tokF (wr t++r2)=some (t,(wr t).length):=by
  refine tok_stop (r1:=(c::r).drop n) ?_ hst;rw[← hsp,ht,hw.2.2.2]
 cases hwt:wr t with
 | nil=>rw[hwt] at hw; simp at hw; omega
 | cons d w=>
  rw[hwt] at h2 hsp;have hd:d=c:=by rw[List.cons_append] at hsp; injection hsp with h _; exact h.symm
  rw[List.cons_append] at h2 ⊢;have h3:=Jak k (w++r2) (c:=d) (by rw[hd]; exact hs) h2;rw[h3,← List.cons_append,List.drop_left' rfl];rw[← hw.2.2.2,hwt]
theorem sc_write:∀ (l:List UInt8) (k:Nat) (ts:List Tok),sc k l=.ok ts→∀ j,∃ us,sc j (writeL ts)=.ok us∧us.map er=ts.map er:=by
 refine Jdg (P:=fun k l=>∀ ts,sc k l=.ok ts→∀ j,∃ us,sc j (writeL ts)=.ok us∧us.map er=ts.map er) ?_ ?_ ?_ ?_
 ·intro k ts h j;rw[Jdf] at h;injection h with h;subst h;exact ⟨[⟨4,[],0,j⟩],rfl,rfl⟩
 ·intro k c r hs ih ts h j;rw[Jhr k r hs] at h;exact ih ts h j
 ·intro k c r hs ht ts h;rw[JbW k r hs ht] at h
  cases h
 ·intro k c r t n hs ht h1 hn ih ts h j;rw[Jak k r hs ht] at h;obtain ⟨rs,hr,rfl⟩:=JeV h;have hf:=JaQ ht;have hwr:wr { t with off:=(k:Int) }=wr t:=rfl
  have ho:wrO { t with off:=(k:Int) }=some (wr t):=by
   rw[wrO_of (t:={ t with off:=(k:Int) }) hf.1 hf.2.1,hwr]
  have hj:writeL ({ t with off:=(k:Int) }::rs)=wr t++(if rs.filterMap wrO=[] then [] else 32::writeL rs):=by
   unfold writeL;rw[List.filterMap_cons_some ho]
   cases hfm:rs.filterMap wrO with
   | nil=>simp[joinW]
   | cons a b=>simp[joinW]
  rw[hj]
  by_cases he:rs.filterMap wrO=[]
  ·rw[if_pos he,sc_step j hs ht [] (.inr (.inl rfl)),Jdf];refine ⟨_,rfl,?_⟩;obtain ⟨us,e1,e2,_⟩:=Jjy _ _ _ hr
   cases us with
   | nil=>
    rw[e1];simp[er]
   | cons a b=>
    have ha:=e2 a (by simp);rw[e1,List.cons_append,List.filterMap_cons_some (wrO_of ha.1 ha.2.1)] at he
    cases he
  ·rw[if_neg he,sc_step j hs ht _ (.inr (.inr ⟨32,_,rfl,by decide⟩)),Jhr _ _ (by decide)];obtain ⟨us,e1,e2⟩:=ih rs hr (j+n+1);rw[e1];refine ⟨_,rfl,?_⟩;simp only[List.map_cons,e2];rfl
theorem need_ty {fs:List SigM} {vars:List Int} {t:Int} {a:Nd} (h:needN fs vars t a=[]):ofN fs vars a=(t,[]):=by
 unfold needN at h;simp only[List.append_eq_nil_iff] at h;obtain ⟨h1,h2⟩:=h;split at h2
 ·cases h2
 ·rename_i hn;simp at hn;exact Prod.ext hn h1
def palen (fs:List SigM):List Nat:=fs.map (·.params.length)
theorem palen_length (fs:List SigM):(palen fs).length=fs.length:=by simp[palen]
def TkB (t:Tok):Prop:=(0≤t.n∧t.n≤1125899906842624)∧(t.kind=2→textB t.text=true)
theorem textF_all:∀ (f:Nat) (l w:List UInt8),textF f l=some w→w.all (fun c=>decide (32≤c.toNat)&&decide (c.toNat≤126)&&c !=34&&c !=92)=true
 | 0,l,w,h=>by cases h
 | f+1,[],w,h=>by cases h
 | f+1,c::r,w,h=>by
  rw[textF] at h;split at h
  ·injection h with h;subst h;rfl
  ·rename_i hc;split at h
   ·cases h
   ·rename_i hd
    cases hr:textF f r with
    | none=>rw[hr] at h; cases h
    | some v=>
     rw[hr] at h;injection h with h;subst h;have ih:=textF_all f r v hr;simp only[not_or] at hd;rw[List.all_cons,ih];simp[hc,hd.2.2];omega
theorem tok_text {l:List UInt8} {t:Tok} {n:Nat} (h:tokF l=some (t,n)):TkB t:=by
 have hf:=JaQ h;refine ⟨⟨hf.2.2.2.1,hf.2.2.2.2.1⟩,fun hk=>?_⟩
 cases l with
 | nil=>cases h
 | cons c r=>
  simp only[tokF] at h;split at h
  ·split at h
   ·injection h with h;injection h with h1 h2;subst h1;simp at hk
   ·cases h
  ·split at h
   ·cases hp:parseI (wordL (c::r)) 0 1125899906842624 with
    | none=>rw[hp] at h; cases h
    | some m=>
     rw[hp] at h;injection h with h;injection h with h1 h2;subst h1;simp at hk
   ·split at h
    ·cases hp:textF 25 r with
     | none=>rw[hp] at h; cases h
     | some w=>
      rw[hp] at h;injection h with h;injection h with h1 h2;subst h1;have h3:=textF_all _ _ _ hp;have h4:=(V7 _ _ _ hp).1;unfold textB;rw[h3];simp;omega
    ·split at h
     ·cases h
     ·injection h with h;injection h with h1 h2;subst h1;simp at hk
theorem sc_tkb:∀ (l:List UInt8) (k:Nat) (ts:List Tok),sc k l=.ok ts→∀ t∈ts,TkB t:=by
 refine Jdg (P:=fun k l=>∀ ts,sc k l=.ok ts→∀ t∈ts,TkB t) ?_ ?_ ?_ ?_
 ·intro k ts h;rw[Jdf] at h;injection h with h;subst h;intro t ht;obtain rfl:t=_:=by simpa using ht
  exact ⟨⟨by simp,by simp⟩,fun h=>by simp at h⟩
 ·intro k c r hs ih ts h;rw[Jhr k r hs] at h;exact ih ts h
 ·intro k c r hs ht ts h;rw[JbW k r hs ht] at h
  cases h
 ·intro k c r t n hs ht h1 hn ih ts h;rw[Jak k r hs ht] at h;obtain ⟨rs,hr,rfl⟩:=JeV h;intro x hx
  rcases List.mem_cons.1 hx with rfl | hx
  ·have h4:TkB t:=tok_text ht;exact h4
  ·exact ih rs hr x hx
def Tk (r:List Tok):Prop:=∀ t∈r,TkB t
theorem Tk.tail {r:List Tok} (h:Tk r):Tk r.tail:=fun t ht=>h t (List.mem_of_mem_tail ht)
theorem Tk.hd {r:List Tok} (h:Tk r):TkB (hd r):=by
 cases r with
 | nil=>exact ⟨⟨by decide,by decide⟩,fun h=>absurd h (by decide)⟩
 | cons a l=>exact h a (by simp)
theorem acc_tk {k:Int} {s:List UInt8} {r r':List Tok} (hs:Tk r) (h:acc k s r=some r'):Tk r':=by
 unfold acc at h;split at h
 ·injection h with h;subst h;exact hs.tail
 ·cases h
theorem accept_tk {k:Int} {s:List UInt8} {r r':List Tok} {u:Unit} (hs:Tk r) (h:accept k s r=.ok u r'):Tk r':=by
 unfold accept at h;split at h
 ·rename_i r1 h1;injection h with h0 h;subst h;exact acc_tk hs h1
 ·cases h
theorem identP_tk {r r':List Tok} {nm:List UInt8 × Int} (hs:Tk r) (h:identP r=.ok nm r'):Tk r'∧identB nm.1=true:=by
 unfold identP at h;split at h
 ·rename_i hc;injection h with h0 h;subst h h0;exact ⟨hs.tail,hc.2⟩
 ·cases h
theorem textP_tk {r r':List Tok} {s:List UInt8} (hs:Tk r) (h:textP r=.ok s r'):Tk r'∧textB s=true:=by
 unfold textP at h;split at h
 ·rename_i hc;injection h with h0 h;subst h h0;exact ⟨hs.tail,hs.hd.2 hc⟩
 ·cases h
theorem quotedP_tk {r r':List Tok} {s:List UInt8} (hs:Tk r) (h:quotedP r=.ok s r'):Tk r'∧textB s=true:=by
 unfold quotedP at h;obtain ⟨_,r1,h1,h⟩:=Je h;obtain ⟨_,r2,h2,h⟩:=Je h;obtain ⟨_,r3,h3,h⟩:=Je h;injection h with h0 h;subst h h0;have s1:=accept_tk hs h1;obtain ⟨s2,g2⟩:=textP_tk s1 h2;exact ⟨accept_tk s2 h3,g2⟩
theorem typP_tk {r r':List Tok} {t:Int} (hs:Tk r) (h:typP r=.ok t r'):Tk r'∧typeB t=true:=by
 unfold typP at h;split at h
 ·rename_i r1 h1;injection h with h0 h;subst h h0;exact ⟨acc_tk hs h1,rfl⟩
 ·split at h
  ·rename_i r1 h1;injection h with h0 h;subst h h0;exact ⟨acc_tk hs h1,rfl⟩
  ·cases h
theorem actP_tk {r r':List Tok} {t:Int} (hs:Tk r) (h:actP r=.ok t r'):Tk r'∧actB t=true:=by
 unfold actP at h
 repeat' split at h
 all_goals first
  | (rename_i r1 h1; injection h with h0 h; subst h h0; exact ⟨acc_tk hs h1,rfl⟩)
  | cases h
def ar0 (k:Int):Nat:=if k≤5 then 0 else if k=6∨k=7 then 1 else if k=18 then 3 else 2
def PrF (k n:Int) (s:List UInt8) (m:Nat):Prop:=0≤k∧k<21∧(k=0→0≤n∧n≤1125899906842624)∧(k=1→n=0∨n=1)∧(k≠0→k≠1→n=0)∧(k=3→(factI s).isSome=true)∧
 (k=4∨k=5→textB s=true)∧(k≠2→k≠3→k≠4→k≠5→k≠19→k≠20→s=[])∧(k≠20→m=ar0 k)
mutual
def PrN:Nd→Prop
 | .mk k n s o l=>PrF k n s l.length∧PrL l
def PrL:List Nd→Prop
 | []=>True
 | a::l=>PrN a∧PrL l
end
theorem PrN_mk {k n:Int} {s:List UInt8} {o:Int} {l:List Nd}:PrN (.mk k n s o l)↔PrF k n s l.length∧PrL l:=by rw[PrN]
theorem PrL_cons {a:Nd} {l:List Nd}:PrL (a::l)↔PrN a∧PrL l:=by rw[PrL]
theorem PrL_nil:PrL []:=by unfold PrL; trivial
theorem PrL_app {l:List Nd} {a:Nd} (h:PrL l) (ha:PrN a):PrL (l++[a]):=by
 induction l with
 | nil=>exact PrL_cons.2 ⟨ha,PrL_nil⟩
 | cons x r ih=>
  have:=PrL_cons.1 h;exact PrL_cons.2 ⟨this.1,ih this.2⟩
theorem PrN_off {a:Nd} (h:PrN a) (o:Int):PrN (.mk a.kind a.num a.name o a.kids):=by cases a; rw[PrN_mk] at *; exact h
theorem prF_op {k:Int} (h:6≤k∧k≤18):PrF k 0 [] (ar0 k):=⟨by omega,by omega,fun h=>by omega,fun h=>by omega,fun _ _=>rfl,fun h=>by omega,fun h=>by omega,fun _ _ _ _ _ _=>rfl,fun _=>rfl⟩
theorem pr1 {k o:Int} {a:Nd} (hk:k=6∨k=7) (ha:PrN a):PrN (.mk k 0 [] o [a]):=by
 have h:=prF_op (k:=k) (by omega);unfold ar0 at h;rw[if_neg (by omega),if_pos hk] at h;exact PrN_mk.2 ⟨h,PrL_cons.2 ⟨ha,PrL_nil⟩⟩
theorem pr2 {k o:Int} {a b:Nd} (hk:8≤k∧k≤17) (ha:PrN a) (hb:PrN b):PrN (.mk k 0 [] o [a,b]):=by
 have h:=prF_op (k:=k) (by omega);unfold ar0 at h;rw[if_neg (by omega),if_neg (by omega),if_neg (by omega)] at h;exact PrN_mk.2 ⟨h,PrL_cons.2 ⟨ha,PrL_cons.2 ⟨hb,PrL_nil⟩⟩⟩
theorem pr3 {o:Int} {a b c:Nd} (ha:PrN a) (hb:PrN b) (hc:PrN c):PrN (.mk 18 0 [] o [a,b,c]):=
 PrN_mk.2 ⟨prF_op (k:=18) (by decide),PrL_cons.2 ⟨ha,PrL_cons.2 ⟨hb,PrL_cons.2 ⟨hc,PrL_nil⟩⟩⟩⟩
theorem prLet {o:Int} {s:List UInt8} {a b:Nd} (ha:PrN a) (hb:PrN b):PrN (.mk 19 0 s o [a,b]):=
 PrN_mk.2 ⟨⟨by decide,by decide,fun h=>absurd h (by decide),fun h=>absurd h (by decide),fun _ _=>rfl,fun h=>absurd h (by decide),fun h=>absurd h (by decide),fun _ _ _ _ h=>absurd rfl h,fun _=>rfl⟩,PrL_cons.2 ⟨ha,PrL_cons.2 ⟨hb,PrL_nil⟩⟩⟩
theorem prCall {o:Int} {s:List UInt8} {l:List Nd} (hl:PrL l):PrN (.mk 20 0 s o l):=
 PrN_mk.2 ⟨⟨by decide,by decide,fun h=>absurd h (by decide),fun h=>absurd h (by decide),fun _ _=>rfl,fun h=>absurd h (by decide),fun h=>absurd h (by decide),fun _ _ _ _ _ h=>absurd rfl h,fun h=>absurd rfl h⟩,hl⟩
theorem prVar {o:Int} {s:List UInt8}:PrN (.mk 2 0 s o []):=
 PrN_mk.2 ⟨⟨by decide,by decide,fun h=>absurd h (by decide),fun h=>absurd h (by decide),fun _ _=>rfl,fun h=>absurd h (by decide),fun h=>absurd h (by decide),fun h=>absurd rfl h,fun _=>rfl⟩,PrL_nil⟩
theorem prInt {o n:Int} (h:0≤n∧n≤1125899906842624):PrN (.mk 0 n [] o []):=
 PrN_mk.2 ⟨⟨by decide,by decide,fun _=>h,fun h=>absurd h (by decide),fun h=>absurd rfl h,fun h=>absurd h (by decide),fun h=>absurd h (by decide),fun _ _ _ _ _ _=>rfl,fun _=>rfl⟩,PrL_nil⟩
theorem prBool {o n:Int} (h:n=0∨n=1):PrN (.mk 1 n [] o []):=
 PrN_mk.2 ⟨⟨by decide,by decide,fun h=>absurd h (by decide),fun _=>h,fun _ h=>absurd rfl h,fun h=>absurd h (by decide),fun h=>absurd h (by decide),fun _ _ _ _ _ _=>rfl,fun _=>rfl⟩,PrL_nil⟩
theorem prFact {o:Int} {s:List UInt8} (h:(factI s).isSome=true):PrN (.mk 3 0 s o []):=
 PrN_mk.2 ⟨⟨by decide,by decide,fun h=>absurd h (by decide),fun h=>absurd h (by decide),fun _ _=>rfl,fun _=>h,fun h=>absurd h (by decide),fun _ h=>absurd rfl h,fun _=>rfl⟩,PrL_nil⟩
theorem prText {k o:Int} {s:List UInt8} (hk:k=4∨k=5) (h:textB s=true):PrN (.mk k 0 s o []):=
 PrN_mk.2 ⟨⟨by omega,by omega,fun h=>by omega,fun h=>by omega,fun _ _=>rfl,fun h=>by omega,fun _=>h,fun _ _ h1 h2=>by omega,fun _=>by unfold ar0; rw[if_pos (by omega)]; rfl⟩,PrL_nil⟩
theorem opK_rng {lv:Nat} {t:Tok} {k:Int} (h:opK lv t=some k):8≤k∧k≤17:=by
 unfold opK at h
 repeat' split at h
 all_goals first
  | (injection h with h; subst h; decide)
  | cases h
theorem cmpK_rng {t:Tok} {k:Int} (h:cmpK t=some k):8≤k∧k≤17:=by
 unfold cmpK at h
 repeat' split at h
 all_goals first
  | (injection h with h; subst h; decide)
  | cases h
theorem cmpN_pr {t:Tok} {k:Int} {a b:Nd} (hk:8≤k∧k≤17) (ha:PrN a) (hb:PrN b):PrN (cmpN t k a b):=by
 unfold cmpN;split
 ·exact pr2 hk hb ha
 ·split
  ·exact pr1 (.inr rfl) (pr2 hk ha hb)
  ·exact pr2 hk ha hb
def extP:Md→Prop
 | .loop _ _ a=>PrN a
 | .args _ _ l=>PrL l
 | _=>True
theorem pM_pr:∀ (f:Nat) (md:Md) (r r':List Tok) (a:Nd),Tk r→pM f md r=.ok a r'→extP md→PrN a∧Tk r'
 | 0,md,r,r',a,hs,h,he=>by unfold pM at h; cases h
 | f+1,.expr,r,r',a,hs,h,he=>by
  rw[pM] at h;split at h
  ·rename_i r1 h1;obtain ⟨_,r2,h2,h⟩:=Je h;obtain ⟨_,r3,h3,h⟩:=Je h;obtain ⟨_,r4,h4,h⟩:=Je h;obtain ⟨_,r5,h5,h⟩:=Je h;obtain ⟨_,r6,h6,h⟩:=Je h;injection h with h0 h;subst h h0;have s1:=acc_tk hs h1;obtain ⟨s2,g2⟩:=identP_tk s1 h2;have s3:=accept_tk s2 h3;obtain ⟨g4,s4⟩:=pM_pr f _ _ _ _ s3 h4 trivial;have s5:=accept_tk s4 h5;obtain ⟨g6,s6⟩:=pM_pr f _ _ _ _ s5 h6 trivial;exact ⟨prLet g4 g6,s6⟩
  ·split at h
   ·rename_i r1 h1;obtain ⟨_,r2,h2,h⟩:=Je h;obtain ⟨_,r3,h3,h⟩:=Je h;obtain ⟨_,r4,h4,h⟩:=Je h;obtain ⟨_,r5,h5,h⟩:=Je h;obtain ⟨_,r6,h6,h⟩:=Je h;injection h with h0 h;subst h h0;have s1:=acc_tk hs h1;obtain ⟨g2,s2⟩:=pM_pr f _ _ _ _ s1 h2 trivial;have s3:=accept_tk s2 h3;obtain ⟨g4,s4⟩:=pM_pr f _ _ _ _ s3 h4 trivial;have s5:=accept_tk s4 h5;obtain ⟨g6,s6⟩:=pM_pr f _ _ _ _ s5 h6 trivial;exact ⟨pr3 g2 g4 g6,s6⟩
   ·exact pM_pr f _ _ _ _ hs h trivial
 | f+1,.level lv,r,r',a,hs,h,he=>by
  rw[pM] at h;split at h
  ·split at h
   ·rename_i r1 h1;obtain ⟨_,r2,h2,h⟩:=Je h;injection h with h0 h;subst h h0;obtain ⟨g2,s2⟩:=pM_pr f _ _ _ _ (acc_tk hs h1) h2 trivial;exact ⟨pr1 (.inr rfl) g2,s2⟩
   ·exact pM_pr f _ _ _ _ hs h trivial
  ·split at h
   ·split at h
    ·rename_i r1 h1;obtain ⟨_,r2,h2,h⟩:=Je h;injection h with h0 h;subst h h0;obtain ⟨g2,s2⟩:=pM_pr f _ _ _ _ (acc_tk hs h1) h2 trivial;exact ⟨pr1 (.inl rfl) g2,s2⟩
    ·exact pM_pr f _ _ _ _ hs h trivial
   ·obtain ⟨_,r1,h1,h⟩:=Je h;obtain ⟨g1,s1⟩:=pM_pr f _ _ _ _ hs h1 trivial;exact pM_pr f _ _ _ _ s1 h g1
 | f+1,.loop lv o b,r,r',a,hs,h,he=>by
  rw[pM] at h;split at h
  ·injection h with h0 h;subst h h0;exact ⟨he,hs⟩
  ·rename_i k hk;obtain ⟨_,r1,h1,h⟩:=Je h;obtain ⟨g1,s1⟩:=pM_pr f _ _ _ _ hs.tail h1 trivial;exact pM_pr f _ _ _ _ s1 h (show PrN _ from pr2 (opK_rng hk) he g1)
 | f+1,.cmp,r,r',a,hs,h,he=>by
  rw[pM] at h;obtain ⟨x,r1,h1,h⟩:=Je h;obtain ⟨g1,s1⟩:=pM_pr f _ _ _ _ hs h1 trivial;split at h
  ·injection h with h0 h;subst h h0;exact ⟨g1,s1⟩
  ·rename_i k hk;obtain ⟨y,r2,h2,h⟩:=Je h;obtain ⟨g2,s2⟩:=pM_pr f _ _ _ _ s1.tail h2 trivial;injection h with h0 h;subst h h0;exact ⟨cmpN_pr (cmpK_rng hk) g1 g2,s2⟩
 | f+1,.prim,r,r',a,hs,h,he=>by
  rw[pM] at h;split at h
  ·injection h with h0 h;subst h h0;exact ⟨prInt hs.hd.1,hs.tail⟩
  split at h
  ·rename_i r1 h1;obtain ⟨x,r2,h2,h⟩:=Je h;obtain ⟨_,r3,h3,h⟩:=Je h;injection h with h0 h;subst h h0;obtain ⟨g2,s2⟩:=pM_pr f _ _ _ _ (acc_tk hs h1) h2 trivial;exact ⟨PrN_off g2 _,accept_tk s2 h3⟩
  split at h
  ·rename_i r1 h1;injection h with h0 h;subst h h0;exact ⟨prBool (.inl rfl),acc_tk hs h1⟩
  split at h
  ·rename_i r1 h1;injection h with h0 h;subst h h0;exact ⟨prBool (.inr rfl),acc_tk hs h1⟩
  split at h
  ·rename_i r1 h1;obtain ⟨_,r2,h2,h⟩:=Je h;injection h with h0 h;subst h h0;obtain ⟨s2,g2⟩:=quotedP_tk (acc_tk hs h1) h2;exact ⟨prText (.inl rfl) g2,s2⟩
  split at h
  ·rename_i r1 h1;obtain ⟨_,r2,h2,h⟩:=Je h;injection h with h0 h;subst h h0;obtain ⟨s2,g2⟩:=quotedP_tk (acc_tk hs h1) h2;exact ⟨prText (.inr rfl) g2,s2⟩
  split at h
  ·rename_i hc;injection h with h0 h;subst h h0;exact ⟨prFact hc.1,hs.tail⟩
  ·exact pM_pr f _ _ _ _ hs h trivial
 | f+1,.named,r,r',a,hs,h,he=>by
  rw[pM] at h;obtain ⟨nm,r1,h1,h⟩:=Je h;obtain ⟨s1,g1⟩:=identP_tk hs h1;split at h
  ·injection h with h0 h;subst h h0;exact ⟨prVar,s1⟩
  ·rename_i r2 h2;split at h
   ·rename_i r3 h3;injection h with h0 h;subst h h0;exact ⟨prCall PrL_nil,acc_tk (acc_tk s1 h2) h3⟩
   ·exact pM_pr f _ _ _ _ (acc_tk s1 h2) h (show PrL _ from PrL_nil)
 | f+1,.args nm o l,r,r',a,hs,h,he=>by
  have he2:PrL l:=he;rw[pM] at h;obtain ⟨x,r1,h1,h⟩:=Je h;obtain ⟨g1,s1⟩:=pM_pr f _ _ _ _ hs h1 trivial;split at h
  ·rename_i r2 h2;exact pM_pr f _ _ _ _ (acc_tk s1 h2) h (show PrL _ from PrL_app he2 g1)
  ·obtain ⟨_,r2,h2,h⟩:=Je h;injection h with h0 h;subst h h0;exact ⟨prCall (PrL_app he2 g1),accept_tk s1 h2⟩
structure FnPr (f:FnS):Prop where
 body:PrN f.body
 name:identB f.name.1=true
 types:f.types.all typeB=true
 result:typeB f.result=true
 len:f.params.length=f.types.length
structure ClPr (c:ClS):Prop where
 cond:PrN c.cond
 action:actB c.action=true
 reason:textB c.reason=true
theorem paramsP_pr:∀ (f:Nat) (ps:List (List UInt8 × Int)) (ts:List Int) (r r':List Tok) a,Tk r→ts.all typeB=true→ps.length=ts.length→paramsP f ps ts r=.ok a r'→Tk r'∧a.2.all typeB=true∧a.1.length=a.2.length
 | 0,_,_,_,_,_,_,_,_,h=>by cases h
 | f+1,ps,ts,r,r',a,hs,ht,hl,h=>by
  rw[paramsP] at h;obtain ⟨_,r1,h1,h⟩:=Je h;obtain ⟨_,r2,h2,h⟩:=Je h;obtain ⟨t,r3,h3,h⟩:=Je h;obtain ⟨s3,g3⟩:=typP_tk (accept_tk (identP_tk hs h1).1 h2) h3;have ht2:(ts++[t]).all typeB=true:=by simp only[List.all_append,ht,List.all_cons,g3,List.all_nil,Bool.and_self]
  split at h
  ·rename_i r4 h4;exact paramsP_pr f _ _ _ _ _ (acc_tk s3 h4) ht2 (by simp[hl]) h
  ·obtain ⟨_,r4,h4,h⟩:=Je h;injection h with h0 h;subst h h0;exact ⟨accept_tk s3 h4,ht2,by simp[hl]⟩
theorem funP_pr {f:Nat} {r r':List Tok} {x:FnS} (hs:Tk r) (h:funP f r=.ok x r'):FnPr x∧Tk r':=by
 unfold funP at h;obtain ⟨nm,r1,h1,h⟩:=Je h;obtain ⟨_,r2,h2,h⟩:=Je h;obtain ⟨pt,r3,h3,h⟩:=Je h;obtain ⟨_,r4,h4,h⟩:=Je h;obtain ⟨_,r5,h5,h⟩:=Je h;obtain ⟨_,r6,h6,h⟩:=Je h;obtain ⟨_,r7,h7,h⟩:=Je h;injection h with h0 h;subst h h0;obtain ⟨s1,g1⟩:=identP_tk hs h1;have s2:=accept_tk s1 h2
 have s3:Tk r3∧pt.2.all typeB=true∧pt.1.length=pt.2.length:=by
  split at h3
  ·rename_i r9 h9;injection h3 with h0 h3;subst h3 h0;exact ⟨acc_tk s2 h9,rfl,rfl⟩
  ·exact paramsP_pr _ _ _ _ _ _ s2 rfl rfl h3
 obtain ⟨s5,g5⟩:=typP_tk (accept_tk s3.1 h4) h5;obtain ⟨g7,s7⟩:=pM_pr _ _ _ _ _ (accept_tk s5 h6) h7 trivial;exact ⟨⟨g7,g1,s3.2.1,g5,s3.2.2⟩,s7⟩
theorem funsP_pr (g:Nat):∀ (f:Nat) (l:List FnS) (r r':List Tok) a,Tk r→(∀ x∈l,FnPr x)→funsP g f l r=.ok a r'→(∀ x∈a,FnPr x)∧Tk r'
 | 0,_,_,_,_,_,_,h=>by cases h
 | f+1,l,r,r',a,hs,hl,h=>by
  rw[funsP] at h;split at h
  ·rename_i r1 h1;obtain ⟨x,r2,h2,h⟩:=Je h;obtain ⟨g1,g2⟩:=funP_pr (acc_tk hs h1) h2
   exact funsP_pr g f _ _ _ _ g2 (by
    intro y hy
    rcases List.mem_append.1 hy with hy | hy
    ·exact hl y hy
    ·obtain rfl:y=x:=by simpa using hy
     exact g1) h
  ·injection h with h0 h;subst h h0;exact ⟨hl,hs⟩
theorem clausesP_pr (g:Nat):∀ (f:Nat) (l:List ClS) (r r':List Tok) a,Tk r→(∀ x∈l,ClPr x)→clausesP g f l r=.ok a r'→(∀ x∈a,ClPr x)∧Tk r'
 | 0,_,_,_,_,_,_,h=>by cases h
 | f+1,l,r,r',a,hs,hl,h=>by
  rw[clausesP] at h;split at h
  ·rename_i r1 h1;obtain ⟨x,r2,h2,h⟩:=Je h;obtain ⟨_,r3,h3,h⟩:=Je h;obtain ⟨ac,r4,h4,h⟩:=Je h;obtain ⟨tx,r5,h5,h⟩:=Je h;obtain ⟨g1,s2⟩:=pM_pr _ _ _ _ _ (acc_tk hs h1) h2 trivial;obtain ⟨s4,g4⟩:=actP_tk (accept_tk s2 h3) h4;obtain ⟨s5,g5⟩:=textP_tk s4 h5
   exact clausesP_pr g f _ _ _ _ s5 (by
    intro y hy
    rcases List.mem_append.1 hy with hy | hy
    ·exact hl y hy
    ·obtain rfl:y=_:=by simpa using hy
     exact ⟨g1,g4,g5⟩) h
  ·injection h with h0 h;subst h h0;exact ⟨hl,hs⟩
theorem srcP_pr {f:Nat} {r r':List Tok} {s:Src} (hs:Tk r) (h:srcP f r=.ok s r'):(∀ x∈s.funcs,FnPr x)∧(∀ x∈s.clauses,ClPr x)∧actB s.action=true:=by
 unfold srcP at h;obtain ⟨fs,r1,h1,h⟩:=Je h;obtain ⟨cs,r2,h2,h⟩:=Je h;obtain ⟨_,r3,h3,h⟩:=Je h;obtain ⟨_,r4,h4,h⟩:=Je h;obtain ⟨g1,s1⟩:=funsP_pr _ _ _ _ _ _ hs (by simp) h1;obtain ⟨g2,s2⟩:=clausesP_pr _ _ _ _ _ _ s1 (by simp) h2;obtain ⟨s4,g4⟩:=actP_tk (accept_tk s2 h3) h4;split at h
 ·injection h with h0 h;subst h0;exact ⟨g1,g2,g4⟩
 ·cases h
theorem need_ut {fs:List SigM} {vars:List Int} {t:Int} {a:Nd} (h:needN fs vars t a=[]):needN fs vars t (utN (treeN a))=[]:=by
 have h1:=need_ty h;unfold needN;rw[Vw,h1];simp[z0]
theorem needL_kids {fs:List SigM} {vars:List Int} {t:Int}:∀ {l:List Nd},needL fs vars t l=[]→∀ a∈l,(ofN fs vars a).2=[]
 | [],_,a,ha=>by cases ha
 | x::l,h,a,ha=>by
  rw[needL_cons'] at h;simp only[List.append_eq_nil_iff] at h
  rcases List.mem_cons.1 ha with rfl | ha
  ·exact h.1.1
  ·exact needL_kids h.2 a ha
theorem argL_kids {fs:List SigM} {vars:List Int} {b:Bool}:∀ {l:List Nd} {ps:List Int},argL fs vars b ps l=[]→∀ a∈l,(ofN fs vars a).2=[]
 | [],_,_,a,ha=>by cases ha
 | x::l,ps,h,a,ha=>by
  rw[Jbz] at h;simp only[List.append_eq_nil_iff] at h
  rcases List.mem_cons.1 ha with rfl | ha
  ·exact h.1.1
  ·exact argL_kids h.2 a ha
theorem of_kids {fs:List SigM} {vars:List Int} {k n:Int} {s:List UInt8} {o:Int} {l:List Nd} (h:(ofN fs vars (.mk k n s o l)).2=[]) (h19:k≠19) (hk:0≤k∧k<21) (hl:k≠20→l.length=ar0 k):∀ a∈l,(ofN fs vars a).2=[]:=by
 by_cases h5:k≤5
 ·have:=hl (by omega);unfold ar0 at this;rw[if_pos h5] at this;obtain rfl:=List.eq_nil_of_length_eq_zero this;intro a ha
  cases ha
 rw[Jlb,if_neg (by omega),if_neg (by omega),if_neg (by omega)] at h
 by_cases h4:k=6∨(8≤k∧k≤12)
 ·rw[if_pos h4] at h;exact needL_kids h
 rw[if_neg h4] at h
 by_cases h6:k=13∨k=14
 ·rw[if_pos h6] at h;exact needL_kids h
 rw[if_neg h6] at h
 by_cases h7:k=15
 ·subst h7;rw[if_pos rfl] at h
  match l,hl (by decide),h with
  | [a,b],_,h=>
   simp only[List.append_eq_nil_iff] at h;intro x hx;simp at hx
   rcases hx with rfl | rfl
   ·exact h.1.1
   ·exact h.1.2
 rw[if_neg h7] at h
 by_cases h8:k=7∨k=16∨k=17
 ·rw[if_pos h8] at h;exact needL_kids h
 rw[if_neg h8] at h
 by_cases h9:k=18
 ·subst h9;rw[if_pos rfl] at h
  match l,hl (by decide),h with
  | [c,a,b],_,h=>
   simp only[List.append_eq_nil_iff] at h;intro x hx;simp at hx
   rcases hx with rfl | rfl | rfl
   ·exact h.1.1.1.1
   ·exact h.1.1.2
   ·exact h.1.2
 rw[if_neg h9,if_neg h19,if_pos (by omega)] at h;simp only[List.append_eq_nil_iff] at h;exact argL_kids h.2
theorem nest_mk (k n:Int) (s:List UInt8) (o:Int) (l:List Nd):nest (.mk k n s o l)=nestL l+1:=by rw[nest]
theorem nestL_cons (a:Nd) (l:List Nd):nestL (a::l)=max (nest a) (nestL l):=by rw[nestL]
theorem resL_length (fs vars:List (List UInt8)):∀ l,(resL fs vars l).1.length=l.length
 | []=>by rw[resL]
 | a::l=>by rw[resL]; simp only[List.length_cons,resL_length fs vars l]
theorem ar_eq {pa:List Nat} {k n:Int} (hk:0≤k∧k<21) (h:k≠20):arityM pa k n=ar0 k:=by
 unfold arityM ar0
 by_cases h5:k≤5
 ·rw[if_pos (by omega),if_pos h5]
 ·rw[if_neg (by omega),if_neg h5];split
  ·rfl
  ·split
   ·rfl
   ·rfl
theorem fields_pr {nf vars:Nat} {k n:Int} {s:List UInt8} {m:Nat} (h:PrF k n s m) (h2:k≠2) (h19:k≠19) (h20:k≠20):fieldsB nf vars k n s=true:=by
 obtain ⟨a1,a2,a3,a4,a5,a6,a7,a8,_⟩:=h;unfold fieldsB;simp only[Bool.and_eq_true];refine ⟨⟨⟨?_,?_⟩,by simpa using a1⟩,by simpa using a2⟩
 ·by_cases h0:k=0
  ·rw[if_pos h0]; have:=a3 h0; simp; omega
  rw[if_neg h0]
  by_cases h1:k=1
  ·rw[if_pos h1]; have:=a4 h1; simp; omega
  rw[if_neg h1,if_neg h2,if_neg h19,if_neg h20,a5 h0 h1];rfl
 ·by_cases h3:k=3
  ·rw[if_pos h3]; exact a6 h3
  rw[if_neg h3]
  by_cases h4:k=4∨k=5
  ·rw[if_pos h4]; exact a7 h4
  rw[if_neg h4,a8 h2 h3 (fun h=>h4 (.inl h)) (fun h=>h4 (.inr h)) h19 h20];rfl
mutual
theorem fits_res {fs:List (List UInt8)} {sg:List SigM} (hfs:fs.length=sg.length):∀ (a:Nd) (vars:List (List UInt8)) (ty:List Int) (m:Nat),PrN a→(resN fs vars a).2=[]→(ofN sg ty (resN fs vars a).1).2=[]→nest a≤m→fitsN (palen sg) vars.length m (treeN (resN fs vars a).1)=true
 | .mk k n s o l,vars,ty,m,hp,hr,ht,hn=>by
  rw[PrN_mk] at hp;obtain ⟨hf,hl⟩:=hp;obtain ⟨a1,a2,a3,a4,a5,a6,a7,a8,a9⟩:=hf;rw[nest_mk] at hn;rw[VE] at hr ht ⊢
  by_cases h2:k=2
  ·subst h2;rw[if_pos rfl] at hr ht ⊢;obtain rfl:l=[]:=List.eq_nil_of_length_eq_zero (a9 (by decide));simp only[List.append_eq_nil_iff] at hr;have hx:=(Zd s _ vars rfl).2;have hlt:¬ lastIx vars s<0:=fun hc=>by rw[if_pos hc] at hr; exact absurd hr.1 (by simp)
   rw[resL,treeN,treeL];unfold fitsN fieldsB arityM;simp[fitsL];omega
  rw[if_neg h2] at hr ht ⊢
  by_cases h20:k=20
  ·subst h20;rw[if_pos rfl] at hr ht ⊢;simp only[List.append_eq_nil_iff] at hr
   cases hx:firstIx fs s with
   | none=>rw[hx] at hr; simp at hr
   | some q=>
    have hlt:=Jez hx;rw[hx] at ht;have hk:=of_kids ht (by decide) (by decide) (fun h=>absurd rfl h);rw[Jlb,if_neg (by decide),if_neg (by decide),if_neg (by decide),if_neg (by decide),if_neg (by decide),if_neg (by decide),if_neg (by decide),if_neg (by decide),if_neg (by decide),if_pos rfl] at ht;simp only[List.append_eq_nil_iff] at ht
    have hlen:(resL fs vars l).1.length=(sg.getD q ⟨[],0⟩).params.length:=by
     have:=ht.1;split at this
     ·cases this
     ·rename_i hc;exact Classical.not_not.1 hc
    have hkids:=fitsL_res hfs l vars (m-1) 20 0 (by decide) hl hr.2 (fun a ha=>⟨ty,hk a ha⟩) (by omega)
    have hpa:(palen sg).getD q 0=(sg.getD q ⟨[],0⟩).params.length:=by
     unfold palen;simp only[List.getD_eq_getElem?_getD,List.getElem?_map]
     cases sg[q]? <;> rfl
    rw[treeN];rw[fitsN,hkids]
    have hfl:fieldsB (palen sg).length vars.length 20 ((Option.getD (some q) 0:Nat):Int) []=true:=by
     unfold fieldsB;rw[palen_length];simp;omega
    have har:arityM (palen sg) 20 ((Option.getD (some q) 0:Nat):Int)=(resL fs vars l).1.length:=by
     unfold arityM;simp only[Option.getD_some,Int.toNat_natCast];rw[if_neg (by decide),if_neg (by decide),if_neg (by decide),if_pos trivial,hpa,hlen]
    rw[hfl,har,JbA];simp;omega
  rw[if_neg h20] at hr ht ⊢
  by_cases h19:k=19
  ·subst h19;rw[if_pos rfl] at hr ht ⊢
   match l,a9 (by decide),hl,hr,ht,hn with
   | [a,b],_,hl,hr,ht,hn=>
    rw[PrL_cons,PrL_cons] at hl;simp only[List.append_eq_nil_iff] at hr;rw[nestL_cons,nestL_cons] at hn;simp only at ht ⊢;rw[Jlb,if_neg (by decide),if_neg (by decide),if_neg (by decide),if_neg (by decide),if_neg (by decide),if_neg (by decide),if_neg (by decide),if_neg (by decide),if_pos rfl] at ht;simp only[List.append_eq_nil_iff] at ht;have fa:=fits_res hfs a vars ty (m-1) hl.1 hr.1 ht.1 (by omega);have fb:=fits_res hfs b (vars++[s]) _ (m-1) hl.2.1 hr.2 ht.2 (by omega);rw[List.length_append,List.length_singleton] at fb;rw[treeN,treeL,treeL,treeL,fitsN,fitsL,fitsL,fitsL]
    have hfl:fieldsB (palen sg).length vars.length 19 (vars.length:Int) []=true:=by
     unfold fieldsB;simp
    rw[hfl];simp[fa,fb,arityM];omega
  rw[if_neg h19] at hr ht ⊢;have hk:=of_kids ht h19 ⟨a1,a2⟩ (fun h=>by rw[resL_length]; exact a9 h);have hkids:=fitsL_res hfs l vars (m-1) k 0 h19 hl hr (fun a ha=>⟨ty,hk a ha⟩) (by omega);rw[treeN,fitsN,hkids,fields_pr ⟨a1,a2,a3,a4,a5,a6,a7,a8,a9⟩ h2 h19 h20,ar_eq ⟨a1,a2⟩ h20,JbA,resL_length,a9 h20];simp;omega
theorem fitsL_res {fs:List (List UInt8)} {sg:List SigM} (hfs:fs.length=sg.length):∀ (l:List Nd) (vars:List (List UInt8)) (m:Nat) (k:Int) (i:Nat),k≠19→PrL l→(resL fs vars l).2=[]→(∀ a∈(resL fs vars l).1,∃ ty,(ofN sg ty a).2=[])→nestL l≤m→fitsL (palen sg) vars.length m k i (treeL (resL fs vars l).1)=true
 | [],vars,m,k,i,hk,hp,hr,ht,hn=>by rw[resL,treeL,fitsL]
 | a::l,vars,m,k,i,hk,hp,hr,ht,hn=>by
  rw[PrL_cons] at hp;rw[resL] at hr ht ⊢;simp only[List.append_eq_nil_iff] at hr;rw[nestL_cons] at hn;obtain ⟨ty,h1⟩:=ht _ (List.mem_cons_self);have fa:=fits_res hfs a vars ty m hp.1 hr.1 h1 (by omega);have fl:=fitsL_res hfs l vars m k (i+1) hk hp.2 hr.2 (fun x hx=>ht x (List.mem_cons_of_mem _ hx)) (by omega);simp only;rw[treeL,fitsL,if_neg (fun h=>hk h.1),fa,fl];rfl
end
theorem dupl_names {l:List (List UInt8 × Int)} {seen:List (List UInt8)}:dupl l seen=[]→∀ {fs:List FnM},fs.map (·.name)=l.map (·.1)→(∀ f∈fs,identB f.name=true∧typeB f.result=true∧f.params.all typeB=true)→namesM seen fs=true:=by
 induction l generalizing seen with
 | nil=>
  intro _ fs hm _;obtain rfl:fs=[]:=by simpa using hm
  rfl
 | cons a l ih=>
  intro h fs hm hf;obtain ⟨s,o⟩:=a;rw[dupl] at h;simp only[List.append_eq_nil_iff] at h
  cases fs with
  | nil=>simp at hm
  | cons f fs=>
   simp only[List.map_cons,List.cons.injEq] at hm;obtain ⟨e1,e2⟩:=hm;obtain ⟨g1,g2,g3⟩:=hf f (by simp);have hns:s∉seen:=fun hc=>by rw[if_pos hc] at h; exact absurd h.1 (by simp)
   rw[namesM,g1,g2,g3,e1];rw[ih h.2 e2 (fun x hx=>hf x (List.mem_cons_of_mem _ hx))];simp[hns]
theorem limit_nest {s:Src} (h:limitM s=none):∀ a∈s.roots,nest a≤40:=by
 unfold limitM at h;simp only[Option.map_eq_none_iff,List.find?_eq_none,decide_eq_true_eq] at h;intro a ha;have:=h a ha;omega
theorem src_right {s:Src} (h1:∀ x∈s.funcs,FnPr x) (h2:∀ x∈s.clauses,ClPr x) (h3:actB s.action=true) (hl:limitM s=none) (hr:(resolveM s).2=[]) (hc:checkM (resolveM s).1=[]):rightM (ruleOf (resolveM s).1)=true:=by
 have hnest:=limit_nest hl;unfold Src.roots at hnest;unfold resolveM at hr hc ⊢;simp only[List.append_eq_nil_iff,List.flatten_eq_nil_iff] at hr;obtain ⟨⟨e0,e1⟩,e2⟩:=hr;unfold checkM at hc;simp only[List.append_eq_nil_iff,List.flatten_eq_nil_iff,List.mem_map,List.map_map] at hc;obtain ⟨c1,c2⟩:=hc;obtain ⟨fs,hfs⟩:∃ fs,s.funcs.map (·.name.1)=fs:=⟨_,rfl⟩
 obtain ⟨sg,hsg⟩:∃ sg,(s.funcs.map fun f=>(⟨f.types,f.result⟩:SigM))=sg:=⟨_,rfl⟩
 have hsg2:(List.map ((fun f:FnS=>(⟨f.types,f.result⟩:SigM))∘(fun x=>x.1)∘resF fs) s.funcs)=sg:=by rw[← hsg]; rfl
 rw[hfs] at e1 e2 c1 c2 ⊢;have hlen:fs.length=sg.length:=by rw[← hfs,← hsg]; simp
 have hpa:palen sg=s.funcs.map fun f=>f.types.length:=by rw[← hsg]; unfold palen; rw[List.map_map]; rfl
 have F:∀ f∈s.funcs,fitsN (palen sg) f.types.length 40 (treeN (resF fs f).1.body)=true∧needN sg f.types f.result (utN (treeN (resF fs f).1.body))=[]:=by
  intro f hf;have hp:=h1 f hf;have r1:=e1 _ (List.mem_map.2 ⟨resF fs f,List.mem_map.2 ⟨f,hf,rfl⟩,rfl⟩);have t1:=c1 _ ⟨f,hf,rfl⟩;simp only[Function.comp,hsg2] at t1;unfold resF at r1 t1 ⊢;simp only[List.append_eq_nil_iff] at r1;simp only at t1 ⊢;have nf:=hnest f.body (List.mem_append_left _ (List.mem_map.2 ⟨f,hf,rfl⟩));have ty:=need_ty t1;have:=fits_res hlen f.body (f.params.map (·.1)) f.types 40 hp.body r1.2 (by rw[ty]) nf;rw[List.length_map,hp.len] at this;exact ⟨this,need_ut t1⟩
 have C:∀ c∈s.clauses,fitsN (palen sg) 0 40 (treeN (resC fs c).1.cond)=true∧needN sg [] 1 (utN (treeN (resC fs c).1.cond))=[]:=by
  intro c hc;have hp:=h2 c hc;have r1:=e2 _ (List.mem_map.2 ⟨resC fs c,List.mem_map.2 ⟨c,hc,rfl⟩,rfl⟩);have t1:=c2 _ ⟨c,hc,rfl⟩;simp only[Function.comp,hsg2] at t1;unfold resC at r1 t1 ⊢;simp only at r1 t1 ⊢;have nf:=hnest c.cond (List.mem_append_right _ (List.mem_map.2 ⟨c,hc,rfl⟩));have ty:=need_ty t1;exact ⟨fits_res hlen c.cond [] [] 40 hp.cond r1 (by rw[ty]) nf,need_ut t1⟩
 unfold rightM ruleOf treesM typedM RuleM.sigs RuleM.pa clsM;simp only[List.map_map,Bool.and_eq_true,List.all_map,List.all_eq_true,Function.comp,beq_iff_eq];have g1:(List.map ((fun x:FnM=>x.params.length)∘(fun f:FnS=>(⟨f.name.1,f.types,f.result,treeN f.body⟩:FnM))∘(fun x=>x.1)∘resF fs) s.funcs)=palen sg:=by rw[hpa]; rfl
 have g2:(List.map ((fun f:FnM=>(⟨f.params,f.result⟩:SigM))∘(fun f:FnS=>(⟨f.name.1,f.types,f.result,treeN f.body⟩:FnM))∘(fun x=>x.1)∘resF fs) s.funcs)=sg:=by rw[← hsg]; rfl
 refine ⟨⟨⟨⟨?_,fun c hc=>⟨(h2 c hc).action,(h2 c hc).reason⟩⟩,h3⟩,?_⟩,?_⟩
 ·refine dupl_names e0 ?_ ?_
  ·simp only[List.map_map]; rfl
  ·intro f hf;simp only[List.mem_map,Function.comp] at hf;obtain ⟨g,hg,rfl⟩:=hf;exact ⟨(h1 g hg).name,(h1 g hg).result,(h1 g hg).types⟩
 ·exact ⟨fun f hf=>by rw[g1]; exact (F f hf).1,fun c hc=>by rw[g1]; exact (C c hc).1⟩
 ·exact ⟨fun f hf=>by rw[g2]; exact (F f hf).2,fun c hc=>by rw[g2]; exact (C c hc).2⟩
theorem noRule_right:rightM noRule=true:=by rfl
theorem parseT_right {f:Nat} {T:List Tok} (hT:Tk T) {r:RuleM} {o:Int} (h:parseT f T=some (r,0,o)):rightM r=true:=by
 unfold parseT at h
 cases hs:srcP f T with
 | out=>rw[hs] at h; cases h
 | bad o=>rw[hs] at h; simp at h
 | ok s r'=>
  rw[hs] at h;simp only at h
  cases hl:limitM s with
  | some o=>rw[hl] at h; simp at h
  | none=>
   rw[hl] at h;simp only at h
   cases hr:least (resolveM s).2 with
   | some o=>rw[hr] at h; simp at h
   | none=>
    rw[hr] at h;simp only at h
    cases hc:least (checkM (resolveM s).1) with
    | some o=>rw[hc] at h; simp at h
    | none=>
     rw[hc] at h;simp only[Option.some.injEq,Prod.mk.injEq] at h;rw[← h.1];obtain ⟨g1,g2,g3⟩:=srcP_pr hT hs;exact src_right g1 g2 g3 hl (JeA hr) (JeA hc)
mutual
theorem ut_siz:∀ (a:Nd),siz (utN (treeN a))=siz a
 | .mk k n s o l=>by rw[treeN,utN,JG,JG,utL_siz l]
theorem utL_siz:∀ (l:List Nd),sizL (utL (treeL l))=sizL l
 | []=>by rw[treeL,utL]
 | a::l=>by rw[treeL,utL,Ju,Ju,ut_siz a,utL_siz l]
end
mutual
theorem wf_nm:∀ (a:Nd),WfN a→NmN (treeN a)
 | .mk k n s o l,h=>by
  rw[Vi] at h;rw[treeN];unfold NmN;exact ⟨by omega,wfL_nm l h.2.2.2.2⟩
theorem wfL_nm:∀ (l:List Nd),WfL l→NmL (treeL l)
 | [],h=>by rw[treeL]; unfold NmL; trivial
 | a::l,h=>by
  rw[J2] at h;rw[treeL];unfold NmL;exact ⟨wf_nm a h.1,wfL_nm l h.2⟩
end
theorem noRule_sz:RSz noRule:=⟨by decide,by decide,by simp[noRule],by simp[noRule]⟩
theorem scanR_tk {l:List UInt8} {T:List Tok} {at':Int} (h:scanR l=(T,0,at')):Tk T:=by
 unfold scanR at h;split at h
 ·simp at h
 ·cases hs:sc 0 l with
  | err k=>rw[hs] at h; simp at h
  | ok ts=>
   rw[hs] at h;simp at h;obtain ⟨rfl,rfl⟩:=h;exact sc_tkb _ _ _ hs
theorem ruleOf_sz {s:Src} (hb:SrcB s) (hp:∀ x∈s.funcs,FnPr x) (hc:∀ x∈s.clauses,ClPr x) (he:least (resolveM s).2=none):RSz (ruleOf (resolveM s).1):=by
 obtain ⟨h1,h2,h3,h4⟩:=JeB (m:=8194) (fun f hf=>⟨(hb.f f hf).1,(hb.f f hf).2.1,(hb.f f hf).2.2.1,(hb.f f hf).2.2.2⟩) (fun c hc=>hb.c c hc) he;have n1:=hb.nf;have n2:=hb.nc;unfold ruleOf;refine ⟨by simp only[List.length_map]; omega,by simp only[List.length_map]; omega,fun f hf=>?_,fun c hc'=>?_⟩
 ·simp only[List.mem_map] at hf;obtain ⟨g,hg,rfl⟩:=hf;obtain ⟨q1,q2,q3,_⟩:=h1 g hg
  have hname:g.name.1.length≤1000000:=by
   unfold resolveM at hg;simp only[List.mem_map] at hg;obtain ⟨_,⟨x,hx,rfl⟩,rfl⟩:=hg;exact (hb.f x hx).1.2
  exact ⟨by dsimp only; omega,by dsimp only; omega,wf_nm _ q1,by dsimp only; rw[ut_siz]; omega⟩
 ·simp only[List.mem_map] at hc';obtain ⟨g,hg,rfl⟩:=hc';obtain ⟨q1,q2,_⟩:=h2 g hg
  have hr:textB g.reason=true:=by
   unfold resolveM at hg;simp only[List.mem_map] at hg;obtain ⟨_,⟨x,hx,rfl⟩,rfl⟩:=hg;exact (hc x hx).reason
  unfold textB at hr;simp only[Bool.and_eq_true,decide_eq_true_eq] at hr;have hr2:=hr.2;exact ⟨wf_nm _ q1,by dsimp only; rw[ut_siz]; omega,by dsimp only; omega⟩
def EndL (r0:List Tok):Prop:=∃ us e,r0=us++[e]∧(∀ t∈us,t.kind≠4)∧e.kind=4
def Lf (r0 r:List Tok):Prop:=r <:+ r0∧r≠[]
def offIn (r0:List Tok) (o:Int):Prop:=∃ t∈r0,t.off=o
theorem Lf.off {r0 r:List Tok} (h:Lf r0 r):offIn r0 (hd r).off:=by
 obtain ⟨h1,h2⟩:=h
 cases r with
 | nil=>exact absurd rfl h2
 | cons t r=>exact ⟨t,h1.mem (by simp),rfl⟩
theorem Lf.tail {r0 r:List Tok} (he:EndL r0) (h:Lf r0 r) (hk:(hd r).kind≠4):Lf r0 r.tail:=by
 obtain ⟨h1,h2⟩:=h;obtain ⟨us,e,rfl,hu,h4⟩:=he
 cases r with
 | nil=>exact absurd rfl h2
 | cons t r=>
  refine ⟨(List.suffix_cons t r).trans h1,?_⟩;intro hn;simp only[List.tail_cons] at hn;subst hn
  have h3:t=e:=by
   obtain ⟨p,hp⟩:=h1;have:=congrArg List.getLast? hp;simpa using this
  subst h3;exact hk h4
def PI {α:Type} (r0:List Tok) (P:α→Prop):PR α→Prop
 | .out=>True
 | .bad o=>offIn r0 o
 | .ok a r=>Lf r0 r∧P a
theorem PI.bind {α β:Type} {r0:List Tok} {P:α→Prop} {Q:β→Prop} {x:PR α} {f:α→List Tok→PR β} (h:PI r0 P x) (hf:∀ a r,Lf r0 r→P a→PI r0 Q (f a r)):PI r0 Q (x.bind f):=by
 cases x with
 | out=>trivial
 | bad o=>exact h
 | ok a r=>exact hf a r h.1 h.2
section
variable {r0:List Tok} (he:EndL r0)
include he
theorem acc_lf {k:Int} {s:List UInt8} {r r':List Tok} (hk:k≠4) (h:Lf r0 r) (e:acc k s r=some r'):Lf r0 r':=by
 unfold acc at e;split at e
 ·next g=>injection e with e; subst e; exact h.tail he (by rw[g.1]; exact hk)
 ·cases e
theorem accept_in {k:Int} {s:List UInt8} {r:List Tok} (hk:k≠4) (h:Lf r0 r):PI r0 (fun _=>True) (accept k s r):=by
 unfold accept
 cases e:acc k s r with
 | some r1=>exact ⟨acc_lf he hk h e,trivial⟩
 | none=>exact h.off
theorem identP_in {r:List Tok} (h:Lf r0 r):PI r0 (fun p=>offIn r0 p.2) (identP r):=by
 unfold identP;split
 ·next g=>exact ⟨h.tail he (by omega),h.off⟩
 ·exact h.off
theorem textP_in {r:List Tok} (h:Lf r0 r):PI r0 (fun _=>True) (textP r):=by
 unfold textP;split
 ·next g=>exact ⟨h.tail he (by omega),trivial⟩
 ·exact h.off
theorem quotedP_in {r:List Tok} (h:Lf r0 r):PI r0 (fun _=>True) (quotedP r):=
 (accept_in he (by decide) h).bind fun _ _ h _=>(textP_in he h).bind fun _ _ h _=>(accept_in he (by decide) h).bind fun _ _ h _=>⟨h,trivial⟩
omit he
mutual
def NI (r0:List Tok):Nd→Prop
 | .mk _ _ _ o l=>offIn r0 o∧NIL r0 l
def NIL (r0:List Tok):List Nd→Prop
 | []=>True
 | a::l=>NI r0 a∧NIL r0 l
end
theorem NI_mk {k n:Int} {s:List UInt8} {o:Int} {l:List Nd}:NI r0 (.mk k n s o l)↔offIn r0 o∧NIL r0 l:=by rw[NI]
theorem NIL_nil:NIL r0 []:=by rw[NIL]; trivial
theorem NIL_cons {a:Nd} {l:List Nd}:NIL r0 (a::l)↔NI r0 a∧NIL r0 l:=by rw[NIL]
theorem NIL_app {l:List Nd} {a:Nd} (h:NIL r0 l) (ha:NI r0 a):NIL r0 (l++[a]):=by
 induction l with
 | nil=>exact NIL_cons.2 ⟨ha,NIL_nil⟩
 | cons b l ih=>exact NIL_cons.2 ⟨(NIL_cons.1 h).1,ih (NIL_cons.1 h).2⟩
theorem ni0 {k n:Int} {s:List UInt8} {o:Int} (h:offIn r0 o):NI r0 (.mk k n s o []):=NI_mk.2 ⟨h,NIL_nil⟩
theorem ni1 {k n:Int} {s:List UInt8} {o:Int} {a:Nd} (h:offIn r0 o) (ha:NI r0 a):NI r0 (.mk k n s o [a]):=NI_mk.2 ⟨h,NIL_cons.2 ⟨ha,NIL_nil⟩⟩
theorem ni2 {k n:Int} {s:List UInt8} {o:Int} {a b:Nd} (h:offIn r0 o) (ha:NI r0 a) (hb:NI r0 b):NI r0 (.mk k n s o [a,b]):=NI_mk.2 ⟨h,NIL_cons.2 ⟨ha,NIL_cons.2 ⟨hb,NIL_nil⟩⟩⟩
theorem ni3 {k n:Int} {s:List UInt8} {o:Int} {a b c:Nd} (h:offIn r0 o) (ha:NI r0 a) (hb:NI r0 b) (hc:NI r0 c):NI r0 (.mk k n s o [a,b,c]):=NI_mk.2 ⟨h,NIL_cons.2 ⟨ha,NIL_cons.2 ⟨hb,NIL_cons.2 ⟨hc,NIL_nil⟩⟩⟩⟩
theorem NI.o {a:Nd} (h:NI r0 a):offIn r0 a.off:=by cases a; exact (NI_mk.1 h).1
theorem cmpN_in {t:Tok} {k:Int} {a b:Nd} (ha:NI r0 a) (hb:NI r0 b):NI r0 (cmpN t k a b):=by
 unfold cmpN;split
 ·exact ni2 ha.o hb ha
 split
 ·exact ni1 ha.o (ni2 ha.o ha hb)
 ·exact ni2 ha.o ha hb
def MdI (r0:List Tok):Md→Prop
 | .loop _ o a=>offIn r0 o∧NI r0 a
 | .args _ o l=>offIn r0 o∧NIL r0 l
 | _=>True
theorem opK_nk {lv:Nat} {t:Tok} {k:Int} (h:opK lv t=some k):t.kind≠4:=by
 intro e;unfold opK at h;simp[e] at h
theorem cmpK_nk {t:Tok} {k:Int} (h:cmpK t=some k):t.kind≠4:=by
 intro e;unfold cmpK at h;simp[e] at h
include he
theorem pM_in:∀ (f:Nat) (md:Md) (r:List Tok),Lf r0 r→MdI r0 md→PI r0 (NI r0) (pM f md r)
 | 0,md,r,h,hm=>by rw[pM]; trivial
 | f+1,md,r,h,hm=>by
  have ih:=pM_in f;have iE:∀ r,Lf r0 r→PI r0 (NI r0) (pM f .expr r):=fun r h=>ih .expr r h trivial
  have iV:∀ lv r,Lf r0 r→PI r0 (NI r0) (pM f (.level lv) r):=fun lv r h=>ih (.level lv) r h trivial
  have ho:=h.off
  cases md with
  | expr=>
   rw[pM]
   cases e1:acc 0 kLet r with
   | some r1=>
    exact (identP_in he (acc_lf he (by decide) h e1)).bind fun nm r2 h _=>(accept_in he (by decide) h).bind fun _ r3 h _=>(iE r3 h).bind fun v r4 h hv=>(accept_in he (by decide) h).bind fun _ r5 h _=>(iE r5 h).bind fun b r6 h hb=>⟨h,ni2 ho hv hb⟩
   | none=>
    simp only
    cases e2:acc 0 kIf r with
    | some r1=>exact (iE r1 (acc_lf he (by decide) h e2)).bind fun v r2 h hv=>(accept_in he (by decide) h).bind fun _ r3 h _=>(iE r3 h).bind fun y r4 h hy=>(accept_in he (by decide) h).bind fun _ r5 h _=>(iE r5 h).bind fun b r6 h hb=>⟨h,ni3 ho hv hy hb⟩
    | none=>exact iV 1 r h
  | level lv=>
   rw[pM]
   by_cases h3:lv=3
   ·rw[if_pos h3]
    cases e1:acc 0 kNot r with
    | some r1=>exact (iV 3 r1 (acc_lf he (by decide) h e1)).bind fun a r2 h ha=>⟨h,ni1 ho ha⟩
    | none=>exact ih .cmp r h trivial
   rw[if_neg h3]
   by_cases h7:lv=7
   ·rw[if_pos h7]
    cases e1:acc 3 [45] r with
    | some r1=>exact (iV 7 r1 (acc_lf he (by decide) h e1)).bind fun a r2 h ha=>⟨h,ni1 ho ha⟩
    | none=>exact ih .prim r h trivial
   rw[if_neg h7];exact (iV (lv+1) r h).bind fun a r1 h ha=>ih (.loop lv _ a) r1 h ⟨ho,ha⟩
  | loop lv o a=>
   rw[pM]
   cases e1:opK lv (hd r) with
   | none=>exact ⟨h,hm.2⟩
   | some k=>exact (iV (lv+1) r.tail (h.tail he (opK_nk e1))).bind fun b r1 h hb=>ih (.loop lv o _) r1 h ⟨hm.1,ni2 hm.1 hm.2 hb⟩
  | cmp=>
   rw[pM];refine (iV 5 r h).bind fun a r1 h ha=>?_
   cases e1:cmpK (hd r1) with
   | none=>exact ⟨h,ha⟩
   | some k=>exact (iV 5 r1.tail (h.tail he (cmpK_nk e1))).bind fun b r2 h hb=>⟨h,cmpN_in ha hb⟩
  | prim=>
   rw[pM]
   by_cases h1:(hd r).kind=1
   ·rw[if_pos h1];exact ⟨h.tail he (by omega),ni0 ho⟩
   rw[if_neg h1]
   cases e1:acc 3 [40] r with
   | some r1=>
    refine (iE r1 (acc_lf he (by decide) h e1)).bind fun n r2 h hn=>(accept_in he (by decide) h).bind fun _ r3 h _=>⟨h,?_⟩
    cases n
    exact NI_mk.2 ⟨ho,(NI_mk.1 hn).2⟩
   | none=>
    simp only
    cases e2:acc 0 kFalse r with
    | some r1=>exact ⟨acc_lf he (by decide) h e2,ni0 ho⟩
    | none=>
     simp only
     cases e3:acc 0 kTrue r with
     | some r1=>exact ⟨acc_lf he (by decide) h e3,ni0 ho⟩
     | none=>
      simp only
      cases e4:acc 0 kLabel r with
      | some r1=>exact (quotedP_in he (acc_lf he (by decide) h e4)).bind fun s r2 h _=>⟨h,ni0 ho⟩
      | none=>
       simp only
       cases e5:acc 0 kWord r with
       | some r1=>exact (quotedP_in he (acc_lf he (by decide) h e5)).bind fun s r2 h _=>⟨h,ni0 ho⟩
       | none=>
        simp only
        by_cases h2:(factI (hd r).text).isSome∧(hd r).kind=0
        ·rw[if_pos h2];exact ⟨h.tail he (by omega),ni0 ho⟩
        ·rw[if_neg h2];exact ih .named r h trivial
  | named=>
   rw[pM];refine (identP_in he h).bind fun nm r1 h hn=>?_
   cases e1:acc 3 [40] r1 with
   | none=>exact ⟨h,ni0 hn⟩
   | some r2=>
    have h2:=acc_lf he (by decide) h e1;simp only
    cases e2:acc 3 [41] r2 with
    | some r3=>exact ⟨acc_lf he (by decide) h2 e2,ni0 hn⟩
    | none=>exact ih (.args nm.1 nm.2 []) r2 h2 ⟨hn,NIL_nil⟩
  | args nm o l=>
   rw[pM];refine (iE r h).bind fun a r1 h ha=>?_
   cases e1:acc 3 [44] r1 with
   | some r2=>exact ih (.args nm o (l++[a])) r2 (acc_lf he (by decide) h e1) ⟨hm.1,NIL_app hm.2 ha⟩
   | none=>exact (accept_in he (by decide) h).bind fun _ r2 h _=>⟨h,NI_mk.2 ⟨hm.1,NIL_app hm.2 ha⟩⟩
theorem typP_in {r:List Tok} (h:Lf r0 r):PI r0 (fun _=>True) (typP r):=by
 unfold typP
 cases e1:acc 0 kInt r with
 | some r1=>exact ⟨acc_lf he (by decide) h e1,trivial⟩
 | none=>
  simp only
  cases e2:acc 0 kBool r with
  | some r1=>exact ⟨acc_lf he (by decide) h e2,trivial⟩
  | none=>exact h.off
theorem actP_in {r:List Tok} (h:Lf r0 r):PI r0 (fun _=>True) (actP r):=by
 unfold actP
 cases e1:acc 0 kShow r with
 | some r1=>exact ⟨acc_lf he (by decide) h e1,trivial⟩
 | none=>
  simp only
  cases e1:acc 0 kMedia r with
  | some r1=>exact ⟨acc_lf he (by decide) h e1,trivial⟩
  | none=>
   simp only
   cases e1:acc 0 kLimit r with
   | some r1=>exact ⟨acc_lf he (by decide) h e1,trivial⟩
   | none=>
    simp only
    cases e1:acc 0 kHide r with
    | some r1=>exact ⟨acc_lf he (by decide) h e1,trivial⟩
    | none=>exact h.off
omit he
def PrOf (r0:List Tok) (l:List (List UInt8 × Int)):Prop:=∀ p∈l,offIn r0 p.2
theorem PrOf.app {l:List (List UInt8 × Int)} {p:List UInt8 × Int} (h:PrOf r0 l) (hp:offIn r0 p.2):PrOf r0 (l++[p]):=fun q hq=>by
 rcases List.mem_append.1 hq with g | g
 ·exact h q g
 ·rw[List.mem_singleton.1 g]; exact hp
structure FnOf (r0:List Tok) (x:FnS):Prop where
 nm:offIn r0 x.name.2
 ps:PrOf r0 x.params
 bd:NI r0 x.body
include he
theorem paramsP_in:∀ (f:Nat) (ps:List (List UInt8 × Int)) (ts:List Int) (r:List Tok),Lf r0 r→PrOf r0 ps→PI r0 (fun p=>PrOf r0 p.1) (paramsP f ps ts r)
 | 0,ps,ts,r,h,hp=>by rw[paramsP]; trivial
 | f+1,ps,ts,r,h,hp=>by
  rw[paramsP];refine (identP_in he h).bind fun nm r1 h hn=>(accept_in he (by decide) h).bind fun _ r2 h _=>(typP_in he h).bind fun t r3 h _=>?_
  cases e1:acc 3 [44] r3 with
  | some r4=>exact paramsP_in f _ _ r4 (acc_lf he (by decide) h e1) (hp.app hn)
  | none=>exact (accept_in he (by decide) h).bind fun _ r4 h _=>⟨h,hp.app hn⟩
theorem funP_in {f:Nat} {r:List Tok} (h:Lf r0 r):PI r0 (FnOf r0) (funP f r):=by
 unfold funP;refine (identP_in he h).bind fun nm r1 h hn=>(accept_in he (by decide) h).bind fun _ r2 h _=>?_
 have hq:PI r0 (fun p=>PrOf r0 p.1) (match acc 3 [41] r2 with
   | some r3=>PR.ok (([],[]):List (List UInt8 × Int) × List Int) r3
   | none=>paramsP f [] [] r2):=by
  cases e1:acc 3 [41] r2 with
  | some r3=>exact ⟨acc_lf he (by decide) h e1,fun p hp=>by simp at hp⟩
  | none=>exact paramsP_in he f _ _ r2 h (fun p hp=>by simp at hp)
 exact hq.bind fun pt r3 h hp=>(accept_in he (by decide) h).bind fun _ r4 h _=>(typP_in he h).bind fun t r5 h _=>(accept_in he (by decide) h).bind fun _ r6 h _=>(pM_in he f .expr r6 h trivial).bind fun b r7 h hb=>⟨h,⟨hn,hp,hb⟩⟩
theorem funsP_in (g:Nat):∀ (f:Nat) (l:List FnS) (r:List Tok),Lf r0 r→(∀ x∈l,FnOf r0 x)→PI r0 (fun l=>∀ x∈l,FnOf r0 x) (funsP g f l r)
 | 0,l,r,h,hl=>by rw[funsP]; trivial
 | f+1,l,r,h,hl=>by
  rw[funsP]
  cases e1:acc 0 kDef r with
  | some r1=>
   refine (funP_in he (acc_lf he (by decide) h e1)).bind fun x r2 h hx=>funsP_in g f _ r2 h fun y hy=>?_
   rcases List.mem_append.1 hy with q | q
   ·exact hl y q
   ·rw[List.mem_singleton.1 q]; exact hx
  | none=>exact ⟨h,hl⟩
theorem clausesP_in (g:Nat):∀ (f:Nat) (l:List ClS) (r:List Tok),Lf r0 r→(∀ x∈l,NI r0 x.cond)→PI r0 (fun l=>∀ x∈l,NI r0 x.cond) (clausesP g f l r)
 | 0,l,r,h,hl=>by rw[clausesP]; trivial
 | f+1,l,r,h,hl=>by
  rw[clausesP]
  cases e1:acc 0 kWhen r with
  | some r1=>
   refine (pM_in he g .expr r1 (acc_lf he (by decide) h e1) trivial).bind fun c r2 h hc=>(accept_in he (by decide) h).bind fun _ r3 h _=>(actP_in he h).bind fun a r4 h _=>(textP_in he h).bind fun s r5 h _=>clausesP_in g f _ r5 h fun y hy=>?_
   rcases List.mem_append.1 hy with q | q
   ·exact hl y q
   ·rw[List.mem_singleton.1 q]; exact hc
  | none=>exact ⟨h,hl⟩
theorem srcP_in {f:Nat} {r:List Tok} (h:Lf r0 r):PI r0 (fun s:Src=>(∀ x∈s.funcs,FnOf r0 x)∧∀ x∈s.clauses,NI r0 x.cond) (srcP f r):=by
 unfold srcP;refine (funsP_in he f f [] r h (fun x hx=>by simp at hx)).bind fun fs r1 h hf=>(clausesP_in he f f [] r1 h (fun x hx=>by simp at hx)).bind fun cs r2 h hc=>(accept_in he (by decide) h).bind fun _ r3 h _=>(actP_in he h).bind fun a r4 h _=>?_
 split
 ·exact ⟨h,hf,hc⟩
 ·exact h.off
end
def OffL (r0:List Tok) (l:List Int):Prop:=∀ o∈l,offIn r0 o
section
variable {r0:List Tok}
theorem OffL.nil:OffL r0 []:=fun o h=>by simp at h
theorem OffL.app {a b:List Int} (ha:OffL r0 a) (hb:OffL r0 b):OffL r0 (a++b):=fun o h=>(List.mem_append.1 h).elim (ha o) (hb o)
theorem OffL.ite {o:Int} (h:offIn r0 o) (p:Prop) [Decidable p]:OffL r0 (if p then [o] else []):=by
 split
 ·intro x hx;rw[List.mem_singleton.1 hx];exact h
 ·exact OffL.nil
theorem OffL.flat {α:Type} {l:List α} {f:α→List Int} (h:∀ x∈l,OffL r0 (f x)):OffL r0 (l.map f).flatten:=by
 intro o ho;simp only[List.mem_flatten,List.mem_map] at ho;obtain ⟨_,⟨x,hx,rfl⟩,h2⟩:=ho;exact h x hx o h2
mutual
theorem resN_in (fs:List (List UInt8)):∀ (vars:List (List UInt8)) (a:Nd),NI r0 a→NI r0 (resN fs vars a).1∧OffL r0 (resN fs vars a).2
 | vars,.mk k n s o l,h=>by
  rw[NI_mk] at h;obtain ⟨ho,hl⟩:=h;obtain ⟨q1,q2⟩:=resL_in fs vars l hl;rw[VE]
  by_cases h2:k=2
  ·rw[if_pos h2];exact ⟨NI_mk.2 ⟨ho,q1⟩,(OffL.ite ho _).app q2⟩
  rw[if_neg h2]
  by_cases h3:k=20
  ·rw[if_pos h3];exact ⟨NI_mk.2 ⟨ho,q1⟩,(OffL.ite ho _).app q2⟩
  rw[if_neg h3]
  by_cases h4:k=19
  ·rw[if_pos h4]
   match l,hl with
   | [],hl=>exact ⟨NI_mk.2 ⟨ho,hl⟩,OffL.nil⟩
   | [a],hl=>exact ⟨NI_mk.2 ⟨ho,hl⟩,OffL.nil⟩
   | [a,b],hl=>
    obtain ⟨x1,x2⟩:=resN_in fs vars a (NIL_cons.1 hl).1;obtain ⟨y1,y2⟩:=resN_in fs (vars++[s]) b (NIL_cons.1 (NIL_cons.1 hl).2).1;exact ⟨ni2 ho x1 y1,x2.app y2⟩
   | a::b::c::r,hl=>exact ⟨NI_mk.2 ⟨ho,hl⟩,OffL.nil⟩
  rw[if_neg h4];exact ⟨NI_mk.2 ⟨ho,q1⟩,q2⟩
theorem resL_in (fs:List (List UInt8)):∀ (vars:List (List UInt8)) (l:List Nd),NIL r0 l→NIL r0 (resL fs vars l).1∧OffL r0 (resL fs vars l).2
 | vars,[],h=>by rw[Jcn]; exact ⟨NIL_nil,OffL.nil⟩
 | vars,a::l,h=>by
  obtain ⟨x1,x2⟩:=resN_in fs vars a (NIL_cons.1 h).1;obtain ⟨y1,y2⟩:=resL_in fs vars l (NIL_cons.1 h).2;rw[Jaq];exact ⟨NIL_cons.2 ⟨x1,y1⟩,x2.app y2⟩
end
mutual
theorem ofN_in (fs:List SigM):∀ (vars:List Int) (a:Nd),NI r0 a→OffL r0 (ofN fs vars a).2
 | vars,.mk k n s o l,h=>by
  rw[NI_mk] at h;obtain ⟨ho,hl⟩:=h;have hN:=fun t=>needL_in fs vars t l hl
  have hA:=fun b ps=>argL_in fs vars b ps l hl
  rw[Jlb]
  by_cases h1:k=1∨k=5
  ·rw[if_pos h1]; exact OffL.nil
  rw[if_neg h1]
  by_cases h2:k=2
  ·rw[if_pos h2]; exact OffL.nil
  rw[if_neg h2]
  by_cases h3:k=3
  ·rw[if_pos h3]; exact OffL.nil
  rw[if_neg h3]
  by_cases h4:k=6∨(8≤k∧k≤12)
  ·rw[if_pos h4]; exact hN 0
  rw[if_neg h4]
  by_cases h5:k=13∨k=14
  ·rw[if_pos h5]; exact hN 0
  rw[if_neg h5]
  by_cases h6:k=15
  ·rw[if_pos h6]
   match l,hl with
   | [],hl=>exact OffL.nil
   | [a],hl=>exact OffL.nil
   | [a,b],hl=>
    have ga:=(NIL_cons.1 hl).1;have gb:=(NIL_cons.1 (NIL_cons.1 hl).2).1;exact ((ofN_in fs vars a ga).app (ofN_in fs vars b gb)).app (OffL.ite gb.o _)
   | a::b::c::r,hl=>exact OffL.nil
  rw[if_neg h6]
  by_cases h7:k=7∨k=16∨k=17
  ·rw[if_pos h7]; exact hN 1
  rw[if_neg h7]
  by_cases h8:k=18
  ·rw[if_pos h8]
   match l,hl with
   | [],hl=>exact OffL.nil
   | [a],hl=>exact OffL.nil
   | [a,b],hl=>exact OffL.nil
   | [c,a,b],hl=>
    have gc:=(NIL_cons.1 hl).1;have ga:=(NIL_cons.1 (NIL_cons.1 hl).2).1;have gb:=(NIL_cons.1 (NIL_cons.1 (NIL_cons.1 hl).2).2).1;exact (((((ofN_in fs vars c gc).app (OffL.ite gc.o _)).app (ofN_in fs vars a ga)).app (ofN_in fs vars b gb))).app (OffL.ite gb.o _)
   | a::b::c::d::r,hl=>exact OffL.nil
  rw[if_neg h8]
  by_cases h9:k=19
  ·rw[if_pos h9]
   match l,hl with
   | [],hl=>exact OffL.nil
   | [a],hl=>exact OffL.nil
   | [a,b],hl=>exact (ofN_in fs vars a (NIL_cons.1 hl).1).app (ofN_in fs (vars++[(ofN fs vars a).1]) b (NIL_cons.1 (NIL_cons.1 hl).2).1)
   | a::b::c::r,hl=>exact OffL.nil
  rw[if_neg h9]
  by_cases h10:k=20
  ·rw[if_pos h10];exact (OffL.ite ho _).app (hA _ _)
  rw[if_neg h10];exact OffL.nil
theorem needL_in (fs:List SigM):∀ (vars:List Int) (t:Int) (l:List Nd),NIL r0 l→OffL r0 (needL fs vars t l)
 | vars,t,[],h=>by rw[needL]; exact OffL.nil
 | vars,t,a::l,h=>by
  have ga:=(NIL_cons.1 h).1;rw[needL_cons'];exact ((ofN_in fs vars a ga).app (OffL.ite ga.o _)).app (needL_in fs vars t l (NIL_cons.1 h).2)
theorem argL_in (fs:List SigM):∀ (vars:List Int) (b:Bool) (ps:List Int) (l:List Nd),NIL r0 l→OffL r0 (argL fs vars b ps l)
 | vars,b,ps,[],h=>by rw[argL]; exact OffL.nil
 | vars,b,ps,a::l,h=>by
  have ga:=(NIL_cons.1 h).1;rw[Jbz];exact ((ofN_in fs vars a ga).app (OffL.ite ga.o _)).app (argL_in fs vars b ps.tail l (NIL_cons.1 h).2)
end
theorem needN_in {fs:List SigM} {vars:List Int} {t:Int} {a:Nd} (h:NI r0 a):OffL r0 (needN fs vars t a):=(ofN_in fs vars a h).app (OffL.ite h.o _)
theorem dupl_in:∀ {l:List (List UInt8 × Int)} {seen:List (List UInt8)},PrOf r0 l→OffL r0 (dupl l seen)
 | [],seen,h=>by rw[dupl]; exact OffL.nil
 | (s,o)::l,seen,h=>by
  rw[dupl];exact (OffL.ite (h (s,o) (by simp)) _).app (dupl_in fun p hp=>h p (by simp[hp]))
theorem least_mem:∀ {l:List Int} {o:Int},least l=some o→o∈l
 | a::l,o,h=>by
  rw[least] at h
  cases e:least l with
  | none=>rw[e] at h; simp only[Option.some.injEq] at h; simp[h]
  | some b=>
   rw[e] at h;simp only[Option.some.injEq] at h;have:=least_mem e
   rcases Int.le_total a b with g | g
   ·rw[Int.min_eq_left g] at h; simp[h]
   ·rw[Int.min_eq_right g] at h; subst h; simp[this]
theorem src_offs {s:Src} (h:(∀ x∈s.funcs,FnOf r0 x)∧∀ x∈s.clauses,NI r0 x.cond):(∀ o,limitM s=some o→offIn r0 o)∧OffL r0 (resolveM s).2∧OffL r0 (checkM (resolveM s).1):=by
 obtain ⟨hf,hc⟩:=h;refine ⟨fun o ho=>?_,?_,?_⟩
 ·unfold limitM at ho
  cases e:s.roots.find? (fun n=>decide (40<nest n)) with
  | none=>rw[e] at ho; cases ho
  | some a=>
   rw[e] at ho;simp only[Option.map_some,Option.some.injEq] at ho;have hm:=List.mem_of_find?_eq_some e;unfold Src.roots at hm;rw[← ho]
   rcases List.mem_append.1 hm with g | g
   ·obtain ⟨x,hx,rfl⟩:=List.mem_map.1 g;exact (hf x hx).bd.o
   ·obtain ⟨x,hx,rfl⟩:=List.mem_map.1 g;exact (hc x hx).o
 ·unfold resolveM;simp only[List.map_map];refine OffL.app (OffL.app (dupl_in fun p hp=>?_) (OffL.flat fun x hx=>?_)) (OffL.flat fun x hx=>?_)
  ·obtain ⟨x,hx,rfl⟩:=List.mem_map.1 hp;exact (hf x hx).nm
  ·exact (dupl_in (hf x hx).ps).app (resN_in _ _ _ (hf x hx).bd).2
  ·exact (resN_in _ _ _ (hc x hx)).2
 ·unfold checkM resolveM;simp only[List.map_map];refine OffL.app (OffL.flat fun x hx=>?_) (OffL.flat fun x hx=>?_)
  ·exact needN_in (resN_in _ _ _ (hf x hx).bd).1
  ·exact needN_in (resN_in _ _ _ (hc x hx)).1
theorem parseT_bad (he:EndL r0) {f:Nat} {r:RuleM} {e o:Int} (h:parseT f r0=some (r,e,o)) (h0:e≠0):r=noRule∧offIn r0 o:=by
 have hl:Lf r0 r0:=⟨List.suffix_refl _,by obtain ⟨us,t,rfl,_,_⟩:=he; simp⟩
 have hs:=srcP_in he (f:=f) hl
 cases e1:srcP f r0 with
 | out=>unfold parseT at h; rw[e1] at h; cases h
 | bad o'=>
  rw[e1] at hs;unfold parseT at h;rw[e1] at h;simp only[Option.some.injEq,Prod.mk.injEq] at h;obtain ⟨rfl,_,rfl⟩:=h;exact ⟨rfl,hs⟩
 | ok s r'=>
  rw[e1] at hs;obtain ⟨g1,g2,g3⟩:=src_offs hs.2;rw[JeF e1] at h;unfold contM at h
  cases q1:limitM s with
  | some o'=>
   rw[q1] at h;simp only[Option.some.injEq,Prod.mk.injEq] at h;obtain ⟨rfl,_,rfl⟩:=h;exact ⟨rfl,g1 _ q1⟩
  | none=>
   rw[q1] at h;simp only at h
   cases q2:least (resolveM s).2 with
   | some o'=>
    rw[q2] at h;simp only[Option.some.injEq,Prod.mk.injEq] at h;obtain ⟨rfl,_,rfl⟩:=h;exact ⟨rfl,g2 _ (least_mem q2)⟩
   | none=>
    rw[q2] at h;simp only at h
    cases q3:least (checkM (resolveM s).1) with
    | some o'=>
     rw[q3] at h;simp only[Option.some.injEq,Prod.mk.injEq] at h;obtain ⟨rfl,_,rfl⟩:=h;exact ⟨rfl,g3 _ (least_mem q3)⟩
    | none=>
     rw[q3] at h;simp only[Option.some.injEq,Prod.mk.injEq] at h;exact absurd h.2.1.symm h0
end
theorem sc_endl {l:List UInt8} {k:Nat} {ts:List Tok} (h:sc k l=.ok ts):EndL ts:=by
 obtain ⟨us,rfl,hu,_⟩:=Jjy l k ts h;exact ⟨us,_,rfl,fun t ht=>by have:=(hu t ht).2.1; omega,rfl⟩
theorem scanR_cases (l:List UInt8):(∃ ts,sc 0 l=.ok ts∧scanR l=(ts,0,0)∧l.length≤4096)∨((scanR l).2.1≠0∧(scanR l).1=[]):=by
 unfold scanR
 by_cases h:4096<l.length
 ·rw[if_pos h]; exact .inr ⟨by decide,rfl⟩
 ·rw[if_neg h]
  cases sc 0 l with
  | ok ts=>exact .inl ⟨ts,rfl,rfl,by omega⟩
  | err k=>exact .inr ⟨show (2:Int)≠0 by decide,rfl⟩
theorem parseM_scan {l:List UInt8} (h:(scanR l).2.1≠0):parseM l=(noRule,(scanR l).2.1,(scanR l).2.2):=by
 unfold parseM; rw[if_neg h]
theorem parseM_ok {l:List UInt8} {ts:List Tok} (h:scanR l=(ts,0,0)):parseM l=(parseT (12*(ts.length+1)) ts).getD (noRule,0,0):=by
 unfold parseM; rw[h]; rfl
theorem parseT_fuel {f:Nat} {l:List Tok} (hf:12*l.length+12≤f):∃ p,parseT f l=some p:=by
 cases h:srcP f l with
 | out=>exact absurd h (Jfd hf)
 | bad o=>exact ⟨_,by unfold parseT; rw[h]⟩
 | ok s r=>exact ⟨_,JeF h⟩
theorem parseM_bad {l:List UInt8} {ts:List Tok} (hs:sc 0 l=.ok ts) (h:scanR l=(ts,0,0)) (h0:(parseM l).2.1≠0):(parseM l).1=noRule∧∃ t∈ts,t.off=(parseM l).2.2:=by
 obtain ⟨⟨r,e,o⟩,hp⟩:=parseT_fuel (f:=12*(ts.length+1)) (l:=ts) (by omega);rw[parseM_ok h,hp] at h0 ⊢;exact parseT_bad (sc_endl hs) hp h0
theorem parseM_again {l:List UInt8} {ts:List Tok} (hs:sc 0 l=.ok ts) (h:scanR l=(ts,0,0)) (h0:(parseM l).2.1=0) (hw:(writeL ts).length≤4096):parseM (writeL ts)=((parseM l).1,0,0):=by
 obtain ⟨us,h1,h2⟩:=sc_write l 0 ts hs 0;have hlen:us.length=ts.length:=by have:=congrArg List.length h2; simpa using this
 obtain ⟨⟨r,e,o⟩,hp⟩:=parseT_fuel (f:=12*(ts.length+1)) (l:=ts) (by omega);have hu:scanR (writeL ts)=(us,0,0):=by unfold scanR; rw[if_neg (by omega),h1]
 rw[parseM_ok h,hp] at h0 ⊢;obtain rfl:e=0:=h0;rw[parseM_ok hu,hlen];have e1:=Jiq (12*(ts.length+1)) us;rw[h2,Jiq,hp] at e1
 cases e2:parseT (12*(ts.length+1)) us with
 | none=>rw[e2] at e1; cases e1
 | some p=>
  obtain ⟨r',e',o'⟩:=p;rw[e2] at e1;simp only[Option.map_some,Option.some.injEq,Prod.mk.injEq] at e1;obtain ⟨rfl,rfl,_⟩:=e1;rw[JeE e2];rfl
structure RSm (r:RuleM):Prop where
 nf:r.funcs.length≤8194
 nc:r.clauses.length≤8194
 fn:∀ f∈r.funcs,f.params.length≤8194∧siz (utN f.body)≤8194
 cl:∀ c∈r.clauses,siz (utN c.cond)≤8194
theorem ruleOf_sm {s:Src} (hb:SrcB s) (he:least (resolveM s).2=none):RSm (ruleOf (resolveM s).1):=by
 obtain ⟨h1,h2,h3,h4⟩:=JeB (m:=8194) (fun f hf=>⟨(hb.f f hf).1,(hb.f f hf).2.1,(hb.f f hf).2.2.1,(hb.f f hf).2.2.2⟩) (fun c hc=>hb.c c hc) he;have n1:=hb.nf;have n2:=hb.nc;unfold ruleOf;refine ⟨by simp only[List.length_map]; omega,by simp only[List.length_map]; omega,fun f hf=>?_,fun c hc'=>?_⟩
 ·simp only[List.mem_map] at hf;obtain ⟨g,hg,rfl⟩:=hf;obtain ⟨q1,q2,q3,_⟩:=h1 g hg;exact ⟨by dsimp only; omega,by dsimp only; rw[ut_siz]; omega⟩
 ·simp only[List.mem_map] at hc';obtain ⟨g,hg,rfl⟩:=hc';obtain ⟨q1,q2,_⟩:=h2 g hg;dsimp only;rw[ut_siz];omega
theorem parseM_all {l:List UInt8} (h:(parseM l).2.1=0):rightM (parseM l).1=true∧RSz (parseM l).1∧RSm (parseM l).1:=by
 unfold parseM at h ⊢;split
 ·rename_i h0;rw[if_pos h0] at h;have hsc:scanR l=((scanR l).1,0,(scanR l).2.2):=by rw[← h0]
  obtain ⟨_,hT,htx,hT0,hfin⟩:=Jgq hsc;have htk:=scanR_tk hsc;generalize (scanR l).1=T at *;generalize 12*(T.length+1)=f at *
  cases hp:parseT f T with
  | none=>exact ⟨noRule_right,noRule_sz,by decide,by decide,by simp[noRule],by simp[noRule]⟩
  | some x=>
   rw[hp] at h;simp only[Option.getD_some] at h ⊢;obtain ⟨r,er,a⟩:=x;obtain rfl:er=0:=h;refine ⟨parseT_right htk hp,?_⟩
   cases hs:srcP f T with
   | out=>unfold parseT at hp; rw[hs] at hp; cases hp
   | bad o=>unfold parseT at hp; rw[hs] at hp; simp at hp
   | ok s r'=>
    rw[JeF hs] at hp;unfold contM at hp
    cases hl:limitM s with
    | some o=>rw[hl] at hp; simp at hp
    | none=>
     rw[hl] at hp;simp only at hp
     cases hr:least (resolveM s).2 with
     | some o=>rw[hr] at hp; simp at hp
     | none=>
      rw[hr] at hp;simp only at hp
      cases hc:least (checkM (resolveM s).1) with
      | some o=>rw[hc] at hp; simp at hp
      | none=>
       rw[hc] at hp;simp only[Option.some.injEq,Prod.mk.injEq] at hp;rw[← hp.1];obtain ⟨g1,g2,_⟩:=srcP_pr htk hs;exact ⟨ruleOf_sz (JmB hs hT htx) g1 g2 hr,ruleOf_sm (JmB hs hT htx) hr⟩
 ·rename_i h0;rw[if_neg h0] at h;exact absurd h h0
theorem RSm.few {r:RuleM} (h:RSm r):RFew r:=fun f hf=>by
 have:=(h.fn f hf).1;unfold big;omega
end Go.Proofs.YtdlkcjkjnehnkaaGreatDoor
