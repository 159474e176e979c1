
import Derived.Test.YtncanmdgdflnpaaGreatDoorW12
namespace Go.Proofs.YtncanmdgdflnpaaGreatDoor
open _root_.Go.Proofs.Tryz
set_option linter.all false
set_option maxRecDepth 100000
set_option maxHeartbeats 32000000
theorem Jd {α β:Type} {x:PR α} {f:α→List Tok→PR β} {b:β} {r:List Tok} (h:x.bind f=.ok b r):∃ a r1,x=.ok a r1∧f a r1=.ok b r:=by
 cases x with
 | out=>cases h
 | bad o=>cases h
 | ok a r1=>exact ⟨a,r1,rfl,h⟩
theorem Jl {α β:Type} {x:PR α} {f:α→List Tok→PR β} (h:x.bind f=.out):x=.out∨∃ a r1,x=.ok a r1∧f a r1=.out:=by
 cases x with
 | out=>exact .inl rfl
 | bad o=>cases h
 | ok a r1=>exact .inr ⟨a,r1,rfl,h⟩
theorem Jo {k:Int} {s:List UInt8} {r r':List Tok} (hk:k≠4) (h:acc k s r=some r'):r'.length+1=r.length:=by
 unfold acc at h;split at h
 ·rename_i h1;injection h with h;subst h
  cases r with
  | nil=>exact absurd h1.1.symm hk
  | cons a l=>rfl
 ·cases h
theorem Jm {k:Int} {s:List UInt8} {r r':List Tok} {u:Unit} (hk:k≠4) (h:accept k s r=.ok u r'):r'.length+1=r.length:=by
 unfold accept at h;split at h
 ·rename_i h1;injection h with _ h;subst h;exact Jo hk h1
 ·cases h
theorem Jy {k:Int} {s:List UInt8} {r:List Tok}:accept k s r≠.out:=by
 unfold accept;split <;> simp
theorem JQ {r r':List Tok} {nm:List UInt8 × Int} (h:identP r=.ok nm r'):r'.length+1=r.length:=by
 unfold identP at h;split at h
 ·rename_i h1;injection h with _ h;subst h
  cases r with
  | nil=>exact absurd h1.1 (by decide)
  | cons a l=>rfl
 ·cases h
theorem KA {r:List Tok}:identP r≠.out:=by
 unfold identP;split <;> simp
theorem YE {r r':List Tok} {s:List UInt8} (h:textP r=.ok s r'):r'.length+1=r.length:=by
 unfold textP at h;split at h
 ·rename_i h1;injection h with _ h;subst h
  cases r with
  | nil=>exact absurd h1 (by decide)
  | cons a l=>rfl
 ·cases h
theorem YF {r:List Tok}:textP r≠.out:=by
 unfold textP;split <;> simp
theorem YG {r r':List Tok} {s:List UInt8} (h:quotedP r=.ok s r'):r'.length≤r.length:=by
 unfold quotedP at h;obtain ⟨_,r1,h1,h⟩:=Jd h;obtain ⟨_,r2,h2,h⟩:=Jd h;obtain ⟨_,r3,h3,h⟩:=Jd h;injection h with _ h;subst h;have:=Jm (by decide) h1;have:=YE h2;have:=Jm (by decide) h3;omega
theorem Vw {r:List Tok}:quotedP r≠.out:=by
 intro h;unfold quotedP at h
 rcases Jl h with h | ⟨_,r1,h1,h⟩
 ·exact Jy h
 rcases Jl h with h | ⟨_,r2,h2,h⟩
 ·exact YF h
 rcases Jl h with h | ⟨_,r3,h3,h⟩
 ·exact Jy h
 cases h
theorem Vf {r r':List Tok} {t:Int} (h:typP r=.ok t r'):r'.length+1=r.length:=by
 unfold typP at h;split at h
 ·rename_i h1;injection h with _ h;subst h;exact Jo (by decide) h1
 ·split at h
  ·rename_i h1;injection h with _ h;subst h;exact Jo (by decide) h1
  ·cases h
theorem Zg {r:List Tok}:typP r≠.out:=by
 unfold typP
 repeat' split
 all_goals simp
theorem JcF {r r':List Tok} {t:Int} (h:actP r=.ok t r'):r'.length+1=r.length:=by
 unfold actP at h;split at h
 ·rename_i r1 h1; injection h with _ h; subst h; exact Jo (by decide) h1
 split at h
 ·rename_i r1 h1; injection h with _ h; subst h; exact Jo (by decide) h1
 split at h
 ·rename_i r1 h1; injection h with _ h; subst h; exact Jo (by decide) h1
 split at h
 ·rename_i r1 h1; injection h with _ h; subst h; exact Jo (by decide) h1
 ·cases h
theorem Zi {r:List Tok}:actP r≠.out:=by
 unfold actP
 repeat' split
 all_goals simp
theorem Yh (r:List Tok):r.tail.length≤r.length:=by simp
theorem wx125 {P:Prop}(h:P:=by
  obtain ⟨_,r2,h2,h⟩:=Jd h;injection h with _ h;subst h;have:=Jo (by decide) h1;have:=J0 f _ _ _ _ h2
  omega):P:=h
theorem wx129 {P:Prop}(h:P:=by
  have:=Jm (by decide) h3;have:=J0 f _ _ _ _ h4;have:=Jm (by decide) h5;have:=J0 f _ _ _ _ h6
  omega):P:=h
theorem wx130 {P:Prop}(h:P:=by
  obtain ⟨_,r2,h2,h⟩:=Jd h;injection h with _ h;subst h;have:=Jo (by decide) h1;have:=YG h2
  omega):P:=h
theorem J0:∀ (f:Nat) (md:Md) (r r':List Tok) (a:Nd),pM f md r=.ok a r'→r'.length≤r.length
 | 0,md,r,r',a,h=>by unfold pM at h; cases h
 | f+1,.expr,r,r',a,h=>by
  rw[pM] at h;split at h
  ·rename_i r1 h1;obtain ⟨_,r2,h2,h⟩:=Jd h;obtain ⟨_,r3,h3,h⟩:=Jd h;obtain ⟨_,r4,h4,h⟩:=Jd h;obtain ⟨_,r5,h5,h⟩:=Jd h;obtain ⟨_,r6,h6,h⟩:=Jd h;injection h with _ h;subst h;have:=Jo (by decide) h1;have:=JQ h2;exact wx129
  ·split at h
   ·rename_i r1 h1;obtain ⟨_,r2,h2,h⟩:=Jd h;obtain ⟨_,r3,h3,h⟩:=Jd h;obtain ⟨_,r4,h4,h⟩:=Jd h;obtain ⟨_,r5,h5,h⟩:=Jd h;obtain ⟨_,r6,h6,h⟩:=Jd h;injection h with _ h;subst h;have:=Jo (by decide) h1;have:=J0 f _ _ _ _ h2;exact wx129
   ·exact J0 f _ _ _ _ h
 | f+1,.level lv,r,r',a,h=>by
  rw[pM] at h;split at h
  ·split at h
   ·rename_i r1 h1;exact wx125
   ·exact J0 f _ _ _ _ h
  ·split at h
   ·split at h
    ·rename_i r1 h1;exact wx125
    ·exact J0 f _ _ _ _ h
   ·obtain ⟨_,r1,h1,h⟩:=Jd h;have:=J0 f _ _ _ _ h1;have:=J0 f _ _ _ _ h;omega
 | f+1,.loop lv o b,r,r',a,h=>by
  rw[pM] at h;split at h
  ·injection h with _ h;subst h;exact Nat.le_refl _
  ·obtain ⟨_,r1,h1,h⟩:=Jd h;have:=J0 f _ _ _ _ h1;have:=J0 f _ _ _ _ h;have:=Yh r;omega
 | f+1,.cmp,r,r',a,h=>by
  rw[pM] at h;obtain ⟨_,r1,h1,h⟩:=Jd h;have:=J0 f _ _ _ _ h1;split at h
  ·injection h with _ h;subst h;exact this
  ·obtain ⟨_,r2,h2,h⟩:=Jd h;have:=J0 f _ _ _ _ h2;have:=Yh r1;injection h with _ h;subst h;omega
 | f+1,.prim,r,r',a,h=>by
  rw[pM] at h;split at h
  ·injection h with _ h;subst h;exact Yh r
  split at h
  ·rename_i r1 h1;obtain ⟨_,r2,h2,h⟩:=Jd h;obtain ⟨_,r3,h3,h⟩:=Jd h;injection h with _ h;subst h;have:=Jo (by decide) h1;have:=J0 f _ _ _ _ h2;have:=Jm (by decide) h3;omega
  split at h
  ·rename_i r1 h1;injection h with _ h;subst h;have:=Jo (by decide) h1;omega
  split at h
  ·rename_i r1 h1;injection h with _ h;subst h;have:=Jo (by decide) h1;omega
  split at h
  ·rename_i r1 h1;exact wx130
  split at h
  ·rename_i r1 h1;exact wx130
  split at h
  ·injection h with _ h;subst h;exact Yh r
  ·exact J0 f _ _ _ _ h
 | f+1,.named,r,r',a,h=>by
  rw[pM] at h;obtain ⟨nm,r1,h1,h⟩:=Jd h;have:=JQ h1;split at h
  ·injection h with _ h;subst h;omega
  ·rename_i r2 h2;have:=Jo (by decide) h2;split at h
   ·rename_i r3 h3;have:=Jo (by decide) h3;injection h with _ h;subst h;omega
   ·have:=J0 f _ _ _ _ h;omega
 | f+1,.args nm o l,r,r',a,h=>by
  rw[pM] at h;obtain ⟨_,r1,h1,h⟩:=Jd h;have:=J0 f _ _ _ _ h1;split at h
  ·rename_i r2 h2;have:=Jo (by decide) h2;have:=J0 f _ _ _ _ h;omega
  ·obtain ⟨_,r2,h2,h⟩:=Jd h;have:=Jm (by decide) h2;injection h with _ h;subst h;omega
def rankM:Md→Nat
 | .expr=>10
 | .level lv=>10-lv
 | .loop _ _ _=>1
 | .cmp=>6
 | .prim=>2
 | .named=>1
 | .args _ _ _=>11
def goodM:Md→Prop
 | .level lv=>1≤lv∧lv≤7∧lv≠4
 | .loop lv _ _=>lv=1∨lv=2∨lv=5∨lv=6
 | _=>True
theorem JeI {lv:Nat} {r:List Tok} {k:Int} (h:opK lv (hd r)=some k):r.tail.length+1=r.length:=by
 cases r with
 | nil=>simp[opK,hd,endTok] at h
 | cons a l=>rfl
theorem JcG {r:List Tok} {k:Int} (h:cmpK (hd r)=some k):r.tail.length+1=r.length:=by
 cases r with
 | nil=>simp[cmpK,hd,endTok] at h
 | cons a l=>rfl
theorem wx43 {P:Prop}(h:P:=by
  rcases Jl h with h | ⟨_,r3,h3,h⟩
  ·exact Jy h
  have:=Jm (by decide) h3
  rcases Jl h with h | ⟨_,r4,h4,h⟩
  ·exact JW f .expr r3 trivial (by simp only[rankM]; omega) h
  have:=J0 f _ _ _ _ h4
  rcases Jl h with h | ⟨_,r5,h5,h⟩
  ·exact Jy h
  have:=Jm (by decide) h5
  rcases Jl h with h | ⟨_,r6,h6,h⟩
  ·exact JW f .expr r5 trivial (by simp only[rankM]; omega) h
  cases h):P:=h
theorem JW:∀ (f:Nat) (md:Md) (r:List Tok),goodM md→12*r.length+rankM md≤f→pM f md r≠.out
 | 0,md,r,hg,hf=>by
  exfalso
  cases md <;> simp[rankM,goodM] at hf hg
  omega
 | f+1,.expr,r,hg,hf=>by
  intro h;simp only[rankM] at hf;rw[pM] at h;split at h
  ·rename_i r1 h1;have:=Jo (by decide) h1
   rcases Jl h with h | ⟨_,r2,h2,h⟩
   ·exact KA h
   have:=JQ h2;exact wx43
  ·split at h
   ·rename_i r1 h1;have:=Jo (by decide) h1
    rcases Jl h with h | ⟨_,r2,h2,h⟩
    ·exact JW f .expr r1 trivial (by simp only[rankM]; omega) h
    have:=J0 f _ _ _ _ h2;exact wx43
   ·exact JW f (.level 1) r (by simp only[goodM]; omega) (by simp only[rankM]; omega) h
 | f+1,.level lv,r,hg,hf=>by
  intro h;simp only[rankM,goodM] at hf hg;rw[pM] at h;split at h
  ·rename_i h3;subst h3;split at h
   ·rename_i r1 h1;have:=Jo (by decide) h1
    rcases Jl h with h | ⟨_,r2,h2,h⟩
    ·exact JW f (.level 3) r1 (by simp only[goodM]; omega) (by simp only[rankM]; omega) h
    cases h
   ·exact JW f .cmp r trivial (by simp only[rankM]; omega) h
  ·split at h
   ·rename_i h7;subst h7;split at h
    ·rename_i r1 h1;have:=Jo (by decide) h1
     rcases Jl h with h | ⟨_,r2,h2,h⟩
     ·exact JW f (.level 7) r1 (by simp only[goodM]; omega) (by simp only[rankM]; omega) h
     cases h
    ·exact JW f .prim r trivial (by simp only[rankM]; omega) h
   ·rcases Jl h with h | ⟨_,r1,h1,h⟩
    ·exact JW f (.level (lv+1)) r (by simp only[goodM]; omega) (by simp only[rankM]; omega) h
    have:=J0 f _ _ _ _ h1;exact JW f (.loop lv _ _) r1 (by simp only[goodM]; omega) (by simp only[rankM]; omega) h
 | f+1,.loop lv o b,r,hg,hf=>by
  intro h;simp only[rankM,goodM] at hf hg;rw[pM] at h;split at h
  ·cases h
  ·rename_i k hk;have:=JeI hk
   rcases Jl h with h | ⟨_,r1,h1,h⟩
   ·exact JW f (.level (lv+1)) r.tail (by simp only[goodM]; omega) (by simp only[rankM]; omega) h
   have:=J0 f _ _ _ _ h1;exact JW f (.loop lv _ _) r1 hg (by simp only[rankM]; omega) h
 | f+1,.cmp,r,hg,hf=>by
  intro h;simp only[rankM] at hf;rw[pM] at h
  rcases Jl h with h | ⟨_,r1,h1,h⟩
  ·exact JW f (.level 5) r (by simp only[goodM]; omega) (by simp only[rankM]; omega) h
  have:=J0 f _ _ _ _ h1;split at h
  ·cases h
  ·rename_i k hk;have:=JcG hk
   rcases Jl h with h | ⟨_,r2,h2,h⟩
   ·exact JW f (.level 5) r1.tail (by simp only[goodM]; omega) (by simp only[rankM]; omega) h
   cases h
 | f+1,.prim,r,hg,hf=>by
  intro h;simp only[rankM] at hf;rw[pM] at h;split at h
  ·cases h
  split at h
  ·rename_i r1 h1;have:=Jo (by decide) h1
   rcases Jl h with h | ⟨_,r2,h2,h⟩
   ·exact JW f .expr r1 trivial (by simp only[rankM]; omega) h
   rcases Jl h with h | ⟨_,r3,h3,h⟩
   ·exact Jy h
   cases h
  split at h
  ·cases h
  split at h
  ·cases h
  split at h
  ·rcases Jl h with h | ⟨_,r2,h2,h⟩
   ·exact Vw h
   cases h
  split at h
  ·rcases Jl h with h | ⟨_,r2,h2,h⟩
   ·exact Vw h
   cases h
  split at h
  ·cases h
  ·exact JW f .named r trivial (by simp only[rankM]; omega) h
 | f+1,.named,r,hg,hf=>by
  intro h;simp only[rankM] at hf;rw[pM] at h
  rcases Jl h with h | ⟨nm,r1,h1,h⟩
  ·exact KA h
  have:=JQ h1;split at h
  ·cases h
  ·rename_i r2 h2;have:=Jo (by decide) h2;split at h
   ·cases h
   ·exact JW f (.args _ _ _) r2 trivial (by simp only[rankM]; omega) h
 | f+1,.args nm o l,r,hg,hf=>by
  intro h;simp only[rankM] at hf;rw[pM] at h
  rcases Jl h with h | ⟨_,r1,h1,h⟩
  ·exact JW f .expr r trivial (by simp only[rankM]; omega) h
  have:=J0 f _ _ _ _ h1;split at h
  ·rename_i r2 h2;have:=Jo (by decide) h2;exact JW f (.args _ _ _) r2 trivial (by simp only[rankM]; omega) h
  ·rcases Jl h with h | ⟨_,r2,h2,h⟩
   ·exact Jy h
   cases h
theorem YH:∀ (f:Nat) (ps:List (List UInt8 × Int)) (ts:List Int) (r r':List Tok) a,paramsP f ps ts r=.ok a r'→r'.length≤r.length
 | 0,_,_,_,_,_,h=>by cases h
 | f+1,ps,ts,r,r',a,h=>by
  rw[paramsP] at h;obtain ⟨_,r1,h1,h⟩:=Jd h;obtain ⟨_,r2,h2,h⟩:=Jd h;obtain ⟨_,r3,h3,h⟩:=Jd h;have:=JQ h1;have:=Jm (by decide) h2;have:=Vf h3;split at h
  ·rename_i r4 h4;have:=Jo (by decide) h4;have:=YH f _ _ _ _ _ h;omega
  ·obtain ⟨_,r4,h4,h⟩:=Jd h;have:=Jm (by decide) h4;injection h with _ h;subst h;omega
theorem V9:∀ (f:Nat) (ps:List (List UInt8 × Int)) (ts:List Int) (r:List Tok),r.length+1≤f→paramsP f ps ts r≠.out
 | 0,_,_,r,hf=>by omega
 | f+1,ps,ts,r,hf=>by
  intro h;rw[paramsP] at h
  rcases Jl h with h | ⟨_,r1,h1,h⟩
  ·exact KA h
  rcases Jl h with h | ⟨_,r2,h2,h⟩
  ·exact Jy h
  rcases Jl h with h | ⟨_,r3,h3,h⟩
  ·exact Zg h
  have:=JQ h1;have:=Jm (by decide) h2;have:=Vf h3;split at h
  ·rename_i r4 h4;have:=Jo (by decide) h4;exact V9 f _ _ _ (by omega) h
  ·rcases Jl h with h | ⟨_,r4,h4,h⟩
   ·exact Jy h
   cases h
theorem wx120 {P:Prop}(h:P:=by
  split at h3
  ·rename_i r9 h9;have:=Jo (by decide) h9;injection h3 with _ h3;subst h3;omega
  ·exact YH _ _ _ _ _ _ h3):P:=h
theorem JcH {f:Nat} {r r':List Tok} {x:FnS} (h:funP f r=.ok x r'):r'.length+1≤r.length:=by
 unfold funP at h;obtain ⟨_,r1,h1,h⟩:=Jd h;obtain ⟨_,r2,h2,h⟩:=Jd h;obtain ⟨_,r3,h3,h⟩:=Jd h;obtain ⟨_,r4,h4,h⟩:=Jd h;obtain ⟨_,r5,h5,h⟩:=Jd h;obtain ⟨_,r6,h6,h⟩:=Jd h;obtain ⟨_,r7,h7,h⟩:=Jd h;injection h with _ h;subst h;have:=JQ h1;have:=Jm (by decide) h2
 have:r3.length≤r2.length:=by
  exact wx120
 have:=Jm (by decide) h4;have:=Vf h5;have:=Jm (by decide) h6;have:=J0 _ _ _ _ _ h7;omega
theorem JeJ {f:Nat} {r:List Tok} (hf:12*r.length+12≤f):funP f r≠.out:=by
 intro h;unfold funP at h
 rcases Jl h with h | ⟨_,r1,h1,h⟩
 ·exact KA h
 have:=JQ h1
 rcases Jl h with h | ⟨_,r2,h2,h⟩
 ·exact Jy h
 have:=Jm (by decide) h2
 rcases Jl h with h | ⟨_,r3,h3,h⟩
 ·split at h
  ·cases h
  ·exact V9 _ _ _ _ (by omega) h
 have:r3.length≤r2.length:=by
  exact wx120
 rcases Jl h with h | ⟨_,r4,h4,h⟩
 ·exact Jy h
 have:=Jm (by decide) h4
 rcases Jl h with h | ⟨_,r5,h5,h⟩
 ·exact Zg h
 have:=Vf h5
 rcases Jl h with h | ⟨_,r6,h6,h⟩
 ·exact Jy h
 have:=Jm (by decide) h6
 rcases Jl h with h | ⟨_,r7,h7,h⟩
 ·exact JW _ .expr _ trivial (by simp only[rankM]; omega) h
 cases h
theorem JaJ (g:Nat):∀ (f:Nat) (l:List FnS) (r r':List Tok) a,funsP g f l r=.ok a r'→r'.length≤r.length
 | 0,_,_,_,_,h=>by cases h
 | f+1,l,r,r',a,h=>by
  rw[funsP] at h;split at h
  ·rename_i r1 h1;have:=Jo (by decide) h1;obtain ⟨_,r2,h2,h⟩:=Jd h;have:=JcH h2;have:=JaJ g f _ _ _ _ h;omega
  ·injection h with _ h;subst h;exact Nat.le_refl _
theorem Zj (g:Nat):∀ (f:Nat) (l:List FnS) (r:List Tok),12*r.length+12≤g→r.length+1≤f→funsP g f l r≠.out
 | 0,_,_,_,hf=>by omega
 | f+1,l,r,hg,hf=>by
  intro h;rw[funsP] at h;split at h
  ·rename_i r1 h1;have:=Jo (by decide) h1
   rcases Jl h with h | ⟨_,r2,h2,h⟩
   ·exact JeJ (by omega) h
   have:=JcH h2;exact Zj g f _ _ (by omega) (by omega) h
  ·cases h
theorem Vx (g:Nat):∀ (f:Nat) (l:List ClS) (r:List Tok),12*r.length+12≤g→r.length+1≤f→clausesP g f l r≠.out
 | 0,_,_,_,hf=>by omega
 | f+1,l,r,hg,hf=>by
  intro h;rw[clausesP] at h;split at h
  ·rename_i r1 h1;have:=Jo (by decide) h1
   rcases Jl h with h | ⟨_,r2,h2,h⟩
   ·exact JW _ .expr _ trivial (by simp only[rankM]; omega) h
   have:=J0 _ _ _ _ _ h2
   rcases Jl h with h | ⟨_,r3,h3,h⟩
   ·exact Jy h
   have:=Jm (by decide) h3
   rcases Jl h with h | ⟨_,r4,h4,h⟩
   ·exact Zi h
   have:=JcF h4
   rcases Jl h with h | ⟨_,r5,h5,h⟩
   ·exact YF h
   have:=YE h5;exact Vx g f _ _ (by omega) (by omega) h
  ·cases h
theorem JeK {f:Nat} {r:List Tok} (hf:12*r.length+12≤f):srcP f r≠.out:=by
 intro h;unfold srcP at h
 rcases Jl h with h | ⟨_,r1,h1,h⟩
 ·exact Zj f f _ _ hf (by omega) h
 have:=JaJ _ _ _ _ _ _ h1
 rcases Jl h with h | ⟨_,r2,h2,h⟩
 ·exact Vx f f _ _ (by omega) (by omega) h
 rcases Jl h with h | ⟨_,r3,h3,h⟩
 ·exact Jy h
 rcases Jl h with h | ⟨_,r4,h4,h⟩
 ·exact Zi h
 split at h <;> cases h
mutual
def siz:Nd→Nat
 | .mk _ _ _ _ l=>sizL l+1
def sizL:List Nd→Nat
 | []=>0
 | a::l=>siz a+sizL l
end
theorem JA (k n:Int) (s:List UInt8) (o:Int) (l:List Nd):siz (.mk k n s o l)=sizL l+1:=by unfold siz; rfl
theorem Ju (a:Nd) (l:List Nd):sizL (a::l)=siz a+sizL l:=by rw[sizL]
theorem JG:sizL []=0:=by rw[sizL]
theorem JcI (l:List Nd) (a:Nd):sizL (l++[a])=sizL l+siz a:=by
 induction l with
 | nil=>simp[sizL]
 | cons x r ih=>simp[sizL,ih,Nat.add_assoc]
theorem KN (a:Nd):0<siz a:=by cases a; rw[JA]; omega
theorem JiK (a:Nd) (o:Int):siz (.mk a.kind a.num a.name o a.kids)=siz a:=by cases a; rw[JA,JA]; rfl
theorem JcJ {a:Nd} {l:List Nd} (h:a∈l):siz a≤sizL l:=by
 induction l with
 | nil=>cases h
 | cons x r ih=>
  rw[Ju]
  rcases List.mem_cons.1 h with rfl | h
  ·omega
  ·have:=ih h; omega
theorem JcK (l:List Nd):l.length≤sizL l:=by
 induction l with
 | nil=>simp
 | cons x r ih=>
  rw[Ju,List.length_cons];have:=KN x;omega
mutual
theorem JcL:∀ a:Nd,nest a≤siz a
 | .mk k n s o l=>by
  rw[JA];unfold nest;have:=YI l;omega
theorem YI:∀ l:List Nd,nestL l≤sizL l
 | []=>by simp[nestL]
 | a::l=>by
  rw[Ju];unfold nestL;have:=JcL a;have:=YI l;omega
end
def extM:Md→Nat
 | .loop _ _ a=>siz a
 | .args _ _ l=>sizL l+1
 | _=>0
theorem JgS (t:Tok) (k:Int) (a b:Nd):siz (cmpN t k a b)≤siz a+siz b+2:=by
 unfold cmpN;split
 ·simp only[JA,Ju,JG]; omega
 ·split
  ·simp only[JA,Ju,JG]; omega
  ·simp only[JA,Ju,JG]; omega
theorem wx88 {P:Prop}(h:P:=by
  obtain ⟨_,r2,h2,h⟩:=Jd h;injection h with h0 h;subst h h0;have:=Jo (by decide) h1;have:=Kf f _ _ _ _ h2;simp only[JA,Ju,JG,extM] at *
  omega):P:=h
theorem wx93 {P:Prop}(h:P:=by
  have:=Jm (by decide) h3;have:=Kf f _ _ _ _ h4;have:=Jm (by decide) h5;have:=Kf f _ _ _ _ h6;simp only[JA,Ju,JG,extM] at *
  omega):P:=h
theorem wx105 {P:Prop}(h:P:=by
  obtain ⟨_,r2,h2,h⟩:=Jd h;injection h with h0 h;subst h h0;have:=Jo (by decide) h1;have:=YG h2;simp only[JA,JG]
  omega):P:=h
theorem Kf:∀ (f:Nat) (md:Md) (r r':List Tok) (a:Nd),pM f md r=.ok a r'→siz a+2*r'.length≤2*r.length+extM md
 | 0,md,r,r',a,h=>by unfold pM at h; cases h
 | f+1,.expr,r,r',a,h=>by
  simp only[extM];rw[pM] at h;split at h
  ·rename_i r1 h1;obtain ⟨_,r2,h2,h⟩:=Jd h;obtain ⟨_,r3,h3,h⟩:=Jd h;obtain ⟨_,r4,h4,h⟩:=Jd h;obtain ⟨_,r5,h5,h⟩:=Jd h;obtain ⟨_,r6,h6,h⟩:=Jd h;injection h with h0 h;subst h h0;have:=Jo (by decide) h1;have:=JQ h2;exact wx93
  ·split at h
   ·rename_i r1 h1;obtain ⟨_,r2,h2,h⟩:=Jd h;obtain ⟨_,r3,h3,h⟩:=Jd h;obtain ⟨_,r4,h4,h⟩:=Jd h;obtain ⟨_,r5,h5,h⟩:=Jd h;obtain ⟨_,r6,h6,h⟩:=Jd h;injection h with h0 h;subst h h0;have:=Jo (by decide) h1;have:=Kf f _ _ _ _ h2;exact wx93
   ·have:=Kf f _ _ _ _ h;simpa[extM] using this
 | f+1,.level lv,r,r',a,h=>by
  simp only[extM];rw[pM] at h;split at h
  ·split at h
   ·rename_i r1 h1;exact wx88
   ·have:=Kf f _ _ _ _ h;simpa[extM] using this
  ·split at h
   ·split at h
    ·rename_i r1 h1;exact wx88
    ·have:=Kf f _ _ _ _ h;simpa[extM] using this
   ·obtain ⟨_,r1,h1,h⟩:=Jd h;have:=Kf f _ _ _ _ h1;have:=Kf f _ _ _ _ h;simp only[extM] at *;omega
 | f+1,.loop lv o b,r,r',a,h=>by
  simp only[extM];rw[pM] at h;split at h
  ·injection h with h0 h;subst h h0;omega
  ·rename_i k hk;have:=JeI hk;obtain ⟨_,r1,h1,h⟩:=Jd h;have:=Kf f _ _ _ _ h1;have:=Kf f _ _ _ _ h;simp only[JA,Ju,JG,extM] at *;omega
 | f+1,.cmp,r,r',a,h=>by
  simp only[extM];rw[pM] at h;obtain ⟨x,r1,h1,h⟩:=Jd h;have:=Kf f _ _ _ _ h1;split at h
  ·injection h with h0 h;subst h h0;simpa[extM] using this
  ·rename_i k hk;have:=JcG hk;obtain ⟨y,r2,h2,h⟩:=Jd h;have:=Kf f _ _ _ _ h2;injection h with h0 h;subst h h0;have:=JgS (hd r1) k x y;simp only[extM] at *;omega
 | f+1,.prim,r,r',a,h=>by
  simp only[extM];rw[pM] at h;split at h
  ·rename_i hk;injection h with h0 h;subst h h0
   have:r.tail.length+1=r.length:=by
    cases r with
    | nil=>exact absurd hk (by decide)
    | cons a l=>rfl
   simp only[JA,JG];omega
  split at h
  ·rename_i r1 h1;obtain ⟨x,r2,h2,h⟩:=Jd h;obtain ⟨_,r3,h3,h⟩:=Jd h;injection h with h0 h;subst h h0;have:=Jo (by decide) h1;have:=Kf f _ _ _ _ h2;have:=Jm (by decide) h3;rw[JiK];simp only[extM] at *;omega
  split at h
  ·rename_i r1 h1;injection h with h0 h;subst h h0;have:=Jo (by decide) h1;simp only[JA,JG];omega
  split at h
  ·rename_i r1 h1;injection h with h0 h;subst h h0;have:=Jo (by decide) h1;simp only[JA,JG];omega
  split at h
  ·rename_i r1 h1;exact wx105
  split at h
  ·rename_i r1 h1;exact wx105
  split at h
  ·rename_i hk;injection h with h0 h;subst h h0
   have:r.tail.length+1=r.length:=by
    cases r with
    | nil=>exact absurd hk.1 (by decide)
    | cons a l=>rfl
   simp only[JA,JG];omega
  ·have:=Kf f _ _ _ _ h;simpa[extM] using this
 | f+1,.named,r,r',a,h=>by
  simp only[extM];rw[pM] at h;obtain ⟨nm,r1,h1,h⟩:=Jd h;have:=JQ h1;split at h
  ·injection h with h0 h;subst h h0;simp only[JA,JG];omega
  ·rename_i r2 h2;have:=Jo (by decide) h2;split at h
   ·rename_i r3 h3;have:=Jo (by decide) h3;injection h with h0 h;subst h h0;simp only[JA,JG];omega
   ·have:=Kf f _ _ _ _ h;simp only[extM,JG] at *;omega
 | f+1,.args nm o l,r,r',a,h=>by
  simp only[extM];rw[pM] at h;obtain ⟨x,r1,h1,h⟩:=Jd h;have:=Kf f _ _ _ _ h1;split at h
  ·rename_i r2 h2;have:=Jo (by decide) h2;have:=Kf f _ _ _ _ h;simp only[extM,JcI] at *;omega
  ·obtain ⟨_,r2,h2,h⟩:=Jd h;have:=Jm (by decide) h2;injection h with h0 h;subst h h0;simp only[JA,JcI,extM] at *;omega
def FnS.siz (f:FnS):Nat:=Go.Proofs.YtncanmdgdflnpaaGreatDoor.siz f.body+f.params.length+f.types.length+1
def ClS.siz (c:ClS):Nat:=Go.Proofs.YtncanmdgdflnpaaGreatDoor.siz c.cond+1
def fnsSiz (l:List FnS):Nat:=(l.map FnS.siz).sum
def clsSiz (l:List ClS):Nat:=(l.map ClS.siz).sum
theorem YJ:∀ (f:Nat) (ps:List (List UInt8 × Int)) (ts:List Int) (r r':List Tok) a,paramsP f ps ts r=.ok a r'→a.1.length+a.2.length+2*r'.length≤2*r.length+ps.length+ts.length
 | 0,_,_,_,_,_,h=>by cases h
 | f+1,ps,ts,r,r',a,h=>by
  rw[paramsP] at h;obtain ⟨_,r1,h1,h⟩:=Jd h;obtain ⟨_,r2,h2,h⟩:=Jd h;obtain ⟨_,r3,h3,h⟩:=Jd h;have:=JQ h1;have:=Jm (by decide) h2;have:=Vf h3;split at h
  ·rename_i r4 h4;have:=Jo (by decide) h4;have:=YJ f _ _ _ _ _ h;simp only[List.length_append,List.length_singleton] at this;omega
  ·obtain ⟨_,r4,h4,h⟩:=Jd h;have:=Jm (by decide) h4;injection h with h0 h;subst h h0;simp only[List.length_append,List.length_singleton];omega
theorem Vy:∀ (f:Nat) (ps:List (List UInt8 × Int)) (ts:List Int) (r r':List Tok) a,ps.length=ts.length→paramsP f ps ts r=.ok a r'→a.1.length=a.2.length
 | 0,_,_,_,_,_,_,h=>by cases h
 | f+1,ps,ts,r,r',a,he,h=>by
  rw[paramsP] at h;obtain ⟨_,r1,h1,h⟩:=Jd h;obtain ⟨_,r2,h2,h⟩:=Jd h;obtain ⟨_,r3,h3,h⟩:=Jd h;split at h
  ·exact Vy f _ _ _ _ _ (by simp[he]) h
  ·obtain ⟨_,r4,h4,h⟩:=Jd h;injection h with h0 h;subst h h0;simp[he]
theorem JgT {f:Nat} {r r':List Tok} {x:FnS} (h:funP f r=.ok x r'):x.siz+2*r'.length≤2*r.length∧x.params.length=x.types.length:=by
 unfold funP at h;obtain ⟨nm,r1,h1,h⟩:=Jd h;obtain ⟨_,r2,h2,h⟩:=Jd h;obtain ⟨pt,r3,h3,h⟩:=Jd h;obtain ⟨_,r4,h4,h⟩:=Jd h;obtain ⟨_,r5,h5,h⟩:=Jd h;obtain ⟨_,r6,h6,h⟩:=Jd h;obtain ⟨_,r7,h7,h⟩:=Jd h;injection h with h0 h;subst h h0;have:=JQ h1;have:=Jm (by decide) h2
 have hp:pt.1.length+pt.2.length+2*r3.length≤2*r2.length∧pt.1.length=pt.2.length:=by
  split at h3
  ·rename_i r9 h9;have:=Jo (by decide) h9;injection h3 with h0 h3;subst h3 h0;simp;omega
  ·have:=YJ _ _ _ _ _ _ h3;exact ⟨by simpa using this,Vy _ _ _ _ _ _ rfl h3⟩
 have:=Jm (by decide) h4;have:=Vf h5;have:=Jm (by decide) h6;have:=Kf _ _ _ _ _ h7;simp only[FnS.siz,extM] at *;exact ⟨by omega,hp.2⟩
theorem JaK (g:Nat):∀ (f:Nat) (l:List FnS) (r r':List Tok) a,(∀ x∈l,x.params.length=x.types.length)→funsP g f l r=.ok a r'→fnsSiz a+2*r'.length≤2*r.length+fnsSiz l∧∀ x∈a,x.params.length=x.types.length
 | 0,_,_,_,_,_,h=>by cases h
 | f+1,l,r,r',a,hl,h=>by
  rw[funsP] at h;split at h
  ·rename_i r1 h1;have:=Jo (by decide) h1;obtain ⟨x,r2,h2,h⟩:=Jd h;obtain ⟨g1,g2⟩:=JgT h2
   obtain ⟨e1,e2⟩:=JaK g f _ _ _ _ (by
    intro y hy
    rcases List.mem_append.1 hy with hy | hy
    ·exact hl y hy
    ·obtain rfl:y=x:=by simpa using hy
     exact g2) h
   refine ⟨?_,e2⟩;simp only[fnsSiz,List.map_append,List.sum_append,List.map_cons,List.map_nil,List.sum_cons,List.sum_nil] at *;omega
  ·injection h with h0 h;subst h h0;exact ⟨by omega,hl⟩
theorem Ya (g:Nat):∀ (f:Nat) (l:List ClS) (r r':List Tok) a,clausesP g f l r=.ok a r'→clsSiz a+2*r'.length≤2*r.length+clsSiz l
 | 0,_,_,_,_,h=>by cases h
 | f+1,l,r,r',a,h=>by
  rw[clausesP] at h;split at h
  ·rename_i r1 h1;have:=Jo (by decide) h1;obtain ⟨x,r2,h2,h⟩:=Jd h;obtain ⟨_,r3,h3,h⟩:=Jd h;obtain ⟨_,r4,h4,h⟩:=Jd h;obtain ⟨_,r5,h5,h⟩:=Jd h;have:=Kf _ _ _ _ _ h2;have:=Jm (by decide) h3;have:=JcF h4;have:=YE h5;have:=Ya g f _ _ _ _ h;simp only[clsSiz,ClS.siz,extM,List.map_append,List.sum_append,List.map_cons,List.map_nil,List.sum_cons,List.sum_nil] at *;omega
  ·injection h with h0 h;subst h h0;omega
theorem JgU {f:Nat} {r r':List Tok} {s:Src} (h:srcP f r=.ok s r'):fnsSiz s.funcs+clsSiz s.clauses≤2*r.length∧∀ x∈s.funcs,x.params.length=x.types.length:=by
 unfold srcP at h;obtain ⟨fs,r1,h1,h⟩:=Jd h;obtain ⟨cs,r2,h2,h⟩:=Jd h;obtain ⟨_,r3,h3,h⟩:=Jd h;obtain ⟨_,r4,h4,h⟩:=Jd h;obtain ⟨e1,e2⟩:=JaK _ _ _ _ _ _ (by simp) h1;have e3:=Ya _ _ _ _ _ _ h2;simp only[fnsSiz,clsSiz,List.map_nil,List.sum_nil] at e1 e3;split at h
 ·injection h with h0 h;subst h0;exact ⟨by simp only[fnsSiz,clsSiz]; omega,e2⟩
 ·cases h
end Go.Proofs.YtncanmdgdflnpaaGreatDoor
namespace Go.Proofs.YtncanmdgdflnpaaGreatDoor
open Go.ChangeShapes Go.WideShapes Go.ChangeAt Go.RowKit Go.Lib
open _root_.Go.Proofs.Tryz
set_option linter.all false
set_option maxRecDepth 100000
set_option maxHeartbeats 32000000
theorem Jn (b c:Nat) (l:List An):∃ ad cc,kidsV b c l=.slice ad l.length cc∧(l≠[]→ad=some ⟨b,0,none⟩):=by
 unfold kidsV;split
 ·rename_i h;subst h;exact ⟨none,0,rfl,fun h=>absurd rfl h⟩
 ·exact ⟨_,c,rfl,fun _=>rfl⟩
theorem JO {W:World} {b:Nat}:∀ {l:List An} {m i:Nat} {x:An},AtL W b m l→l[i]?=some x→(∀ j u,(cellsN x).toList[j]?=some u→W.cell? ⟨b,(m+i)*5+j,none⟩=some u)∧x.At W
 | [],m,i,x,h,hx=>by cases hx
 | a::l,m,0,x,h,hx=>by
  unfold AtL at h;obtain rfl:a=x:=by simpa using hx
  exact ⟨h.1,h.2.1⟩
 | a::l,m,i+1,x,h,hx=>by
  unfold AtL at h;have:=JO (i:=i) h.2.2 (by simpa using hx);rw[show m+1+i=m+(i+1) by omega] at this;exact this
theorem JeL (l:List Nd) (a:Nd):nestL (l++[a])=max (nestL l) (nest a):=by
 induction l with
 | nil=>simp[nestL]
 | cons x r ih=>simp[nestL,ih,Nat.max_assoc]
theorem J7 (l:List An):ndL l=l.map An.nd:=by
 induction l with
 | nil=>simp[ndL]
 | cons x r ih=>simp[ndL,ih]
theorem JdK {l:List An} {i:Nat} {x:An} (hx:l[i]?=some x):nestL (ndL (l.take (i+1)))=max (nestL (ndL (l.take i))) (nest x.nd):=by
 rw[List.take_add_one,hx];simp only[Option.toList_some];rw[KL,JeL]
theorem JgV {l:List An} (i:Nat):nestL (ndL (l.take i))≤nestL (ndL l):=by
 induction l generalizing i with
 | nil=>simp
 | cons a r ih=>
  cases i with
  | zero=>simp[ndL,nestL]
  | succ i=>
   simp only[List.take_succ_cons,ndL,nestL];have:=ih i;omega
mutual
theorem JaL {W:World}:∀ (a:An),a.At W→∀ q∈foot a,q<W.heap.size
 | .mk k n s o b c l,h,q,hq=>by
  unfold An.At at h;replace h:=h.2
  cases l with
  | nil=>simp[foot] at hq
  | cons x r=>
   unfold foot at hq
   rcases List.mem_cons.1 hq with rfl | hq
   ·unfold AtL at h;obtain ⟨xA,xn,xc,hcf⟩:=Jg x;exact World.block_lt_of_cell? (a:=⟨q,0*5+0,none⟩) W (h.1 0 (.int .i64 x.kind) (by rw[hcf]; rfl))
   ·exact JcM b (x::r) 0 h q (by rw[footL]; exact hq)
theorem JcM {W:World} (b:Nat):∀ (l:List An) (i:Nat),AtL W b i l→∀ q∈footL l,q<W.heap.size
 | [],_,_,q,hq=>by simp[footL] at hq
 | a::l,i,h,q,hq=>by
  unfold AtL at h;unfold footL at hq
  rcases List.mem_append.1 hq with hq | hq
  ·exact JaL a h.2.1 q hq
  ·exact JcM b l (i+1) h.2.2 q hq
end
theorem JaM {W W':World} {a:An} (h:a.At W) (hb:Below W.heap.size W W'):a.At W':=JE a h fun q hq=>hb.block q (JaL a h q hq)
theorem YK (k n:Int) (s:List UInt8) (o:Int) (b c:Nat) (l:List An):siz (An.mk k n s o b c l).nd=sizL (ndL l)+1:=by unfold An.nd; rw[JA]
theorem JH {l:List An} {x:An} (hx:x∈l):siz x.nd≤sizL (ndL l):=JcJ (by rw[J7]; exact List.mem_map.2 ⟨x,hx,rfl⟩)
theorem Jw (l:List An):l.length≤sizL (ndL l):=by have:=JcK (ndL l); rw[J7,List.length_map] at this; rw[J7]; exact this
theorem YL:∀ (n:Nat) (a:An) (w:World),siz a.nd≤n→n≤1000000000→a.At w→Calls prog 72 #[.agg (cellsN a)] w (IntPost w (nest a.nd))
 | 0,a,w,hn,_,_=>by
  have:=KN a.nd;omega
 | n+1,a,w,hn,hb,hat=>by
  have IH:=fun (x:An) (W:World) h1 h2=>YL n x W h1 (by omega) h2
  obtain ⟨k,nn,s,o,b,c,l⟩:=a;have hN:nest (An.mk k nn s o b c l).nd=nestL (ndL l)+1:=by unfold An.nd nest; rfl
  rw[YK] at hn;rw[hN];unfold An.At at hat;replace hat:=hat.2;obtain ⟨ad,cc,hkv,had⟩:=Jn b c l
  have hcs:cellsN (An.mk k nn s o b c l)=#[.int .i64 k,.int .i64 nn,.string (bs s),.int .i64 o,.slice ad l.length cc]:=by
   show #[_,_,_,_,kidsV b c l]=_
   rw[hkv]
  rw[hcs];have HAT:=Zh hat;have HAD:=Zh had;obtain ⟨M,hM⟩:∃ M,nestL (ndL l)=M:=⟨_,rfl⟩
  have HM:=Zh hM;have hMn:M≤n:=by have:=YI (ndL l); omega
  rw[hM];have hlen:l.length≤n:=by have:=Jw l; omega
  have HSZ:Hid (sizL (ndL l)≤n):=by rw[Hid]; omega
  clear hat had hkv hcs hN hM hn;go_enter func72,ntmps72;go_wp2_with fail;have HB1:Hid (Below w.heap.size w (w.alloc (.cells #[.int .i64 k,.int .i64 nn,.string (bs s),.int .i64 o,.slice ad l.length cc] 119))):=zzb.alloc zzl _;go_loopg [3,9] l.length (fun g v3 v9 wr=>∃ i m:Nat,g+i=l.length∧v3=.int .i64 m∧v9=.int .i64 i∧Hid (m=nestL (ndL (l.take i)))∧Hid (Below w.heap.size w wr))
  case atStart=>exact ⟨0,0,rfl,rfl,rfl,by simp[Hid,ndL,nestL],HB1⟩
  case round=>
  clear HB1;obtain ⟨wl,rfl⟩:∃ wl:World,wl=wr:=⟨_,rfl⟩
  obtain ⟨i,m,hg,rfl,rfl,hm,hw⟩:=hrel
  by_cases hi:i<l.length
  ·have hil:(i:Int)<(l.length:Int):=by omega
   obtain ⟨x,hx⟩:∃ x,l[i]?=some x:=⟨l[i],List.getElem?_eq_getElem hi⟩
   have hmem:x∈l:=List.mem_of_getElem? hx;have had:ad=some ⟨b,0,none⟩:=HAD.out (List.ne_nil_of_mem hmem);obtain ⟨hc,hxa⟩:=JO HAT.out hx;rw[Nat.zero_add] at hc;obtain ⟨xA,xn,xc,hcf⟩:=Jg x;rw[hcf] at hc;have hcl:∀ j u,(#[.int .i64 x.kind,.int .i64 x.num,.string (bs x.name),.int .i64 x.off,.slice xA xn xc]:Array Value).toList[j]?=some u→wl.cell? ⟨b,i*5+j,none⟩=some u:=fun j u hj=>(hw.out.cell (World.block_lt_of_cell? _ _ (hc j u hj))).trans (hc j u hj)
   have c0:=hcl 0 _ rfl;have c1:=hcl 1 _ rfl;have c2:=hcl 2 _ rfl;have c3:=hcl 3 _ rfl;have c4:=hcl 4 _ rfl;simp only[Nat.add_zero] at c0;have hxw:x.At wl:=JE x hxa fun q hq=>hw.out.block q (JaL x hxa q hq)
   have hxn:siz x.nd≤n:=Nat.le_trans (JH hmem) HSZ.out;have HMM:Hid (max m (nest x.nd)=nestL (ndL (l.take (i+1)))):=by rw[Hid,JdK hx,hm.out]
   have hmn:m≤n:=by rw[hm.out]; have:=JgV (l:=l) i; have:=HM.out; omega
   have wk:IntKind.i64.wrap ((i:Int)+1)=(i:Int)+1:=IntWalk.i64_in _ (by omega);have HXA:=Zh hxw;have HW:=Zh hw;have HCF:=Zh hcf;have HG:=Zh hg;subst had;clear hc hcl hx hmem hcf hxa hxw hm hw hi HAD hg;have hbA:Below wl.heap.size wl (wl.alloc (.cells #[.int .i64 x.kind,.int .i64 x.num,.string (bs x.name),.int .i64 x.off,.slice xA xn xc] 119)):=zzb.alloc zzl _;have cx:=IH x _ hxn (JaM HXA.out hbA);rw[HCF.out] at cx;have HW2:=Zh (HW.out.trans (hbA.mono HW.out.size));clear hbA;go_wp2_with fail;refine cx.mono ?_;rintro e w2 ⟨rfl,hb2⟩;have HW3:=Zh (HW2.out.trans (hb2.mono HW2.out.size));clear hb2 cx;go_wp2;go_roundg (l.length-(i+1))
   case measure=>have:=HG.out; omega
   case rel=>exact ⟨i+1,max m (nest x.nd),by omega,by go_num,by go_num,HMM,HW3⟩
  ·have hil:¬ (i:Int)<(l.length:Int):=by omega
   obtain rfl:i=l.length:=by omega
   have hmm:m=M:=by rw[hm.out,List.take_length]; exact HM.out
   subst hmm;have wk:IntKind.i64.wrap ((m:Int)+1)=(m:Int)+1:=IntWalk.i64_in _ (by omega);have dil:((l.length:Int)<(l.length:Int))=False:=by simp
   clear hil hm;go_wp2;go_ret;exact ⟨by go_num,hw.out⟩
end Go.Proofs.YtncanmdgdflnpaaGreatDoor
