import Derived.Test.YtdlkcjkjnehnkaaGreatDoorG04
namespace Go.Proofs.YtdlkcjkjnehnkaaGreatDoor
open _root_.Go.Proofs.Tryz
set_option linter.all false
set_option maxRecDepth 100000
set_option maxHeartbeats 32000000
theorem Je {α β:Type} {x:PR α} {f:α→List Tok→PR β} {b:β} {r:List Tok} (h:x.bind f=.ok b r):∃ a r1,x=.ok a r1∧f a r1=.ok b r:=by
 cases x with
 | out=>cases h
 | bad o=>cases h
 | ok a r1=>exact ⟨a,r1,rfl,h⟩
theorem Jm {α β:Type} {x:PR α} {f:α→List Tok→PR β} (h:x.bind f=.out):x=.out∨∃ a r1,x=.ok a r1∧f a r1=.out:=by
 cases x with
 | out=>exact .inl rfl
 | bad o=>cases h
 | ok a r1=>exact .inr ⟨a,r1,rfl,h⟩
theorem Jp {k:Int} {s:List UInt8} {r r':List Tok} (hk:k≠4) (h:acc k s r=some r'):r'.length+1=r.length:=by
 unfold acc at h;split at h
 ·rename_i h1;injection h with h;subst h
  cases r with
  | nil=>exact absurd h1.1.symm hk
  | cons a l=>rfl
 ·cases h
theorem Jn {k:Int} {s:List UInt8} {r r':List Tok} {u:Unit} (hk:k≠4) (h:accept k s r=.ok u r'):r'.length+1=r.length:=by
 unfold accept at h;split at h
 ·rename_i h1;injection h with _ h;subst h;exact Jp hk h1
 ·cases h
theorem JA {k:Int} {s:List UInt8} {r:List Tok}:accept k s r≠.out:=by
 unfold accept;split <;> simp
theorem JW {r r':List Tok} {nm:List UInt8 × Int} (h:identP r=.ok nm r'):r'.length+1=r.length:=by
 unfold identP at h;split at h
 ·rename_i h1;injection h with _ h;subst h
  cases r with
  | nil=>exact absurd h1.1 (by decide)
  | cons a l=>rfl
 ·cases h
theorem KT {r:List Tok}:identP r≠.out:=by
 unfold identP;split <;> simp
theorem YP {r r':List Tok} {s:List UInt8} (h:textP r=.ok s r'):r'.length+1=r.length:=by
 unfold textP at h;split at h
 ·rename_i h1;injection h with _ h;subst h
  cases r with
  | nil=>exact absurd h1 (by decide)
  | cons a l=>rfl
 ·cases h
theorem YQ {r:List Tok}:textP r≠.out:=by
 unfold textP;split <;> simp
theorem YR {r r':List Tok} {s:List UInt8} (h:quotedP r=.ok s r'):r'.length≤r.length:=by
 unfold quotedP at h;obtain ⟨_,r1,h1,h⟩:=Je h;obtain ⟨_,r2,h2,h⟩:=Je h;obtain ⟨_,r3,h3,h⟩:=Je h;injection h with _ h;subst h;have:=Jn (by decide) h1;have:=YP h2;have:=Jn (by decide) h3;omega
theorem VF {r:List Tok}:quotedP r≠.out:=by
 intro h;unfold quotedP at h
 rcases Jm h with h | ⟨_,r1,h1,h⟩
 ·exact JA h
 rcases Jm h with h | ⟨_,r2,h2,h⟩
 ·exact YQ h
 rcases Jm h with h | ⟨_,r3,h3,h⟩
 ·exact JA h
 cases h
theorem Vn {r r':List Tok} {t:Int} (h:typP r=.ok t r'):r'.length+1=r.length:=by
 unfold typP at h;split at h
 ·rename_i h1;injection h with _ h;subst h;exact Jp (by decide) h1
 ·split at h
  ·rename_i h1;injection h with _ h;subst h;exact Jp (by decide) h1
  ·cases h
theorem ZM {r:List Tok}:typP r≠.out:=by
 unfold typP
 repeat' split
 all_goals simp
theorem Jdi {r r':List Tok} {t:Int} (h:actP r=.ok t r'):r'.length+1=r.length:=by
 unfold actP at h;split at h
 ·rename_i r1 h1; injection h with _ h; subst h; exact Jp (by decide) h1
 split at h
 ·rename_i r1 h1; injection h with _ h; subst h; exact Jp (by decide) h1
 split at h
 ·rename_i r1 h1; injection h with _ h; subst h; exact Jp (by decide) h1
 split at h
 ·rename_i r1 h1; injection h with _ h; subst h; exact Jp (by decide) h1
 ·cases h
theorem ZN {r:List Tok}:actP r≠.out:=by
 unfold actP
 repeat' split
 all_goals simp
theorem Yv (r:List Tok):r.tail.length≤r.length:=by simp
theorem bx113 {P:Prop}(h:P:=by
  obtain ⟨_,r2,h2,h⟩:=Je h;injection h with _ h;subst h;have:=Jp (by decide) h1;have:=Kb f _ _ _ _ h2
  omega):P:=h
theorem bx118 {P:Prop}(h:P:=by
  have:=Jn (by decide) h3;have:=Kb f _ _ _ _ h4;have:=Jn (by decide) h5;have:=Kb f _ _ _ _ h6
  omega):P:=h
theorem bx120 {P:Prop}(h:P:=by
  obtain ⟨_,r2,h2,h⟩:=Je h;injection h with _ h;subst h;have:=Jp (by decide) h1;have:=YR h2
  omega):P:=h
theorem Kb:∀ (f:Nat) (md:Md) (r r':List Tok) (a:Nd),pM f md r=.ok a r'→r'.length≤r.length
 | 0,md,r,r',a,h=>by unfold pM at h; cases h
 | f+1,.expr,r,r',a,h=>by
  rw[pM] at h;split at h
  ·rename_i r1 h1;obtain ⟨_,r2,h2,h⟩:=Je h;obtain ⟨_,r3,h3,h⟩:=Je h;obtain ⟨_,r4,h4,h⟩:=Je h;obtain ⟨_,r5,h5,h⟩:=Je h;obtain ⟨_,r6,h6,h⟩:=Je h;injection h with _ h;subst h;have:=Jp (by decide) h1;have:=JW h2;exact bx118
  ·split at h
   ·rename_i r1 h1;obtain ⟨_,r2,h2,h⟩:=Je h;obtain ⟨_,r3,h3,h⟩:=Je h;obtain ⟨_,r4,h4,h⟩:=Je h;obtain ⟨_,r5,h5,h⟩:=Je h;obtain ⟨_,r6,h6,h⟩:=Je h;injection h with _ h;subst h;have:=Jp (by decide) h1;have:=Kb f _ _ _ _ h2;exact bx118
   ·exact Kb f _ _ _ _ h
 | f+1,.level lv,r,r',a,h=>by
  rw[pM] at h;split at h
  ·split at h
   ·rename_i r1 h1;exact bx113
   ·exact Kb f _ _ _ _ h
  ·split at h
   ·split at h
    ·rename_i r1 h1;exact bx113
    ·exact Kb f _ _ _ _ h
   ·obtain ⟨_,r1,h1,h⟩:=Je h;have:=Kb f _ _ _ _ h1;have:=Kb f _ _ _ _ h;omega
 | f+1,.loop lv o b,r,r',a,h=>by
  rw[pM] at h;split at h
  ·injection h with _ h;subst h;exact Nat.le_refl _
  ·obtain ⟨_,r1,h1,h⟩:=Je h;have:=Kb f _ _ _ _ h1;have:=Kb f _ _ _ _ h;have:=Yv r;omega
 | f+1,.cmp,r,r',a,h=>by
  rw[pM] at h;obtain ⟨_,r1,h1,h⟩:=Je h;have:=Kb f _ _ _ _ h1;split at h
  ·injection h with _ h;subst h;exact this
  ·obtain ⟨_,r2,h2,h⟩:=Je h;have:=Kb f _ _ _ _ h2;have:=Yv r1;injection h with _ h;subst h;omega
 | f+1,.prim,r,r',a,h=>by
  rw[pM] at h;split at h
  ·injection h with _ h;subst h;exact Yv r
  split at h
  ·rename_i r1 h1;obtain ⟨_,r2,h2,h⟩:=Je h;obtain ⟨_,r3,h3,h⟩:=Je h;injection h with _ h;subst h;have:=Jp (by decide) h1;have:=Kb f _ _ _ _ h2;have:=Jn (by decide) h3;omega
  split at h
  ·rename_i r1 h1;injection h with _ h;subst h;have:=Jp (by decide) h1;omega
  split at h
  ·rename_i r1 h1;injection h with _ h;subst h;have:=Jp (by decide) h1;omega
  split at h
  ·rename_i r1 h1;exact bx120
  split at h
  ·rename_i r1 h1;exact bx120
  split at h
  ·injection h with _ h;subst h;exact Yv r
  ·exact Kb f _ _ _ _ h
 | f+1,.named,r,r',a,h=>by
  rw[pM] at h;obtain ⟨nm,r1,h1,h⟩:=Je h;have:=JW h1;split at h
  ·injection h with _ h;subst h;omega
  ·rename_i r2 h2;have:=Jp (by decide) h2;split at h
   ·rename_i r3 h3;have:=Jp (by decide) h3;injection h with _ h;subst h;omega
   ·have:=Kb f _ _ _ _ h;omega
 | f+1,.args nm o l,r,r',a,h=>by
  rw[pM] at h;obtain ⟨_,r1,h1,h⟩:=Je h;have:=Kb f _ _ _ _ h1;split at h
  ·rename_i r2 h2;have:=Jp (by decide) h2;have:=Kb f _ _ _ _ h;omega
  ·obtain ⟨_,r2,h2,h⟩:=Je h;have:=Jn (by decide) h2;injection h with _ h;subst h;omega
def rankM:Md→Nat
 | .expr=>10
 | .level lv=>10-lv
 | .loop _ _ _=>1
 | .cmp=>6
 | .prim=>2
 | .named=>1
 | .args _ _ _=>11
def goodM:Md→Prop
 | .level lv=>1≤lv∧lv≤7∧lv≠4
 | .loop lv _ _=>lv=1∨lv=2∨lv=5∨lv=6
 | _=>True
theorem Jfb {lv:Nat} {r:List Tok} {k:Int} (h:opK lv (hd r)=some k):r.tail.length+1=r.length:=by
 cases r with
 | nil=>simp[opK,hd,endTok] at h
 | cons a l=>rfl
theorem Jdj {r:List Tok} {k:Int} (h:cmpK (hd r)=some k):r.tail.length+1=r.length:=by
 cases r with
 | nil=>simp[cmpK,hd,endTok] at h
 | cons a l=>rfl
theorem bx41 {P:Prop}(h:P:=by
  rcases Jm h with h | ⟨_,r3,h3,h⟩
  ·exact JA h
  have:=Jn (by decide) h3
  rcases Jm h with h | ⟨_,r4,h4,h⟩
  ·exact JU f .expr r3 trivial (by simp only[rankM]; omega) h
  have:=Kb f _ _ _ _ h4
  rcases Jm h with h | ⟨_,r5,h5,h⟩
  ·exact JA h
  have:=Jn (by decide) h5
  rcases Jm h with h | ⟨_,r6,h6,h⟩
  ·exact JU f .expr r5 trivial (by simp only[rankM]; omega) h
  cases h):P:=h
theorem JU:∀ (f:Nat) (md:Md) (r:List Tok),goodM md→12*r.length+rankM md≤f→pM f md r≠.out
 | 0,md,r,hg,hf=>by
  exfalso
  cases md <;> simp[rankM,goodM] at hf hg
  omega
 | f+1,.expr,r,hg,hf=>by
  intro h;simp only[rankM] at hf;rw[pM] at h;split at h
  ·rename_i r1 h1;have:=Jp (by decide) h1
   rcases Jm h with h | ⟨_,r2,h2,h⟩
   ·exact KT h
   have:=JW h2;exact bx41
  ·split at h
   ·rename_i r1 h1;have:=Jp (by decide) h1
    rcases Jm h with h | ⟨_,r2,h2,h⟩
    ·exact JU f .expr r1 trivial (by simp only[rankM]; omega) h
    have:=Kb f _ _ _ _ h2;exact bx41
   ·exact JU f (.level 1) r (by simp only[goodM]; omega) (by simp only[rankM]; omega) h
 | f+1,.level lv,r,hg,hf=>by
  intro h;simp only[rankM,goodM] at hf hg;rw[pM] at h;split at h
  ·rename_i h3;subst h3;split at h
   ·rename_i r1 h1;have:=Jp (by decide) h1
    rcases Jm h with h | ⟨_,r2,h2,h⟩
    ·exact JU f (.level 3) r1 (by simp only[goodM]; omega) (by simp only[rankM]; omega) h
    cases h
   ·exact JU f .cmp r trivial (by simp only[rankM]; omega) h
  ·split at h
   ·rename_i h7;subst h7;split at h
    ·rename_i r1 h1;have:=Jp (by decide) h1
     rcases Jm h with h | ⟨_,r2,h2,h⟩
     ·exact JU f (.level 7) r1 (by simp only[goodM]; omega) (by simp only[rankM]; omega) h
     cases h
    ·exact JU f .prim r trivial (by simp only[rankM]; omega) h
   ·rcases Jm h with h | ⟨_,r1,h1,h⟩
    ·exact JU f (.level (lv+1)) r (by simp only[goodM]; omega) (by simp only[rankM]; omega) h
    have:=Kb f _ _ _ _ h1;exact JU f (.loop lv _ _) r1 (by simp only[goodM]; omega) (by simp only[rankM]; omega) h
 | f+1,.loop lv o b,r,hg,hf=>by
  intro h;simp only[rankM,goodM] at hf hg;rw[pM] at h;split at h
  ·cases h
  ·rename_i k hk;have:=Jfb hk
   rcases Jm h with h | ⟨_,r1,h1,h⟩
   ·exact JU f (.level (lv+1)) r.tail (by simp only[goodM]; omega) (by simp only[rankM]; omega) h
   have:=Kb f _ _ _ _ h1;exact JU f (.loop lv _ _) r1 hg (by simp only[rankM]; omega) h
 | f+1,.cmp,r,hg,hf=>by
  intro h;simp only[rankM] at hf;rw[pM] at h
  rcases Jm h with h | ⟨_,r1,h1,h⟩
  ·exact JU f (.level 5) r (by simp only[goodM]; omega) (by simp only[rankM]; omega) h
  have:=Kb f _ _ _ _ h1;split at h
  ·cases h
  ·rename_i k hk;have:=Jdj hk
   rcases Jm h with h | ⟨_,r2,h2,h⟩
   ·exact JU f (.level 5) r1.tail (by simp only[goodM]; omega) (by simp only[rankM]; omega) h
   cases h
 | f+1,.prim,r,hg,hf=>by
  intro h;simp only[rankM] at hf;rw[pM] at h;split at h
  ·cases h
  split at h
  ·rename_i r1 h1;have:=Jp (by decide) h1
   rcases Jm h with h | ⟨_,r2,h2,h⟩
   ·exact JU f .expr r1 trivial (by simp only[rankM]; omega) h
   rcases Jm h with h | ⟨_,r3,h3,h⟩
   ·exact JA h
   cases h
  split at h
  ·cases h
  split at h
  ·cases h
  split at h
  ·rcases Jm h with h | ⟨_,r2,h2,h⟩
   ·exact VF h
   cases h
  split at h
  ·rcases Jm h with h | ⟨_,r2,h2,h⟩
   ·exact VF h
   cases h
  split at h
  ·cases h
  ·exact JU f .named r trivial (by simp only[rankM]; omega) h
 | f+1,.named,r,hg,hf=>by
  intro h;simp only[rankM] at hf;rw[pM] at h
  rcases Jm h with h | ⟨nm,r1,h1,h⟩
  ·exact KT h
  have:=JW h1;split at h
  ·cases h
  ·rename_i r2 h2;have:=Jp (by decide) h2;split at h
   ·cases h
   ·exact JU f (.args _ _ _) r2 trivial (by simp only[rankM]; omega) h
 | f+1,.args nm o l,r,hg,hf=>by
  intro h;simp only[rankM] at hf;rw[pM] at h
  rcases Jm h with h | ⟨_,r1,h1,h⟩
  ·exact JU f .expr r trivial (by simp only[rankM]; omega) h
  have:=Kb f _ _ _ _ h1;split at h
  ·rename_i r2 h2;have:=Jp (by decide) h2;exact JU f (.args _ _ _) r2 trivial (by simp only[rankM]; omega) h
  ·rcases Jm h with h | ⟨_,r2,h2,h⟩
   ·exact JA h
   cases h
theorem YS:∀ (f:Nat) (ps:List (List UInt8 × Int)) (ts:List Int) (r r':List Tok) a,paramsP f ps ts r=.ok a r'→r'.length≤r.length
 | 0,_,_,_,_,_,h=>by cases h
 | f+1,ps,ts,r,r',a,h=>by
  rw[paramsP] at h;obtain ⟨_,r1,h1,h⟩:=Je h;obtain ⟨_,r2,h2,h⟩:=Je h;obtain ⟨_,r3,h3,h⟩:=Je h;have:=JW h1;have:=Jn (by decide) h2;have:=Vn h3;split at h
  ·rename_i r4 h4;have:=Jp (by decide) h4;have:=YS f _ _ _ _ _ h;omega
  ·obtain ⟨_,r4,h4,h⟩:=Je h;have:=Jn (by decide) h4;injection h with _ h;subst h;omega
theorem Ym:∀ (f:Nat) (ps:List (List UInt8 × Int)) (ts:List Int) (r:List Tok),r.length+1≤f→paramsP f ps ts r≠.out
 | 0,_,_,r,hf=>by omega
 | f+1,ps,ts,r,hf=>by
  intro h;rw[paramsP] at h
  rcases Jm h with h | ⟨_,r1,h1,h⟩
  ·exact KT h
  rcases Jm h with h | ⟨_,r2,h2,h⟩
  ·exact JA h
  rcases Jm h with h | ⟨_,r3,h3,h⟩
  ·exact ZM h
  have:=JW h1;have:=Jn (by decide) h2;have:=Vn h3;split at h
  ·rename_i r4 h4;have:=Jp (by decide) h4;exact Ym f _ _ _ (by omega) h
  ·rcases Jm h with h | ⟨_,r4,h4,h⟩
   ·exact JA h
   cases h
theorem bx108 {P:Prop}(h:P:=by
  split at h3
  ·rename_i r9 h9;have:=Jp (by decide) h9;injection h3 with _ h3;subst h3;omega
  ·exact YS _ _ _ _ _ _ h3):P:=h
theorem Jdk {f:Nat} {r r':List Tok} {x:FnS} (h:funP f r=.ok x r'):r'.length+1≤r.length:=by
 unfold funP at h;obtain ⟨_,r1,h1,h⟩:=Je h;obtain ⟨_,r2,h2,h⟩:=Je h;obtain ⟨_,r3,h3,h⟩:=Je h;obtain ⟨_,r4,h4,h⟩:=Je h;obtain ⟨_,r5,h5,h⟩:=Je h;obtain ⟨_,r6,h6,h⟩:=Je h;obtain ⟨_,r7,h7,h⟩:=Je h;injection h with _ h;subst h;have:=JW h1;have:=Jn (by decide) h2
 have:r3.length≤r2.length:=by
  exact bx108
 have:=Jn (by decide) h4;have:=Vn h5;have:=Jn (by decide) h6;have:=Kb _ _ _ _ _ h7;omega
theorem Jfc {f:Nat} {r:List Tok} (hf:12*r.length+12≤f):funP f r≠.out:=by
 intro h;unfold funP at h
 rcases Jm h with h | ⟨_,r1,h1,h⟩
 ·exact KT h
 have:=JW h1
 rcases Jm h with h | ⟨_,r2,h2,h⟩
 ·exact JA h
 have:=Jn (by decide) h2
 rcases Jm h with h | ⟨_,r3,h3,h⟩
 ·split at h
  ·cases h
  ·exact Ym _ _ _ _ (by omega) h
 have:r3.length≤r2.length:=by
  exact bx108
 rcases Jm h with h | ⟨_,r4,h4,h⟩
 ·exact JA h
 have:=Jn (by decide) h4
 rcases Jm h with h | ⟨_,r5,h5,h⟩
 ·exact ZM h
 have:=Vn h5
 rcases Jm h with h | ⟨_,r6,h6,h⟩
 ·exact JA h
 have:=Jn (by decide) h6
 rcases Jm h with h | ⟨_,r7,h7,h⟩
 ·exact JU _ .expr _ trivial (by simp only[rankM]; omega) h
 cases h
theorem JaV (g:Nat):∀ (f:Nat) (l:List FnS) (r r':List Tok) a,funsP g f l r=.ok a r'→r'.length≤r.length
 | 0,_,_,_,_,h=>by cases h
 | f+1,l,r,r',a,h=>by
  rw[funsP] at h;split at h
  ·rename_i r1 h1;have:=Jp (by decide) h1;obtain ⟨_,r2,h2,h⟩:=Je h;have:=Jdk h2;have:=JaV g f _ _ _ _ h;omega
  ·injection h with _ h;subst h;exact Nat.le_refl _
theorem ZO (g:Nat):∀ (f:Nat) (l:List FnS) (r:List Tok),12*r.length+12≤g→r.length+1≤f→funsP g f l r≠.out
 | 0,_,_,_,hf=>by omega
 | f+1,l,r,hg,hf=>by
  intro h;rw[funsP] at h;split at h
  ·rename_i r1 h1;have:=Jp (by decide) h1
   rcases Jm h with h | ⟨_,r2,h2,h⟩
   ·exact Jfc (by omega) h
   have:=Jdk h2;exact ZO g f _ _ (by omega) (by omega) h
  ·cases h
theorem VG (g:Nat):∀ (f:Nat) (l:List ClS) (r:List Tok),12*r.length+12≤g→r.length+1≤f→clausesP g f l r≠.out
 | 0,_,_,_,hf=>by omega
 | f+1,l,r,hg,hf=>by
  intro h;rw[clausesP] at h;split at h
  ·rename_i r1 h1;have:=Jp (by decide) h1
   rcases Jm h with h | ⟨_,r2,h2,h⟩
   ·exact JU _ .expr _ trivial (by simp only[rankM]; omega) h
   have:=Kb _ _ _ _ _ h2
   rcases Jm h with h | ⟨_,r3,h3,h⟩
   ·exact JA h
   have:=Jn (by decide) h3
   rcases Jm h with h | ⟨_,r4,h4,h⟩
   ·exact ZN h
   have:=Jdi h4
   rcases Jm h with h | ⟨_,r5,h5,h⟩
   ·exact YQ h
   have:=YP h5;exact VG g f _ _ (by omega) (by omega) h
  ·cases h
theorem Jfd {f:Nat} {r:List Tok} (hf:12*r.length+12≤f):srcP f r≠.out:=by
 intro h;unfold srcP at h
 rcases Jm h with h | ⟨_,r1,h1,h⟩
 ·exact ZO f f _ _ hf (by omega) h
 have:=JaV _ _ _ _ _ _ h1
 rcases Jm h with h | ⟨_,r2,h2,h⟩
 ·exact VG f f _ _ (by omega) (by omega) h
 rcases Jm h with h | ⟨_,r3,h3,h⟩
 ·exact JA h
 rcases Jm h with h | ⟨_,r4,h4,h⟩
 ·exact ZN h
 split at h <;> cases h
end Go.Proofs.YtdlkcjkjnehnkaaGreatDoor
namespace Go.Proofs.YtdlkcjkjnehnkaaGreatDoor
open Go Go.Lib
open _root_.Go.Proofs.Tryz
set_option linter.all false
set_option maxRecDepth 100000
set_option maxHeartbeats 32000000
def tW (s:List UInt8):Tok:=⟨0,s,0,0⟩
def tI (n:Int):Tok:=⟨1,[],n,0⟩
def tT (s:List UInt8):Tok:=⟨2,s,0,0⟩
def tS (s:List UInt8):Tok:=⟨3,s,0,0⟩
inductive It where
 | s (c:UInt8)
 | t (x:Tok)
def It.bytes:It→List UInt8
 | .s c=>[c]
 | .t x=>wr x
def It.tok:It→List Tok
 | .s _=>[]
 | .t x=>[x]
def flat (l:List It):List UInt8:=l.flatMap It.bytes
def tk (l:List It):List Tok:=l.flatMap It.tok
theorem J5 (a b:List It):flat (a++b)=flat a++flat b:=by simp[flat]
theorem KZ (a b:List It):tk (a++b)=tk a++tk b:=by simp[tk]
theorem tk_t (x:Tok) (l:List It):tk (.t x::l)=x::tk l:=rfl
theorem tk_s (c:UInt8) (l:List It):tk (.s c::l)=tk l:=rfl
theorem Jdl:tk []=[]:=rfl
def vn (n:Int):List UInt8:=118::itoa n
def lvE:Exp→Nat
 | .mk k _ _ l=>
  if k=18∨k=19 then 0 else if k=17 then 1 else if k=16 then 2
  else if k=7 then (match l with | a::_=>if a.kind=15 then 4 else 3 | []=>3)
  else if k=13∨k=14∨k=15 then 4
  else if k=8∨k=9 then 5 else if k=10∨k=11∨k=12 then 6 else if k=6 then 7 else 8
theorem Js (k n:Int) (s:List UInt8) (l:List Exp):lvE (.mk k n s l)=(
  if k=18∨k=19 then 0 else if k=17 then 1 else if k=16 then 2
  else if k=7 then (match l with | a::_=>if a.kind=15 then 4 else 3 | []=>3)
  else if k=13∨k=14∨k=15 then 4
  else if k=8∨k=9 then 5 else if k=10∨k=11∨k=12 then 6 else if k=6 then 7 else 8):=by
 conv=>lhs; unfold lvE
def par (b:Bool) (x:List It):List It:=if b=true then .t (tS [40])::(x++[.t (tS [41])]) else x
def symT (ne:Bool) (k:Int):Tok:=
 if k=8 then tS [43] else if k=9 then tS [45] else if k=10 then tS [42] else if k=11 then tS [47] else if k=12 then tS [37]
 else if k=13 then tS [60] else if k=14 then tS [60,61] else if k=15 then (if ne=true then tS [33,61] else tS [61,61]) else if k=16 then tW kAnd else tW kOr
def rleftL (lv:Nat):Nat:=if lv=4 then 5 else lv
mutual
def iB (fn:Int→List UInt8) (ne:Bool):Exp→List It
 | .mk k n s l=>
  if k=0 then [.t (tI n)]
  else if k=1 then [.t (tW (if n=0 then kFalse else kTrue))]
  else if k=2 then [.t (tW (vn n))]
  else if k=3 then [.t (tW s)]
  else if k=4 then [.t (tW kLabel),.t (tS [40]),.t (tT s),.t (tS [41])]
  else if k=5 then [.t (tW kWord),.t (tS [40]),.t (tT s),.t (tS [41])]
  else if k=6 then (match l with | [a]=>.t (tS [45])::par (decide (lvE a<7)) (iB fn false a) | _=>[])
  else if k=7 then (match l with | [a]=>if a.kind=15 then iB fn true a else .t (tW kNot)::.s 32::par (decide (lvE a<3)) (iB fn false a) | _=>[])
  else if k=18 then (match l with | [c,a,b]=>.t (tW kIf)::.s 32::(iB fn false c++.s 32::.t (tW kThen)::.s 32::(iB fn false a++.s 32::.t (tW kElse)::.s 32::iB fn false b)) | _=>[])
  else if k=19 then (match l with | [a,b]=>.t (tW kLet)::.s 32::.t (tW (vn n))::.s 32::.t (tS [61])::.s 32::(iB fn false a++.s 32::.t (tW kIn)::.s 32::iB fn false b) | _=>[])
  else if k=20 then .t (tW (fn n))::.t (tS [40])::(iA fn l++[.t (tS [41])])
  else (match l with
   | [a,b]=>par (decide (lvE a<rleftL (lvE (.mk k n s [a,b])))) (iB fn false a)++.s 32::.t (symT ne k)::.s 32::par (decide (lvE b<lvE (.mk k n s [a,b])+1)) (iB fn false b)
   | _=>[])
def iA (fn:Int→List UInt8):List Exp→List It
 | []=>[]
 | a::l=>iB fn false a++iT fn l
def iT (fn:Int→List UInt8):List Exp→List It
 | []=>[]
 | a::l=>.t (tS [44])::.s 32::(iB fn false a++iT fn l)
end
theorem JM (fn:Int→List UInt8) (ne:Bool) (k n:Int) (s:List UInt8) (l:List Exp):iB fn ne (.mk k n s l)=(
  if k=0 then [.t (tI n)]
  else if k=1 then [.t (tW (if n=0 then kFalse else kTrue))]
  else if k=2 then [.t (tW (vn n))]
  else if k=3 then [.t (tW s)]
  else if k=4 then [.t (tW kLabel),.t (tS [40]),.t (tT s),.t (tS [41])]
  else if k=5 then [.t (tW kWord),.t (tS [40]),.t (tT s),.t (tS [41])]
  else if k=6 then (match l with | [a]=>.t (tS [45])::par (decide (lvE a<7)) (iB fn false a) | _=>[])
  else if k=7 then (match l with | [a]=>if a.kind=15 then iB fn true a else .t (tW kNot)::.s 32::par (decide (lvE a<3)) (iB fn false a) | _=>[])
  else if k=18 then (match l with | [c,a,b]=>.t (tW kIf)::.s 32::(iB fn false c++.s 32::.t (tW kThen)::.s 32::(iB fn false a++.s 32::.t (tW kElse)::.s 32::iB fn false b)) | _=>[])
  else if k=19 then (match l with | [a,b]=>.t (tW kLet)::.s 32::.t (tW (vn n))::.s 32::.t (tS [61])::.s 32::(iB fn false a++.s 32::.t (tW kIn)::.s 32::iB fn false b) | _=>[])
  else if k=20 then .t (tW (fn n))::.t (tS [40])::(iA fn l++[.t (tS [41])])
  else (match l with
   | [a,b]=>par (decide (lvE a<rleftL (lvE (.mk k n s [a,b])))) (iB fn false a)++.s 32::.t (symT ne k)::.s 32::par (decide (lvE b<lvE (.mk k n s [a,b])+1)) (iB fn false b)
   | _=>[])):=by
 conv=>lhs; unfold iB
def iX (fn:Int→List UInt8) (lv:Nat) (e:Exp):List It:=par (decide (lvE e<lv)) (iB fn false e)
mutual
def sN (fn:Int→List UInt8):Exp→Nd
 | .mk k n s l=>if k=2 then .mk 2 0 (vn n) 0 (sL fn l) else if k=19 then .mk 19 0 (vn n) 0 (sL fn l) else if k=20 then .mk 20 0 (fn n) 0 (sL fn l) else .mk k n s 0 (sL fn l)
def sL (fn:Int→List UInt8):List Exp→List Nd
 | []=>[]
 | a::l=>sN fn a::sL fn l
end
def Ev (md:Md) (r:List Tok) (a:Nd) (r':List Tok):Prop:=∃ f0,∀ f,f0≤f→pM f md r=.ok a r'
theorem JK (k:Int) (s:List UInt8) (n o:Int) (r:List Tok):acc k s (⟨k,s,n,o⟩::r)=some r:=by simp[acc,hd]
theorem Kn {k:Int} {s:List UInt8} {r:List Tok} (h:¬ ((hd r).kind=k∧(hd r).text=s)):acc k s r=none:=by unfold acc; rw[if_neg h]
theorem Jy (k:Int) (s:List UInt8) (n o:Int) (r:List Tok):accept k s (⟨k,s,n,o⟩::r)=.ok () r:=by unfold accept; rw[JK]
theorem Jj {α β:Type} (a:α) (r:List Tok) (f:α→List Tok→PR β):(PR.ok a r).bind f=f a r:=rfl
theorem Ev.step {md md':Md} {r r':List Tok} {a:Nd} (h:Ev md' r a r') (hs:∀ f,pM (f+1) md r=pM f md' r):Ev md r a r':=by
 obtain ⟨f0,h⟩:=h;refine ⟨f0+1,fun f hf=>?_⟩;obtain ⟨g,rfl⟩:∃ g,f=g+1:=⟨f-1,by omega⟩
 rw[hs,h g (by omega)]
structure Ro (lv:Nat) (r:List Tok):Prop where
 call:acc 3 [40] r=none
 l6:lv≤6→opK 6 (hd r)=none
 l5:lv≤5→opK 5 (hd r)=none
 l4:lv≤4→cmpK (hd r)=none
 l2:lv≤2→opK 2 (hd r)=none
 l1:lv≤1→opK 1 (hd r)=none
theorem Ro.mono {lv lv':Nat} {r:List Tok} (h:Ro lv r) (hl:lv≤lv'):Ro lv' r:=
 ⟨h.call,fun g=>h.l6 (by omega),fun g=>h.l5 (by omega),fun g=>h.l4 (by omega),fun g=>h.l2 (by omega),fun g=>h.l1 (by omega)⟩
theorem Vd {t:Tok} {lv:Nat} {r:List Tok} (h:Ro lv [t]):Ro lv (t::r):=⟨by have:=h.call; unfold acc at *; simpa[hd] using this,h.l6,h.l5,h.l4,h.l2,h.l1⟩
structure Hd (lv:Nat) (t:Tok):Prop where
 off:t.off=0
 let':1≤lv→¬ (t.kind=0∧t.text=kLet)
 if':1≤lv→¬ (t.kind=0∧t.text=kIf)
 not':4≤lv→¬ (t.kind=0∧t.text=kNot)
 neg:8≤lv→¬ (t.kind=3∧t.text=[45])
 shut:¬ (t.kind=3∧t.text=[41])
theorem Hd.mono {lv lv':Nat} {t:Tok} (h:Hd lv t) (hl:lv'≤lv):Hd lv' t:=
 ⟨h.off,fun g=>h.let' (by omega),fun g=>h.if' (by omega),fun g=>h.not' (by omega),fun g=>h.neg (by omega),h.shut⟩
def pl (lv:Nat):Md:=if lv=0 then .expr else if lv=4 then .cmp else if 8≤lv then .prim else .level lv
theorem KK {lv:Nat} {a:Nd} {o:Int} {r:List Tok} (h:opK lv (hd r)=none):Ev (.loop lv o a) r a r:=by
 refine ⟨1,fun f hf=>?_⟩;obtain ⟨g,rfl⟩:∃ g,f=g+1:=⟨f-1,by omega⟩
 rw[pM,h]
theorem VH {lv:Nat} {a b:Nd} {r r1 r2:List Tok} (h3:lv≠3) (h7:lv≠7) (h1:Ev (.level (lv+1)) r a r1) (h2:Ev (.loop lv (hd r).off a) r1 b r2):Ev (.level lv) r b r2:=by
 obtain ⟨f1,h1⟩:=h1;obtain ⟨f2,h2⟩:=h2;refine ⟨f1+f2+1,fun f hf=>?_⟩;obtain ⟨g,rfl⟩:∃ g,f=g+1:=⟨f-1,by omega⟩
 rw[pM,if_neg h3,if_neg h7,h1 g (by omega),Jj,h2 g (by omega)]
theorem Jei {lv:Nat} {k:Int} {a b c:Nd} {o:Int} {t:Tok} {r r1 r2:List Tok} (hk:opK lv t=some k) (h1:Ev (.level (lv+1)) r b r1) (h2:Ev (.loop lv o (.mk k 0 [] o [a,b])) r1 c r2):Ev (.loop lv o a) (t::r) c r2:=by
 obtain ⟨f1,h1⟩:=h1;obtain ⟨f2,h2⟩:=h2;refine ⟨f1+f2+1,fun f hf=>?_⟩;obtain ⟨g,rfl⟩:∃ g,f=g+1:=⟨f-1,by omega⟩
 rw[pM,show hd (t::r)=t from rfl,hk];simp only[List.tail_cons];rw[h1 g (by omega),Jj,h2 g (by omega)]
theorem Jch {a:Nd} {r r1:List Tok} (h1:Ev (.level 5) r a r1) (h:cmpK (hd r1)=none):Ev .cmp r a r1:=by
 obtain ⟨f1,h1⟩:=h1;refine ⟨f1+1,fun f hf=>?_⟩;obtain ⟨g,rfl⟩:∃ g,f=g+1:=⟨f-1,by omega⟩
 rw[pM,h1 g (by omega),Jj,h]
theorem Jci {a b:Nd} {k:Int} {t:Tok} {r r1 r2:List Tok} (h1:Ev (.level 5) r a (t::r1)) (h:cmpK t=some k) (h2:Ev (.level 5) r1 b r2):Ev .cmp r (cmpN t k a b) r2:=by
 obtain ⟨f1,h1⟩:=h1;obtain ⟨f2,h2⟩:=h2;refine ⟨f1+f2+1,fun f hf=>?_⟩;obtain ⟨g,rfl⟩:∃ g,f=g+1:=⟨f-1,by omega⟩
 rw[pM,h1 g (by omega),Jj,show hd (t::r1)=t from rfl,h];simp only[List.tail_cons];rw[h2 g (by omega),Jj]
theorem JjD {a:Nd} {r r1:List Tok} (h:Ev (.level 1) r a r1) (h1:¬ ((hd r).kind=0∧(hd r).text=kLet)) (h2:¬ ((hd r).kind=0∧(hd r).text=kIf)):Ev .expr r a r1:=
 h.step fun f=>by rw[pM,Kn h1]; simp only; rw[Kn h2]
theorem Jmj {a:Nd} {r r1:List Tok} (h:Ev .cmp r a r1) (h1:¬ ((hd r).kind=0∧(hd r).text=kNot)):Ev (.level 3) r a r1:=
 h.step fun f=>by rw[pM,if_pos rfl,Kn h1]
theorem Jmk {a:Nd} {r r1:List Tok} (h:Ev .prim r a r1) (h1:¬ ((hd r).kind=3∧(hd r).text=[45])):Ev (.level 7) r a r1:=
 h.step fun f=>by rw[pM,if_neg (by decide),if_pos rfl,Kn h1]
theorem JjE {a:Nd} {r r1:List Tok} (h:Ev (.level 3) r a r1):Ev (.level 3) (tW kNot::r) (.mk 7 0 [] 0 [a]) r1:=by
 obtain ⟨f1,h1⟩:=h;refine ⟨f1+1,fun f hf=>?_⟩;obtain ⟨g,rfl⟩:∃ g,f=g+1:=⟨f-1,by omega⟩
 rw[pM,if_pos rfl,show acc 0 kNot (tW kNot::r)=some r from JK ..];simp only;rw[h1 g (by omega),Jj];rfl
theorem Jlc {a:Nd} {r r1:List Tok} (h:Ev (.level 7) r a r1):Ev (.level 7) (tS [45]::r) (.mk 6 0 [] 0 [a]) r1:=by
 obtain ⟨f1,h1⟩:=h;refine ⟨f1+1,fun f hf=>?_⟩;obtain ⟨g,rfl⟩:∃ g,f=g+1:=⟨f-1,by omega⟩
 rw[pM,if_neg (by decide),if_pos rfl,show acc 3 [45] (tS [45]::r)=some r from JK ..];simp only;rw[h1 g (by omega),Jj];rfl
theorem Jhv {a:Nd} {r r1:List Tok} (h:Ev .expr r a (tS [41]::r1)) (ho:a.off=0):Ev .prim (tS [40]::r) a r1:=by
 obtain ⟨f1,h1⟩:=h;refine ⟨f1+1,fun f hf=>?_⟩;obtain ⟨g,rfl⟩:∃ g,f=g+1:=⟨f-1,by omega⟩
 rw[pM,if_neg (by change ¬ (3:Int)=1; decide),show acc 3 [40] (tS [40]::r)=some r from JK ..];simp only;rw[h1 g (by omega),Jj,show accept 3 [41] (tS [41]::r1)=.ok () r1 from Jy ..,Jj]
 cases a
 simp only[Nd.off] at ho;subst ho;rfl
theorem Jld {c a b:Nd} {r r1 r2 r3:List Tok} (h1:Ev .expr r c (tW kThen::r1)) (h2:Ev .expr r1 a (tW kElse::r2)) (h3:Ev .expr r2 b r3):Ev .expr (tW kIf::r) (.mk 18 0 [] 0 [c,a,b]) r3:=by
 obtain ⟨f1,h1⟩:=h1;obtain ⟨f2,h2⟩:=h2;obtain ⟨f3,h3⟩:=h3;refine ⟨f1+f2+f3+1,fun f hf=>?_⟩;obtain ⟨g,rfl⟩:∃ g,f=g+1:=⟨f-1,by omega⟩
 rw[pM,Kn (show ¬ ((hd (tW kIf::r)).kind=0∧(hd (tW kIf::r)).text=kLet) from by change ¬ ((0:Int)=0∧kIf=kLet); decide),show acc 0 kIf (tW kIf::r)=some r from JK ..];simp only;rw[h1 g (by omega),Jj,show accept 0 kThen (tW kThen::r1)=.ok () r1 from Jy ..,Jj,h2 g (by omega),Jj,show accept 0 kElse (tW kElse::r2)=.ok () r2 from Jy ..,Jj,h3 g (by omega),Jj];rfl
theorem Kx {s:List UInt8} (h:identB s=true) (r:List Tok):identP (tW s::r)=.ok (s,0) r:=by
 unfold identP;rw[if_pos ⟨rfl,h⟩];rfl
theorem Jle {s:List UInt8} {a b:Nd} {r r1 r3:List Tok} (hs:identB s=true) (h1:Ev .expr r a (tW kIn::r1)) (h2:Ev .expr r1 b r3):Ev .expr (tW kLet::tW s::tS [61]::r) (.mk 19 0 s 0 [a,b]) r3:=by
 obtain ⟨f1,h1⟩:=h1;obtain ⟨f2,h2⟩:=h2;refine ⟨f1+f2+1,fun f hf=>?_⟩;obtain ⟨g,rfl⟩:∃ g,f=g+1:=⟨f-1,by omega⟩
 rw[pM,show acc 0 kLet (tW kLet::tW s::tS [61]::r)=some (tW s::tS [61]::r) from JK ..];simp only;rw[Kx hs,Jj,show accept 3 [61] (tS [61]::r)=.ok () r from Jy ..,Jj,h1 g (by omega),Jj,show accept 0 kIn (tW kIn::r1)=.ok () r1 from Jy ..,Jj,h2 g (by omega),Jj];rfl
theorem VI {s:List UInt8} (h:identB s=true):s≠kFalse∧s≠kTrue∧s≠kLabel∧s≠kWord∧s≠kLet∧s≠kIf∧s≠kNot∧factI s=none:=by
 unfold identB at h
 cases s with
 | nil=>cases h
 | cons c r=>
  simp only[Bool.and_eq_true,Bool.not_eq_true',decide_eq_true_eq,Option.isNone_iff_eq_none] at h;have hk:¬ (c::r)∈[kAnd,kBool,kDef,kDefault,kElse,kFalse,kHide,kIf,kIn,kInt,kLabel,kLet,kLimit,kMedia,kNot,kOr,kShow,kThen,kTrue,kWhen,kWord]:=of_decide_eq_false h.2;simp only[List.mem_cons,not_or] at hk;exact ⟨hk.2.2.2.2.2.1,hk.2.2.2.2.2.2.2.2.2.2.2.2.2.2.2.2.2.2.1,hk.2.2.2.2.2.2.2.2.2.2.1,hk.2.2.2.2.2.2.2.2.2.2.2.2.2.2.2.2.2.2.2.2.1,hk.2.2.2.2.2.2.2.2.2.2.2.1,hk.2.2.2.2.2.2.2.1,hk.2.2.2.2.2.2.2.2.2.2.2.2.2.2.1,h.1.2⟩
theorem VJ {s:List UInt8} (f:Nat) (r:List Tok) (h1:s≠kFalse) (h2:s≠kTrue) (h3:s≠kLabel) (h4:s≠kWord):pM (f+1) .prim (tW s::r)=if (factI s).isSome∧(0:Int)=0 then .ok (.mk 3 0 s 0 []) r else pM f .named (tW s::r):=by
 have hq:∀ (x y:PR Nd),(if (factI (hd (tW s::r)).text).isSome=true∧(hd (tW s::r)).kind=0 then x else y)=(if (factI s).isSome=true∧True then x else y):=fun x y=>by
  have e0:((hd (tW s::r)).kind=0)=True:=eq_true rfl;simp only[e0];rfl
 have e:∀ k:List UInt8,s≠k→acc 0 k (tW s::r)=none:=fun k hk=>Kn fun h=>hk h.2
 rw[pM,if_neg (by change ¬ (0:Int)=1; decide),Kn (show ¬ ((hd (tW s::r)).kind=3∧(hd (tW s::r)).text=[40]) from fun h=>absurd h.1 (by change ¬ (0:Int)=3; decide))];simp only;rw[e _ h1];simp only;rw[e _ h2];simp only;rw[e _ h3];simp only;rw[e _ h4];exact hq _ _
theorem bx45 {P:Prop}(h:P:=by
  unfold factI at h
  by_cases h1:s∈[fLikes,fBoosts,fReplies,fReports,fAge,fHome,fScope,fLength]
  ·exact .inl h1
  ·by_cases h2:s∈[fFollows,fReply]
   ·exact .inr h2
   ·rw[if_neg h1,if_neg h2] at h; cases h):P:=h
theorem bx100 {P:Prop}(h:P:=by
  simp only[List.mem_cons,List.not_mem_nil,or_false] at hs
  rcases hs with (rfl | rfl | rfl | rfl | rfl | rfl | rfl | rfl) | (rfl | rfl) <;> decide):P:=h
theorem JjF {s:List UInt8} {r:List Tok} (h:(factI s).isSome=true):Ev .prim (tW s::r) (.mk 3 0 s 0 []) r:=by
 have hs:s∈[fLikes,fBoosts,fReplies,fReports,fAge,fHome,fScope,fLength]∨s∈[fFollows,fReply]:=by
  exact bx45
 have hn:s≠kFalse∧s≠kTrue∧s≠kLabel∧s≠kWord:=by
  exact bx100
 refine ⟨1,fun f hf=>?_⟩;obtain ⟨g,rfl⟩:∃ g,f=g+1:=⟨f-1,by omega⟩
 rw[VJ g r hn.1 hn.2.1 hn.2.2.1 hn.2.2.2,if_pos ⟨h,rfl⟩]
theorem Jlf {s:List UInt8} {r:List Tok} (h:identB s=true) (hc:acc 3 [40] r=none):Ev .prim (tW s::r) (.mk 2 0 s 0 []) r:=by
 obtain ⟨n1,n2,n3,n4,_,_,_,n5⟩:=VI h;refine ⟨2,fun f hf=>?_⟩;obtain ⟨g,rfl⟩:∃ g,f=g+1+1:=⟨f-2,by omega⟩
 rw[VJ _ r n1 n2 n3 n4,if_neg (by rw[n5]; simp),pM,Kx h,Jj,hc]
theorem Jhw {s:List UInt8} {r:List Tok} (h:identB s=true):Ev .prim (tW s::tS [40]::tS [41]::r) (.mk 20 0 s 0 []) r:=by
 obtain ⟨n1,n2,n3,n4,_,_,_,n5⟩:=VI h;refine ⟨2,fun f hf=>?_⟩;obtain ⟨g,rfl⟩:∃ g,f=g+1+1:=⟨f-2,by omega⟩
 rw[VJ _ _ n1 n2 n3 n4,if_neg (by rw[n5]; simp),pM,Kx h,Jj,show acc 3 [40] (tS [40]::tS [41]::r)=some (tS [41]::r) from JK ..];simp only;rw[show acc 3 [41] (tS [41]::r)=some r from JK ..]
theorem JjG {s:List UInt8} {a:Nd} {r r1:List Tok} (h:identB s=true) (h0:¬ ((hd r).kind=3∧(hd r).text=[41])) (h1:Ev (.args s 0 []) r a r1):Ev .prim (tW s::tS [40]::r) a r1:=by
 obtain ⟨n1,n2,n3,n4,_,_,_,n5⟩:=VI h;obtain ⟨f1,h1⟩:=h1;refine ⟨f1+2,fun f hf=>?_⟩;obtain ⟨g,rfl⟩:∃ g,f=g+1+1:=⟨f-2,by omega⟩
 rw[VJ _ _ n1 n2 n3 n4,if_neg (by rw[n5]; simp),pM,Kx h,Jj,show acc 3 [40] (tS [40]::r)=some r from JK ..];simp only;rw[Kn h0];simp only;exact h1 g (by omega)
theorem JaW {s:List UInt8} {l:List Nd} {a b:Nd} {r r1 r2:List Tok} (h1:Ev .expr r a (tS [44]::r1)) (h2:Ev (.args s 0 (l++[a])) r1 b r2):Ev (.args s 0 l) r b r2:=by
 obtain ⟨f1,h1⟩:=h1;obtain ⟨f2,h2⟩:=h2;refine ⟨f1+f2+1,fun f hf=>?_⟩;obtain ⟨g,rfl⟩:∃ g,f=g+1:=⟨f-1,by omega⟩
 rw[pM,h1 g (by omega),Jj,show acc 3 [44] (tS [44]::r1)=some r1 from JK ..];exact h2 g (by omega)
theorem Jcj {s:List UInt8} {l:List Nd} {a:Nd} {r r1:List Tok} (h1:Ev .expr r a (tS [41]::r1)):Ev (.args s 0 l) r (.mk 20 0 s 0 (l++[a])) r1:=by
 obtain ⟨f1,h1⟩:=h1;refine ⟨f1+1,fun f hf=>?_⟩;obtain ⟨g,rfl⟩:∃ g,f=g+1:=⟨f-1,by omega⟩
 rw[pM,h1 g (by omega),Jj,Kn (show ¬ ((hd (tS [41]::r1)).kind=3∧(hd (tS [41]::r1)).text=[44]) from fun h=>absurd h.2 (by change ¬ ([41]:List UInt8)=[44]; decide))];simp only;rw[show accept 3 [41] (tS [41]::r1)=.ok () r1 from Jy ..,Jj]
theorem Jlg {n:Int} {r:List Tok}:Ev .prim (tI n::r) (.mk 0 n [] 0 []) r:=by
 refine ⟨1,fun f hf=>?_⟩;obtain ⟨g,rfl⟩:∃ g,f=g+1:=⟨f-1,by omega⟩
 rw[pM,if_pos (show (hd (tI n::r)).kind=1 from rfl)];rfl
theorem Jck {s k:List UInt8} {r:List Tok} (h:s≠k):acc 0 k (tW s::r)=none:=Kn fun e=>h e.2
theorem ZP {s k:List UInt8} {r:List Tok}:acc 3 k (tW s::r)=none:=Kn fun e=>absurd e.1 (by change ¬ (0:Int)=3; decide)
theorem JjH {n:Int} {r:List Tok} (h:n=0∨n=1):Ev .prim (tW (if n=0 then kFalse else kTrue)::r) (.mk 1 n [] 0 []) r:=by
 refine ⟨1,fun f hf=>?_⟩;obtain ⟨g,rfl⟩:∃ g,f=g+1:=⟨f-1,by omega⟩
 rcases h with rfl | rfl
 ·rw[if_pos rfl,pM,if_neg (by change ¬ (0:Int)=1; decide),ZP];simp only;rw[show acc 0 kFalse (tW kFalse::r)=some r from JK ..];rfl
 ·rw[if_neg (by decide),pM,if_neg (by change ¬ (0:Int)=1; decide),ZP];simp only;rw[Jck (by decide)];simp only;rw[show acc 0 kTrue (tW kTrue::r)=some r from JK ..];rfl
theorem ZQ (s:List UInt8) (r:List Tok):quotedP (tS [40]::tT s::tS [41]::r)=.ok s r:=by
 unfold quotedP;rw[show accept 3 [40] (tS [40]::tT s::tS [41]::r)=.ok () (tT s::tS [41]::r) from Jy ..,Jj];rw[show textP (tT s::tS [41]::r)=.ok s (tS [41]::r) from rfl,Jj,show accept 3 [41] (tS [41]::r)=.ok () r from Jy ..,Jj]
theorem Jhx {s:List UInt8} {r:List Tok}:Ev .prim (tW kLabel::tS [40]::tT s::tS [41]::r) (.mk 4 0 s 0 []) r:=by
 refine ⟨1,fun f hf=>?_⟩;obtain ⟨g,rfl⟩:∃ g,f=g+1:=⟨f-1,by omega⟩
 rw[pM,if_neg (by change ¬ (0:Int)=1; decide),ZP];simp only;rw[Jck (by decide)];simp only;rw[Jck (by decide)];simp only;rw[show acc 0 kLabel (tW kLabel::tS [40]::tT s::tS [41]::r)=some (tS [40]::tT s::tS [41]::r) from JK ..];simp only;rw[ZQ,Jj];rfl
theorem JjI {s:List UInt8} {r:List Tok}:Ev .prim (tW kWord::tS [40]::tT s::tS [41]::r) (.mk 5 0 s 0 []) r:=by
 refine ⟨1,fun f hf=>?_⟩;obtain ⟨g,rfl⟩:∃ g,f=g+1:=⟨f-1,by omega⟩
 rw[pM,if_neg (by change ¬ (0:Int)=1; decide),ZP];simp only;rw[Jck (by decide)];simp only;rw[Jck (by decide)];simp only;rw[Jck (by decide)];simp only;rw[show acc 0 kWord (tW kWord::tS [40]::tT s::tS [41]::r)=some (tS [40]::tT s::tS [41]::r) from JK ..];simp only;rw[ZQ,Jj];rfl
theorem JjJ {lv:Nat} (h:1≤lv) (h4:lv≠4) (h8:lv≤7):pl lv=.level lv:=by
 unfold pl;rw[if_neg (by omega),if_neg h4,if_neg (by omega)]
theorem Jlh {m:Nat} {a:Nd} {r r1:List Tok} (hm:m+1≤8) (h:Ev (pl (m+1)) r a r1) (hr:Ro m r1) (hh:Hd (m+1) (hd r)):Ev (pl m) r a r1:=by
 match m,hm with
 | 0,_=>exact JjD h (hh.let' (by omega)) (hh.if' (by omega))
 | 1,_=>exact VH (by decide) (by decide) h (KK (hr.l1 (by omega)))
 | 2,_=>exact VH (by decide) (by decide) h (KK (hr.l2 (by omega)))
 | 3,_=>exact Jmj h (hh.not' (by omega))
 | 4,_=>exact Jch h (hr.l4 (by omega))
 | 5,_=>exact VH (by decide) (by decide) h (KK (hr.l5 (by omega)))
 | 6,_=>exact VH (by decide) (by decide) h (KK (hr.l6 (by omega)))
 | 7,_=>exact Jmk h (hh.neg (by omega))
theorem Jhy:∀ (d m:Nat) {a:Nd} {r r1:List Tok},m+d≤8→Ev (pl (m+d)) r a r1→Ro m r1→Hd (m+d) (hd r)→Ev (pl m) r a r1
 | 0,m,a,r,r1,_,h,_,_=>h
 | d+1,m,a,r,r1,hm,h,hr,hh=>Jlh (by omega) (Jhy d (m+1) (by omega) (by rw[show m+1+d=m+(d+1) by omega]; exact h) (hr.mono (by omega)) (by rw[show m+1+d=m+(d+1) by omega]; exact hh)) hr (hh.mono (by omega))
end Go.Proofs.YtdlkcjkjnehnkaaGreatDoor
