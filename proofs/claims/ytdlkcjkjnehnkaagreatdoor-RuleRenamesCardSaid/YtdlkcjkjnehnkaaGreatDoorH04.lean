import Derived.Test.YtdlkcjkjnehnkaaGreatDoorH03
open List(all_eq_true cons_append mem_cons)
namespace Go.Proofs.YtdlkcjkjnehnkaaGreatDoor
open _root_.Go.Proofs.Tryz
set_option linter.all false
set_option maxRecDepth 100000
set_option maxHeartbeats 32000000
theorem Je{α β:Type}{x:PR α}{f:α->List Tok->PR β}{b:β}{r:List Tok}(h:x.bind f=.ok b r):∃ a r1,x=.ok a r1/\f a r1=.ok b r:=by
 cases x with
 |out=>cases h
 |bad o=>cases h
 |ok a r1=>exact⟨a,r1,rfl,h⟩
theorem Jm{α β:Type}{x:PR α}{f:α->List Tok->PR β}(h:x.bind f=.out):x=.out\/∃ a r1,x=.ok a r1/\f a r1=.out:=by
 cases x with
 |out=>exact .inl rfl
 |bad o=>cases h
 |ok a r1=>exact .inr ⟨a,r1,rfl,h⟩
theorem Jp{k:Int}{s:List UInt8}{r r':List Tok}(hk:k≠4)(h:acc k s r=some r'):r'.length+1=r.length:=by
 unfold acc at h;split at h
 ·rename_i h1;injection h with h;subst h
  cases r with
  |nil=>exact absurd h1.1.symm hk
  |cons a l=>rfl
 ·cases h
theorem Jn{k:Int}{s:List UInt8}{r r':List Tok}{u:Unit}(hk:k≠4)(h:Qaf k s r=.ok u r'):r'.length+1=r.length:=by
 unfold Qaf at h;split at h
 ·rename_i h1;injection h with _ h;subst h;exact Jp hk h1
 ·cases h
theorem JA{k:Int}{s:List UInt8}{r:List Tok}:Qaf k s r≠.out:=by
 unfold Qaf;split<;>simp
theorem JW{r r':List Tok}{nm:List UInt8 × Int}(h:Qau r=.ok nm r'):r'.length+1=r.length:=by
 unfold Qau at h;split at h
 ·rename_i h1;injection h with _ h;subst h
  cases r with
  |nil=>exact absurd h1.1 (by decide)
  |cons a l=>rfl
 ·cases h
theorem KT{r:List Tok}:Qau r≠.out:=by
 unfold Qau;split<;>simp
theorem YP{r r':List Tok}{s:List UInt8}(h:Qbp r=.ok s r'):r'.length+1=r.length:=by
 unfold Qbp at h;split at h
 ·rename_i h1;injection h with _ h;subst h
  cases r with
  |nil=>exact absurd h1 (by decide)
  |cons a l=>rfl
 ·cases h
theorem YQ{r:List Tok}:Qbp r≠.out:=by
 unfold Qbp;split<;>simp
theorem YR{r r':List Tok}{s:List UInt8}(h:Qav r=.ok s r'):r'.length<=r.length:=by
 unfold Qav at h;obtain⟨_,r1,h1,h⟩:=Je h;obtain⟨_,r2,h2,h⟩:=Je h;obtain⟨_,r3,h3,h⟩:=Je h;injection h with _ h;subst h;have:=Jn (by decide) h1;have:=YP h2;have:=Jn (by decide) h3;omega
theorem VF{r:List Tok}:Qav r≠.out:=by
 intro h;unfold Qav at h
 rcases Jm h with h|⟨_,r1,h1,h⟩
 ·exact JA h
 rcases Jm h with h|⟨_,r2,h2,h⟩
 ·exact YQ h
 rcases Jm h with h|⟨_,r3,h3,h⟩
 ·exact JA h
 cases h
theorem Vn{r r':List Tok}{t:Int}(h:QcB r=.ok t r'):r'.length+1=r.length:=by
 unfold QcB at h;split at h
 ·rename_i h1;injection h with _ h;subst h;exact Jp (by decide) h1
 ·split at h
  ·rename_i h1;injection h with _ h;subst h;exact Jp (by decide) h1
  ·cases h
theorem ZM{r:List Tok}:QcB r≠.out:=by
 unfold QcB
 repeat' split
 all_goals simp
theorem Jdi{r r':List Tok}{t:Int}(h:Qcj r=.ok t r'):r'.length+1=r.length:=by
 unfold Qcj at h;split at h
 ·rename_i r1 h1;injection h with _ h;subst h;exact Jp (by decide) h1
 split at h
 ·rename_i r1 h1;injection h with _ h;subst h;exact Jp (by decide) h1
 split at h
 ·rename_i r1 h1;injection h with _ h;subst h;exact Jp (by decide) h1
 split at h
 ·rename_i r1 h1;injection h with _ h;subst h;exact Jp (by decide) h1
 ·cases h
theorem ZN{r:List Tok}:Qcj r≠.out:=by
 unfold Qcj
 repeat' split
 all_goals simp
theorem Yv(r:List Tok):r.tail.length<=r.length:=by simp
theorem Qkp{P:Prop}(h:P:=by
  obtain⟨_,r2,h2,h⟩:=Je h;injection h with _ h;subst h;have:=Jp (by decide) h1;have:=Kb f _ _ _ _ h2
  omega):P:=h
theorem Qkk{P:Prop}(h:P:=by
  have:=Jn (by decide) h3;have:=Kb f _ _ _ _ h4;have:=Jn (by decide) h5;have:=Kb f _ _ _ _ h6
  omega):P:=h
theorem Qki{P:Prop}(h:P:=by
  obtain⟨_,r2,h2,h⟩:=Je h;injection h with _ h;subst h;have:=Jp (by decide) h1;have:=YR h2
  omega):P:=h
theorem Kb:∀ (f:Nat) (md:Md) (r r':List Tok) (a:Nd),pM f md r=.ok a r'->r'.length<=r.length
 |0,md,r,r',a,h=>by unfold pM at h;cases h
 |f+1,.expr,r,r',a,h=>by
  rw[pM]at h;split at h
  ·rename_i r1 h1;obtain⟨_,r2,h2,h⟩:=Je h;obtain⟨_,r3,h3,h⟩:=Je h;obtain⟨_,r4,h4,h⟩:=Je h;obtain⟨_,r5,h5,h⟩:=Je h;obtain⟨_,r6,h6,h⟩:=Je h;injection h with _ h;subst h;have:=Jp (by decide) h1;have:=JW h2;exact Qkk
  ·split at h
   ·rename_i r1 h1;obtain⟨_,r2,h2,h⟩:=Je h;obtain⟨_,r3,h3,h⟩:=Je h;obtain⟨_,r4,h4,h⟩:=Je h;obtain⟨_,r5,h5,h⟩:=Je h;obtain⟨_,r6,h6,h⟩:=Je h;injection h with _ h;subst h;have:=Jp (by decide) h1;have:=Kb f _ _ _ _ h2;exact Qkk
   ·exact Kb f _ _ _ _ h
 |f+1,.level lv,r,r',a,h=>by
  rw[pM]at h;split at h
  ·split at h
   ·rename_i r1 h1;exact Qkp
   ·exact Kb f _ _ _ _ h
  ·split at h
   ·split at h
    ·rename_i r1 h1;exact Qkp
    ·exact Kb f _ _ _ _ h
   ·obtain⟨_,r1,h1,h⟩:=Je h;have:=Kb f _ _ _ _ h1;have:=Kb f _ _ _ _ h;omega
 |f+1,.loop lv o b,r,r',a,h=>by
  rw[pM]at h;split at h
  ·injection h with _ h;subst h;exact Nat.le_refl _
  ·obtain⟨_,r1,h1,h⟩:=Je h;have:=Kb f _ _ _ _ h1;have:=Kb f _ _ _ _ h;have:=Yv r;omega
 |f+1,.cmp,r,r',a,h=>by
  rw[pM]at h;obtain⟨_,r1,h1,h⟩:=Je h;have:=Kb f _ _ _ _ h1;split at h
  ·injection h with _ h;subst h;exact this
  ·obtain⟨_,r2,h2,h⟩:=Je h;have:=Kb f _ _ _ _ h2;have:=Yv r1;injection h with _ h;subst h;omega
 |f+1,.prim,r,r',a,h=>by
  rw[pM]at h;split at h
  ·injection h with _ h;subst h;exact Yv r
  split at h
  ·rename_i r1 h1;obtain⟨_,r2,h2,h⟩:=Je h;obtain⟨_,r3,h3,h⟩:=Je h;injection h with _ h;subst h;have:=Jp (by decide) h1;have:=Kb f _ _ _ _ h2;have:=Jn (by decide) h3;omega
  split at h
  ·rename_i r1 h1;injection h with _ h;subst h;have:=Jp (by decide) h1;omega
  split at h
  ·rename_i r1 h1;injection h with _ h;subst h;have:=Jp (by decide) h1;omega
  split at h
  ·rename_i r1 h1;exact Qki
  split at h
  ·rename_i r1 h1;exact Qki
  split at h
  ·injection h with _ h;subst h;exact Yv r
  ·exact Kb f _ _ _ _ h
 |f+1,.named,r,r',a,h=>by
  rw[pM]at h;obtain⟨nm,r1,h1,h⟩:=Je h;have:=JW h1;split at h
  ·injection h with _ h;subst h;omega
  ·rename_i r2 h2;have:=Jp (by decide) h2;split at h
   ·rename_i r3 h3;have:=Jp (by decide) h3;injection h with _ h;subst h;omega
   ·have:=Kb f _ _ _ _ h;omega
 |f+1,.args nm o l,r,r',a,h=>by
  rw[pM]at h;obtain⟨_,r1,h1,h⟩:=Je h;have:=Kb f _ _ _ _ h1;split at h
  ·rename_i r2 h2;have:=Jp (by decide) h2;have:=Kb f _ _ _ _ h;omega
  ·obtain⟨_,r2,h2,h⟩:=Je h;have:=Jn (by decide) h2;injection h with _ h;subst h;omega
def Qbo:Md->Nat
 |.expr=>10
 |.level lv=>10-lv
 |.loop _ _ _=>1
 |.cmp=>6
 |.prim=>2
 |.named=>1
 |.args _ _ _=>11
def QdB:Md->Prop
 |.level lv=>1<=lv/\lv<=7/\lv≠4
 |.loop lv _ _=>lv=1\/lv=2\/lv=5\/lv=6
 |_=>True
theorem Jfb{lv:Nat}{r:List Tok}{k:Int}(h:opK lv (hd r)=some k):r.tail.length+1=r.length:=by
 cases r with
 |nil=>simp[opK,hd,QdS]at h
 |cons a l=>rfl
theorem Jdj{r:List Tok}{k:Int}(h:QcS (hd r)=some k):r.tail.length+1=r.length:=by
 cases r with
 |nil=>simp[QcS,hd,QdS]at h
 |cons a l=>rfl
theorem Qmy{P:Prop}(h:P:=by
  rcases Jm h with h|⟨_,r3,h3,h⟩
  ·exact JA h
  have:=Jn (by decide) h3
  rcases Jm h with h|⟨_,r4,h4,h⟩
  ·exact JU f .expr r3 trivial (by simp only[Qbo];omega) h
  have:=Kb f _ _ _ _ h4
  rcases Jm h with h|⟨_,r5,h5,h⟩
  ·exact JA h
  have:=Jn (by decide) h5
  rcases Jm h with h|⟨_,r6,h6,h⟩
  ·exact JU f .expr r5 trivial (by simp only[Qbo];omega) h
  cases h):P:=h
theorem JU:∀ (f:Nat) (md:Md) (r:List Tok),QdB md->12*r.length+Qbo md<=f->pM f md r≠.out
 |0,md,r,hg,hf=>by
  exfalso
  cases md<;>simp[Qbo,QdB]at hf hg
  omega
 |f+1,.expr,r,hg,hf=>by
  intro h;simp only[Qbo]at hf;rw[pM]at h;split at h
  ·rename_i r1 h1;have:=Jp (by decide) h1
   rcases Jm h with h|⟨_,r2,h2,h⟩
   ·exact KT h
   have:=JW h2;exact Qmy
  ·split at h
   ·rename_i r1 h1;have:=Jp (by decide) h1
    rcases Jm h with h|⟨_,r2,h2,h⟩
    ·exact JU f .expr r1 trivial (by simp only[Qbo];omega) h
    have:=Kb f _ _ _ _ h2;exact Qmy
   ·exact JU f (.level 1) r (by simp only[QdB];omega) (by simp only[Qbo];omega) h
 |f+1,.level lv,r,hg,hf=>by
  intro h;simp only[Qbo,QdB]at hf hg;rw[pM]at h;split at h
  ·rename_i h3;subst h3;split at h
   ·rename_i r1 h1;have:=Jp (by decide) h1
    rcases Jm h with h|⟨_,r2,h2,h⟩
    ·exact JU f (.level 3) r1 (by simp only[QdB];omega) (by simp only[Qbo];omega) h
    cases h
   ·exact JU f .cmp r trivial (by simp only[Qbo];omega) h
  ·split at h
   ·rename_i h7;subst h7;split at h
    ·rename_i r1 h1;have:=Jp (by decide) h1
     rcases Jm h with h|⟨_,r2,h2,h⟩
     ·exact JU f (.level 7) r1 (by simp only[QdB];omega) (by simp only[Qbo];omega) h
     cases h
    ·exact JU f .prim r trivial (by simp only[Qbo];omega) h
   ·rcases Jm h with h|⟨_,r1,h1,h⟩
    ·exact JU f (.level (lv+1)) r (by simp only[QdB];omega) (by simp only[Qbo];omega) h
    have:=Kb f _ _ _ _ h1;exact JU f (.loop lv _ _) r1 (by simp only[QdB];omega) (by simp only[Qbo];omega) h
 |f+1,.loop lv o b,r,hg,hf=>by
  intro h;simp only[Qbo,QdB]at hf hg;rw[pM]at h;split at h
  ·cases h
  ·rename_i k hk;have:=Jfb hk
   rcases Jm h with h|⟨_,r1,h1,h⟩
   ·exact JU f (.level (lv+1)) r.tail (by simp only[QdB];omega) (by simp only[Qbo];omega) h
   have:=Kb f _ _ _ _ h1;exact JU f (.loop lv _ _) r1 hg (by simp only[Qbo];omega) h
 |f+1,.cmp,r,hg,hf=>by
  intro h;simp only[Qbo]at hf;rw[pM]at h
  rcases Jm h with h|⟨_,r1,h1,h⟩
  ·exact JU f (.level 5) r (by simp only[QdB];omega) (by simp only[Qbo];omega) h
  have:=Kb f _ _ _ _ h1;split at h
  ·cases h
  ·rename_i k hk;have:=Jdj hk
   rcases Jm h with h|⟨_,r2,h2,h⟩
   ·exact JU f (.level 5) r1.tail (by simp only[QdB];omega) (by simp only[Qbo];omega) h
   cases h
 |f+1,.prim,r,hg,hf=>by
  intro h;simp only[Qbo]at hf;rw[pM]at h;split at h
  ·cases h
  split at h
  ·rename_i r1 h1;have:=Jp (by decide) h1
   rcases Jm h with h|⟨_,r2,h2,h⟩
   ·exact JU f .expr r1 trivial (by simp only[Qbo];omega) h
   rcases Jm h with h|⟨_,r3,h3,h⟩
   ·exact JA h
   cases h
  split at h
  ·cases h
  split at h
  ·cases h
  split at h
  ·rcases Jm h with h|⟨_,r2,h2,h⟩
   ·exact VF h
   cases h
  split at h
  ·rcases Jm h with h|⟨_,r2,h2,h⟩
   ·exact VF h
   cases h
  split at h
  ·cases h
  ·exact JU f .named r trivial (by simp only[Qbo];omega) h
 |f+1,.named,r,hg,hf=>by
  intro h;simp only[Qbo]at hf;rw[pM]at h
  rcases Jm h with h|⟨nm,r1,h1,h⟩
  ·exact KT h
  have:=JW h1;split at h
  ·cases h
  ·rename_i r2 h2;have:=Jp (by decide) h2;split at h
   ·cases h
   ·exact JU f (.args _ _ _) r2 trivial (by simp only[Qbo];omega) h
 |f+1,.args nm o l,r,hg,hf=>by
  intro h;simp only[Qbo]at hf;rw[pM]at h
  rcases Jm h with h|⟨_,r1,h1,h⟩
  ·exact JU f .expr r trivial (by simp only[Qbo];omega) h
  have:=Kb f _ _ _ _ h1;split at h
  ·rename_i r2 h2;have:=Jp (by decide) h2;exact JU f (.args _ _ _) r2 trivial (by simp only[Qbo];omega) h
  ·rcases Jm h with h|⟨_,r2,h2,h⟩
   ·exact JA h
   cases h
theorem YS:∀ (f:Nat) (ps:List (List UInt8 × Int)) (ts:List Int) (r r':List Tok) a,Qak f ps ts r=.ok a r'->r'.length<=r.length
 |0,_,_,_,_,_,h=>by cases h
 |f+1,ps,ts,r,r',a,h=>by
  rw[Qak]at h;obtain⟨_,r1,h1,h⟩:=Je h;obtain⟨_,r2,h2,h⟩:=Je h;obtain⟨_,r3,h3,h⟩:=Je h;have:=JW h1;have:=Jn (by decide) h2;have:=Vn h3;split at h
  ·rename_i r4 h4;have:=Jp (by decide) h4;have:=YS f _ _ _ _ _ h;omega
  ·obtain⟨_,r4,h4,h⟩:=Je h;have:=Jn (by decide) h4;injection h with _ h;subst h;omega
theorem Ym:∀ (f:Nat) (ps:List (List UInt8 × Int)) (ts:List Int) (r:List Tok),r.length+1<=f->Qak f ps ts r≠.out
 |0,_,_,r,hf=>by omega
 |f+1,ps,ts,r,hf=>by
  intro h;rw[Qak]at h
  rcases Jm h with h|⟨_,r1,h1,h⟩
  ·exact KT h
  rcases Jm h with h|⟨_,r2,h2,h⟩
  ·exact JA h
  rcases Jm h with h|⟨_,r3,h3,h⟩
  ·exact ZM h
  have:=JW h1;have:=Jn (by decide) h2;have:=Vn h3;split at h
  ·rename_i r4 h4;have:=Jp (by decide) h4;exact Ym f _ _ _ (by omega) h
  ·rcases Jm h with h|⟨_,r4,h4,h⟩
   ·exact JA h
   cases h
theorem Qkt{P:Prop}(h:P:=by
  split at h3
  ·rename_i r9 h9;have:=Jp (by decide) h9;injection h3 with _ h3;subst h3;omega
  ·exact YS _ _ _ _ _ _ h3):P:=h
theorem Jdk{f:Nat}{r r':List Tok}{x:FnS}(h:Qdb f r=.ok x r'):r'.length+1<=r.length:=by
 unfold Qdb at h;obtain⟨_,r1,h1,h⟩:=Je h;obtain⟨_,r2,h2,h⟩:=Je h;obtain⟨_,r3,h3,h⟩:=Je h;obtain⟨_,r4,h4,h⟩:=Je h;obtain⟨_,r5,h5,h⟩:=Je h;obtain⟨_,r6,h6,h⟩:=Je h;obtain⟨_,r7,h7,h⟩:=Je h;injection h with _ h;subst h;have:=JW h1;have:=Jn (by decide) h2
 have:r3.length<=r2.length:=by
  exact Qkt
 have:=Jn (by decide) h4;have:=Vn h5;have:=Jn (by decide) h6;have:=Kb _ _ _ _ _ h7;omega
theorem Jfc{f:Nat}{r:List Tok}(hf:12*r.length+12<=f):Qdb f r≠.out:=by
 intro h;unfold Qdb at h
 rcases Jm h with h|⟨_,r1,h1,h⟩
 ·exact KT h
 have:=JW h1
 rcases Jm h with h|⟨_,r2,h2,h⟩
 ·exact JA h
 have:=Jn (by decide) h2
 rcases Jm h with h|⟨_,r3,h3,h⟩
 ·split at h
  ·cases h
  ·exact Ym _ _ _ _ (by omega) h
 have:r3.length<=r2.length:=by
  exact Qkt
 rcases Jm h with h|⟨_,r4,h4,h⟩
 ·exact JA h
 have:=Jn (by decide) h4
 rcases Jm h with h|⟨_,r5,h5,h⟩
 ·exact ZM h
 have:=Vn h5
 rcases Jm h with h|⟨_,r6,h6,h⟩
 ·exact JA h
 have:=Jn (by decide) h6
 rcases Jm h with h|⟨_,r7,h7,h⟩
 ·exact JU _ .expr _ trivial (by simp only[Qbo];omega) h
 cases h
theorem JaV(g:Nat):∀ (f:Nat) (l:List FnS) (r r':List Tok) a,Qbc g f l r=.ok a r'->r'.length<=r.length
 |0,_,_,_,_,h=>by cases h
 |f+1,l,r,r',a,h=>by
  rw[Qbc]at h;split at h
  ·rename_i r1 h1;have:=Jp (by decide) h1;obtain⟨_,r2,h2,h⟩:=Je h;have:=Jdk h2;have:=JaV g f _ _ _ _ h;omega
  ·injection h with _ h;subst h;exact Nat.le_refl _
theorem ZO(g:Nat):∀ (f:Nat) (l:List FnS) (r:List Tok),12*r.length+12<=g->r.length+1<=f->Qbc g f l r≠.out
 |0,_,_,_,hf=>by omega
 |f+1,l,r,hg,hf=>by
  intro h;rw[Qbc]at h;split at h
  ·rename_i r1 h1;have:=Jp (by decide) h1
   rcases Jm h with h|⟨_,r2,h2,h⟩
   ·exact Jfc (by omega) h
   have:=Jdk h2;exact ZO g f _ _ (by omega) (by omega) h
  ·cases h
theorem VG(g:Nat):∀ (f:Nat) (l:List ClS) (r:List Tok),12*r.length+12<=g->r.length+1<=f->Qad g f l r≠.out
 |0,_,_,_,hf=>by omega
 |f+1,l,r,hg,hf=>by
  intro h;rw[Qad]at h;split at h
  ·rename_i r1 h1;have:=Jp (by decide) h1
   rcases Jm h with h|⟨_,r2,h2,h⟩
   ·exact JU _ .expr _ trivial (by simp only[Qbo];omega) h
   have:=Kb _ _ _ _ _ h2
   rcases Jm h with h|⟨_,r3,h3,h⟩
   ·exact JA h
   have:=Jn (by decide) h3
   rcases Jm h with h|⟨_,r4,h4,h⟩
   ·exact ZN h
   have:=Jdi h4
   rcases Jm h with h|⟨_,r5,h5,h⟩
   ·exact YQ h
   have:=YP h5;exact VG g f _ _ (by omega) (by omega) h
  ·cases h
theorem Jfd{f:Nat}{r:List Tok}(hf:12*r.length+12<=f):QcO f r≠.out:=by
 intro h;unfold QcO at h
 rcases Jm h with h|⟨_,r1,h1,h⟩
 ·exact ZO f f _ _ hf (by omega) h
 have:=JaV _ _ _ _ _ _ h1
 rcases Jm h with h|⟨_,r2,h2,h⟩
 ·exact VG f f _ _ (by omega) (by omega) h
 rcases Jm h with h|⟨_,r3,h3,h⟩
 ·exact JA h
 rcases Jm h with h|⟨_,r4,h4,h⟩
 ·exact ZN h
 split at h<;>cases h
open Go Go.Lib
def tW(s:List UInt8):Tok:=⟨0,s,0,0⟩
def tI(n:Int):Tok:=⟨1,[],n,0⟩
def tT(s:List UInt8):Tok:=⟨2,s,0,0⟩
def tS(s:List UInt8):Tok:=⟨3,s,0,0⟩
inductive It where
 |s (c:UInt8)
 |t (x:Tok)
def It.bytes:It->List UInt8
 |.s c=>[c]
 |.t x=>wr x
def It.tok:It->List Tok
 |.s _=>[]
 |.t x=>[x]
def Qae(l:List It):List UInt8:=l.flatMap It.bytes
def tk(l:List It):List Tok:=l.flatMap It.tok
theorem J5(a b:List It):Qae (a++b)=Qae a++Qae b:=by simp[Qae]
theorem Qlf(x:Tok)(l:List It):tk (.t x::l)=x::tk l:=rfl
theorem QlQ(c:UInt8)(l:List It):tk (.s c::l)=tk l:=rfl
def vn(n:Int):List UInt8:=118::itoa n
def lvE:Exp->Nat
 |.mk k _ _ l=>
  if k=18\/k=19 then 0 else if k=17 then 1 else if k=16 then 2
  else if k=7 then (match l with|a::_=>if a.kind=15 then 4 else 3|[]=>3)
  else if k=13\/k=14\/k=15 then 4
  else if k=8\/k=9 then 5 else if k=10\/k=11\/k=12 then 6 else if k=6 then 7 else 8
theorem Js(k n:Int)(s:List UInt8)(l:List Exp):lvE (.mk k n s l)=(
  if k=18\/k=19 then 0 else if k=17 then 1 else if k=16 then 2
  else if k=7 then (match l with|a::_=>if a.kind=15 then 4 else 3|[]=>3)
  else if k=13\/k=14\/k=15 then 4
  else if k=8\/k=9 then 5 else if k=10\/k=11\/k=12 then 6 else if k=6 then 7 else 8):=by
 conv=>lhs;unfold lvE
def par(b:Bool)(x:List It):List It:=if b=true then .t (tS [40])::(x++[.t (tS [41])]) else x
def QkJ(ne:Bool)(k:Int):Tok:=
 if k=8 then tS [43] else if k=9 then tS [45] else if k=10 then tS [42] else if k=11 then tS [47] else if k=12 then tS [37]
 else if k=13 then tS [60] else if k=14 then tS [60,61] else if k=15 then (if ne=true then tS [33,61] else tS [61,61]) else if k=16 then tW QgU else tW kOr
def Qdw(lv:Nat):Nat:=if lv=4 then 5 else lv
mutual
def iB(fn:Int->List UInt8)(ne:Bool):Exp->List It
 |.mk k n s l=>
  if k=0 then [.t (tI n)]
  else if k=1 then [.t (tW (if n=0 then QbA else Qcf))]
  else if k=2 then [.t (tW (vn n))]
  else if k=3 then [.t (tW s)]
  else if k=4 then [.t (tW QbW),.t (tS [40]),.t (tT s),.t (tS [41])]
  else if k=5 then [.t (tW QcX),.t (tS [40]),.t (tT s),.t (tS [41])]
  else if k=6 then (match l with|[a]=>.t (tS [45])::par (decide (lvE a<7)) (iB fn false a)|_=>[])
  else if k=7 then (match l with|[a]=>if a.kind=15 then iB fn true a else .t (tW Qfn)::.s 32::par (decide (lvE a<3)) (iB fn false a)|_=>[])
  else if k=18 then (match l with|[c,a,b]=>.t (tW kIf)::.s 32::(iB fn false c++.s 32::.t (tW QbJ)::.s 32::(iB fn false a++.s 32::.t (tW QdP)::.s 32::iB fn false b))|_=>[])
  else if k=19 then (match l with|[a,b]=>.t (tW QeN)::.s 32::.t (tW (vn n))::.s 32::.t (tS [61])::.s 32::(iB fn false a++.s 32::.t (tW kIn)::.s 32::iB fn false b)|_=>[])
  else if k=20 then .t (tW (fn n))::.t (tS [40])::(iA fn l++[.t (tS [41])])
  else (match l with
   |[a,b]=>par (decide (lvE a<Qdw (lvE (.mk k n s [a,b])))) (iB fn false a)++.s 32::.t (QkJ ne k)::.s 32::par (decide (lvE b<lvE (.mk k n s [a,b])+1)) (iB fn false b)
   |_=>[])
def iA(fn:Int->List UInt8):List Exp->List It
 |[]=>[]
 |a::l=>iB fn false a++iT fn l
def iT(fn:Int->List UInt8):List Exp->List It
 |[]=>[]
 |a::l=>.t (tS [44])::.s 32::(iB fn false a++iT fn l)
end
theorem JM(fn:Int->List UInt8)(ne:Bool)(k n:Int)(s:List UInt8)(l:List Exp):iB fn ne (.mk k n s l)=(
  if k=0 then [.t (tI n)]
  else if k=1 then [.t (tW (if n=0 then QbA else Qcf))]
  else if k=2 then [.t (tW (vn n))]
  else if k=3 then [.t (tW s)]
  else if k=4 then [.t (tW QbW),.t (tS [40]),.t (tT s),.t (tS [41])]
  else if k=5 then [.t (tW QcX),.t (tS [40]),.t (tT s),.t (tS [41])]
  else if k=6 then (match l with|[a]=>.t (tS [45])::par (decide (lvE a<7)) (iB fn false a)|_=>[])
  else if k=7 then (match l with|[a]=>if a.kind=15 then iB fn true a else .t (tW Qfn)::.s 32::par (decide (lvE a<3)) (iB fn false a)|_=>[])
  else if k=18 then (match l with|[c,a,b]=>.t (tW kIf)::.s 32::(iB fn false c++.s 32::.t (tW QbJ)::.s 32::(iB fn false a++.s 32::.t (tW QdP)::.s 32::iB fn false b))|_=>[])
  else if k=19 then (match l with|[a,b]=>.t (tW QeN)::.s 32::.t (tW (vn n))::.s 32::.t (tS [61])::.s 32::(iB fn false a++.s 32::.t (tW kIn)::.s 32::iB fn false b)|_=>[])
  else if k=20 then .t (tW (fn n))::.t (tS [40])::(iA fn l++[.t (tS [41])])
  else (match l with
   |[a,b]=>par (decide (lvE a<Qdw (lvE (.mk k n s [a,b])))) (iB fn false a)++.s 32::.t (QkJ ne k)::.s 32::par (decide (lvE b<lvE (.mk k n s [a,b])+1)) (iB fn false b)
   |_=>[])):=by
 conv=>lhs;unfold iB
def iX(fn:Int->List UInt8)(lv:Nat)(e:Exp):List It:=par (decide (lvE e<lv)) (iB fn false e)
mutual
def sN(fn:Int->List UInt8):Exp->Nd
 |.mk k n s l=>if k=2 then .mk 2 0 (vn n) 0 (sL fn l) else if k=19 then .mk 19 0 (vn n) 0 (sL fn l) else if k=20 then .mk 20 0 (fn n) 0 (sL fn l) else .mk k n s 0 (sL fn l)
def sL(fn:Int->List UInt8):List Exp->List Nd
 |[]=>[]
 |a::l=>sN fn a::sL fn l
end
theorem Kn{k:Int}{s:List UInt8}{r:List Tok}(h:¬ ((hd r).kind=k/\(hd r).text=s)):acc k s r=none:=by unfold acc;rw[if_neg h]
theorem Jj{α β:Type}(a:α)(r:List Tok)(f:α->List Tok->PR β):(PR.ok a r).bind f=f a r:=rfl
def pl(lv:Nat):Md:=if lv=0 then .expr else if lv=4 then .cmp else if 8<=lv then .prim else .level lv
theorem VI{s:List UInt8}(h:Qar s=true):s≠QbA/\s≠Qcf/\s≠QbW/\s≠QcX/\s≠QeN/\s≠kIf/\s≠Qfn/\QaD s=none:=by
 unfold Qar at h
 cases s with
 |nil=>cases h
 |cons c r=>
  simp only[Bool.and_eq_true,Bool.not_eq_true',decide_eq_true_eq,Option.isNone_iff_eq_none]at h;have hk:¬ (c::r)∈[QgU,Qdk,QdX,Qaj,QdP,QbA,Qdj,kIf,kIn,Qgg,QbW,QeN,Qcg,QbV,Qfn,kOr,Qcx,QbJ,Qcf,QaR,QcX]:=of_decide_eq_false h.2;simp only[mem_cons,not_or]at hk;exact⟨hk.2.2.2.2.2.1,hk.2.2.2.2.2.2.2.2.2.2.2.2.2.2.2.2.2.2.1,hk.2.2.2.2.2.2.2.2.2.2.1,hk.2.2.2.2.2.2.2.2.2.2.2.2.2.2.2.2.2.2.2.2.1,hk.2.2.2.2.2.2.2.2.2.2.2.1,hk.2.2.2.2.2.2.2.1,hk.2.2.2.2.2.2.2.2.2.2.2.2.2.2.1,h.1.2⟩
theorem Qkh{P:Prop}(h:P:=by
  rw[Qbi]at h;simp only[Bool.and_eq_true,decide_eq_true_eq,beq_iff_eq]at h
  exact⟨h.1.1.1,h.1.1.2,h.1.2,h.2⟩):P:=h
theorem KL{pa:List Nat}{nv m:Nat}{k n:Int}{s:List UInt8}{l:List Exp}(h:Qbi pa nv m (.mk k n s l)=true) :
  1<=m/\Qal pa.length nv k n s=true/\l.length=QbG pa k n/\Qbl pa nv (m-1) k 0 l=true:=by
 exact Qkh
theorem KG{pa:List Nat}{nv m:Nat}{k:Int}{i:Nat}{a:Exp}{l:List Exp}(h:Qbl pa nv m k i (a::l)=true) :
  Qbi pa (if k=19/\i=1 then nv+1 else nv) m a=true/\Qbl pa nv m k (i+1) l=true:=by
 rw[Qbl]at h;simpa using h
theorem Vo{nf nv:Nat}{k n:Int}{s:List UInt8}(h:Qal nf nv k n s=true):0<=k/\k<21:=by
 unfold Qal at h;simp only[Bool.and_eq_true,decide_eq_true_eq]at h;exact⟨h.1.2,h.2⟩
theorem QdZ{pa:List Nat}{nv m:Nat}{k:Int}{i:Nat}{a:Exp}{l:List Exp}(h:Qbl pa nv m k i (a::l)=true)(hk:k≠19):Qbi pa nv m a=true/\Qbl pa nv m k (i+1) l=true:=by
 have:=KG h
 rwa [if_neg (fun h=>hk h.1)]at this
def big:Nat:=1000000000000000000
def bin(k:Int):Prop:=k=8\/k=9\/k=10\/k=11\/k=12\/k=13\/k=14\/k=15\/k=16\/k=17
theorem Jdn(fn:Int->List UInt8)(ne:Bool){k:Int}(hk:bin k)(n:Int)(s:List UInt8)(a b:Exp):iB fn ne (.mk k n s [a,b]) =
  par (decide (lvE a<Qdw (lvE (.mk k n s [a,b])))) (iB fn false a)++.s 32::.t (QkJ ne k)::.s 32::par (decide (lvE b<lvE (.mk k n s [a,b])+1)) (iB fn false b):=by
 rcases hk with rfl|rfl|rfl|rfl|rfl|rfl|rfl|rfl|rfl|rfl<;>(rw[JM];rfl)
theorem kinds{k:Int}(h:0<=k/\k<21):k=0\/k=1\/k=2\/k=3\/k=4\/k=5\/k=6\/k=7\/k=18\/k=19\/k=20\/bin k:=by
 unfold bin;omega
theorem Qjr{α:Type}{l:List α}(h:l.length=0):l=[]:=List.length_eq_zero_iff.1 h
theorem Qlr{α:Type}{l:List α}(h:l.length=1):∃ a,l=[a]:=List.length_eq_one_iff.1 h
theorem Qlq{α:Type}{l:List α}(h:l.length=2):∃ a b,l=[a,b]:=by
 match l,h with
 |[a,b],_=>exact⟨a,b,rfl⟩
theorem QmV{α:Type}{l:List α}(h:l.length=3):∃ a b c,l=[a,b,c]:=by
 match l,h with
 |[a,b,c],_=>exact⟨a,b,c,rfl⟩
theorem Jdo{pa:List Nat}{k n:Int}(h:bin k):QbG pa k n=2:=by
 rcases h with rfl|rfl|rfl|rfl|rfl|rfl|rfl|rfl|rfl|rfl<;>rfl
theorem QjV{P:Prop}(h:P:=by
  unfold Qal at h;simp only[Bool.and_eq_true]at h;have:=h.1.1.1
  simpa using this):P:=h
theorem JaX{nf nv:Nat}{n:Int}{s:List UInt8}(h:Qal nf nv 0 n s=true):0<=n/\n<=1125899906842624:=by
 exact QjV
theorem ZV{nf nv:Nat}{n:Int}{s:List UInt8}(h:Qal nf nv 1 n s=true):n=0\/n=1:=by
 exact QjV
theorem Ve{nf nv:Nat}{n:Int}{s:List UInt8}(h:Qal nf nv 2 n s=true):0<=n/\n<(nv:Int):=by
 exact QjV
theorem VK{nf nv:Nat}{n:Int}{s:List UInt8}(h:Qal nf nv 19 n s=true):n=(nv:Int):=by
 exact QjV
theorem K1{nf nv:Nat}{n:Int}{s:List UInt8}(h:Qal nf nv 20 n s=true):0<=n/\n<(nf:Int):=by
 exact QjV
theorem Qnb{P:Prop}(h:P:=by
  intro i l'
  induction l' generalizing i with
  |nil=>intro _ a ha;cases ha
  |cons x l' ih=>
   intro hx a ha;obtain⟨q1,q2⟩:=QdZ hx (by decide)
   rcases List.mem_cons.1 ha with rfl|ha
   ·exact q1
   ·exact ih _ q2 a ha):P:=h
def vars(nv:Nat):List (List UInt8):=(List.range nv).map fun (i:Nat)=>vn (i:Int)
theorem Jcn(fs vars:List (List UInt8)):QbE fs vars []=([],[]):=by rw[QbE]
theorem Jaq(fs vars:List (List UInt8))(a:Nd)(l:List Nd):QbE fs vars (a::l)=((Qcl fs vars a).1::(QbE fs vars l).1,(Qcl fs vars a).2++(QbE fs vars l).2):=by rw[QbE]
theorem ZW(fs vars:List (List UInt8))(k n:Int)(s:List UInt8)(o:Int)(l:List Nd):Qcl fs vars (.mk k n s o l) =
  (if k=2 then
   let r:=QbE fs vars l
   (.mk k (QaQ vars s) [] o r.1,(if QaQ vars s<0 then [o] else [])++r.2)
  else if k=20 then
   let r:=QbE fs vars l
   (.mk k ((Qai fs s).getD 0) [] o r.1,(if (Qai fs s).isNone then [o] else [])++r.2)
  else if k=19 then
   match l with
   |[a,b]=>
    let x:=Qcl fs vars a
    let y:=Qcl fs (vars++[s]) b
    (.mk k vars.length [] o [x.1,y.1],x.2++y.2)
   |l=>(.mk k n s o l,[])
  else
   let r:=QbE fs vars l
   (.mk k n s o r.1,r.2)):=by
 conv=>lhs;unfold Qcl
 rfl
def Qjq(t:Int):Tok:=tW (if t=1 then Qdk else Qgg)
def QkA(a:Int):Tok:=tW (QbQ a.toNat)
def fnF(r:Qaq)(n:Int):List UInt8:=(r.funcs.map (·.name)).getD n.toNat []
def iPt:Nat->List Int->List It
 |_,[]=>[]
 |i,t::l=>.t (tS [44])::.s 32::.t (tW (vn (i:Int)))::.t (tS [58])::.s 32::.t (Qjq t)::iPt (i+1) l
def iP:List Int->List It
 |[]=>[]
 |t::l=>.t (tW (vn 0))::.t (tS [58])::.s 32::.t (Qjq t)::iPt 1 l
def iF(fn:Int->List UInt8)(f:FnM):List It:=
 .t (tW QdX)::.s 32::.t (tW f.name)::.t (tS [40])::(iP f.params++.t (tS [41])::.t (tS [58])::.s 32::.t (Qjq f.result)::.s 32::.t (tS [61])::.s 32::(iB fn false f.body++[.s 10]))
def iC(fn:Int->List UInt8)(c:ClM):List It:=
 .t (tW QaR)::.s 32::(iB fn false c.cond++.s 32::.t (tW QbJ)::.s 32::.t (QkA c.action)::.s 32::.t (tT c.reason)::[.s 10])
def iFs(fn:Int->List UInt8):List FnM->List It
 |[]=>[]
 |f::l=>iF fn f++iFs fn l
def iCs(fn:Int->List UInt8):List ClM->List It
 |[]=>[]
 |c::l=>iC fn c++iCs fn l
def iR(r:Qaq):List It:=iFs (fnF r) r.funcs++(iCs (fnF r) r.clauses++[.t (tW Qaj),.s 32,.t (QkA r.action),.s 10])
def pn:Nat->List Int->List (List UInt8 × Int)
 |_,[]=>[]
 |i,_::l=>(vn (i:Int),0)::pn (i+1) l
def cS(fn:Int->List UInt8)(c:ClM):ClS:=⟨sN fn c.cond,c.action,c.reason⟩
structure QlM(fn:Int->List UInt8)(pa:List Nat)(f:FnM):Prop where
 name:Qar f.name=true
 types:f.params.all Qcb=true
 result:Qcb f.result=true
 few:f.params.length+40<=big
 fits:Qbi pa f.params.length 40 f.body=true
structure QlN(pa:List Nat)(c:ClM):Prop where
 act:QeU c.action=true
 fits:Qbi pa 0 40 c.cond=true
theorem Yw:∀ {l:List FnM} {seen:List (List UInt8)},QbM seen l=true->(∀ f∈l,Qar f.name=true/\Qcb f.result=true/\f.params.all Qcb=true/\f.name∉seen)/\(l.map (·.name)).Nodup
 |[],_,_=>⟨fun f hf=>(by cases hf),List.nodup_nil⟩
 |f::l,seen,h=>by
  rw[QbM]at h;simp only[Bool.and_eq_true,Bool.not_eq_true',decide_eq_false_iff_not]at h;obtain⟨⟨⟨⟨h1,h2⟩,h3⟩,h4⟩,h5⟩:=h;obtain⟨g1,g2⟩:=Yw h5;refine⟨fun x hx=>?_,?_⟩
  ·rcases List.mem_cons.1 hx with rfl|hx
   ·exact⟨h1,h3,h4,h2⟩
   ·obtain⟨a,b,c,d⟩:=g1 x hx;exact⟨a,b,c,fun hm=>d (by simp[hm])⟩
  ·rw[List.map_cons,List.nodup_cons];refine⟨fun hm=>?_,g2⟩;obtain⟨x,hx,e⟩:=List.mem_map.1 hm;exact(g1 x hx).2.2.2 (by simp[e])
def Qnd(r:Qaq):Prop:=∀ f∈r.funcs,f.params.length+40<=big
theorem KA{r:Qaq}(h:QcG r=true):QbM [] r.funcs=true/\Qjs r.clauses=true/\QeU r.action=true/\QcC r=true/\Qdu r=true:=by
 unfold QcG at h;simp only[Bool.and_eq_true]at h;exact⟨h.1.1.1.1,h.1.1.1.2,h.1.1.2,h.1.2,h.2⟩
theorem Jco{r:Qaq}(h:QcG r=true)(hw:Qnd r):(∀ x∈r.funcs,QlM (fnF r) r.pa x)/\∀ x∈r.clauses,QlN r.pa x:=by
 obtain⟨h1,h2,h3,h4,h5⟩:=KA h;obtain⟨g1,g2⟩:=Yw h1;unfold QcC at h4;rw[Bool.and_eq_true,all_eq_true,all_eq_true]at h4;unfold Qjs at h2;rw[all_eq_true]at h2;refine⟨fun x hx=>?_,fun x hx=>?_⟩
 ·obtain⟨a,b,c,_⟩:=g1 x hx;exact⟨a,c,b,hw x hx,h4.1 x hx⟩
 ·have:=h2 x hx;rw[Bool.and_eq_true]at this;exact⟨this.1,h4.2 x hx⟩
def QeV(s:List UInt8):Prop:=s.length<=24/\(∃ c r,s=c::r/\Qci c=true)/\∀ c∈s,QbB c=true
def Qes:List (List UInt8):=[[40],[41],[44],[58],[61],[60],[62],[43],[45],[42],[47],[37],[61,61],[33,61],[60,61],[62,61]]
def Tk1(t:Tok):Prop:=(∃ s,t=tW s/\QeV s)\/(∃ n,t=tI n/\0<=n/\n<=1125899906842624)\/(∃ s,t=tT s/\QcN s=true)\/∃ s,t=tS s/\s∈Qes
def QhZ(r:List UInt8):Prop:=r.head?.map QbB≠some true
def Nx(t:Tok)(r:List UInt8):Prop:=(t.kind=0\/t.kind=1->QhZ r)/\(t.kind=3->t.text=[61]\/t.text=[60]\/t.text=[62]->r.head?≠some 61)
theorem Jml{c:UInt8}(h:Qci c=true):Qcp c=false:=by
 cases hs:Qcp c with
 |false=>rfl
 |true=>rcases JbV hs with rfl|rfl|rfl|rfl<;>exact absurd h (by decide)
theorem JhD{s r:List UInt8}(h:QeV s)(hr:QhZ r):QaU (s++r)=some (tW s,s.length)/\∃ c q,s=c::q/\Qcp c=false:=by
 obtain⟨h1,⟨c,q,rfl,h2⟩,h3⟩:=h;refine⟨?_,c,q,rfl,Jml h2⟩;have hw:=Vz (w:=c::q) h3 hr;rw[cons_append]at hw |-;unfold QaU;simp only[h2,if_true,hw];rw[if_pos h1];rfl
theorem JjO{n:Int}{r:List UInt8}(h0:0<=n)(h1:n<=1125899906842624)(hr:QhZ r):QaU (itoa n++r)=some (tI n,(itoa n).length)/\∃ c q,itoa n=c::q/\Qcp c=false:=by
 have hi:itoa n=decDigits n.toNat:=by
  rcases V6 n with h|h
  ·exact h.2
  ·omega
 cases hd:decDigits n.toNat with
 |nil=>exact absurd hd (V5 _)
 |cons c q=>
  have hall:=JbT n.toNat;rw[hd]at hall;obtain⟨w1,w2,w3,w4⟩:=JiU (hall c (by simp));rw[hi,hd];refine⟨?_,c,q,rfl,w4⟩;have hw:=Vz (w:=c::q) (fun x hx=>(JiU (hall x hx)).1) hr;rw[cons_append]at hw |-;unfold QaU;simp only[w2,w3,hw];have hp:QaE (c::q) 0 1125899906842624=some n:=Jhp (by rw[hi,hd]) ⟨by omega,by omega⟩ h0 h1;rw[hp];rfl
theorem Jek:∀ (w:List UInt8) (f:Nat) (r:List UInt8),(∀ c∈w,QfC c=true)->w.length+1<=f->Qax f (w++34::r)=some w:=by
 intro w f r h hf;refine Jeb f (w++[34]) w r ?_;rw[JbY w f h,if_pos hf]
theorem ZZ{s:List UInt8}(h:QcN s=true):(∀ c∈s,QfC c=true)/\s.length<=24:=by
 unfold QcN at h;rw[Bool.and_eq_true,decide_eq_true_eq,all_eq_true]at h;exact⟨fun c hc=>h.1 c hc,h.2⟩
theorem Jfs{s r:List UInt8}(h:QcN s=true):QaU (34::(s++[34])++r)=some (tT s,(34::(s++[34])).length):=by
 obtain⟨h1,h2⟩:=ZZ h;have ht:=Jek s 25 r h1 (by omega);rw[show 34::(s++[34])++r=34::(s++34::r) by simp];unfold QaU;simp only;rw[if_neg (by decide),if_neg (by decide),if_pos trivial,ht];simp[tT]
theorem JhE{c:UInt8}(hc:c∈QaF)(h:c≠33){r:List UInt8}(hr:c=61\/c=60\/c=62->r.head?≠some 61):Qat (c::r)=[c]:=by
 unfold Qat;rw[if_neg,if_neg (by simp),if_pos (show (c::r).headD 0∈QaF from hc)]
 ·rfl
 ·intro hm;rw[QjC]at hm
  cases r with
  |nil=>simp[Qco]at hm
  |cons d r=>
   simp only[Qco,List.head?_cons,Option.toList,mem_cons,List.not_mem_nil,or_false,List.cons.injEq,and_true]at hm hr
   rcases hm with⟨rfl,rfl⟩|⟨rfl,rfl⟩|⟨rfl,rfl⟩|⟨rfl,rfl⟩
   ·exact hr (.inl rfl) rfl
   ·exact h rfl
   ·exact hr (.inr (.inl rfl)) rfl
   ·exact hr (.inr (.inr rfl)) rfl
theorem Yx{a b:UInt8}(h:[a,b]∈Qco)(r:List UInt8):Qat (a::b::r)=[a,b]:=by
 unfold Qat;rw[show (a::b::r).take 2=[a,b] from rfl,if_pos h]
theorem JjP{s r:List UInt8}(hs:s∈Qes)(hr:s=[61]\/s=[60]\/s=[62]->r.head?≠some 61):QaU (s++r)=some (tS s,s.length)/\∃ c q,s=c::q/\Qcp c=false:=by
 have key:∀ (c:UInt8) (q:List UInt8),Qci c=false->Qdy c=false->c≠34->Qcp c=false->Qat (c::q++r)=c::q->QaU (c::q++r)=some (tS (c::q),(c::q).length)/\∃ c' q',c::q=c'::q'/\Qcp c'=false:=by
  intro c q h1 h2 h3 h4 h5;refine⟨?_,c,q,rfl,h4⟩;rw[cons_append]at h5 |-;unfold QaU;simp only;rw[if_neg (by rw[h1];decide),if_neg (by rw[h2];decide),if_neg h3,h5,if_neg (by simp)];rfl
 simp only[Qes,mem_cons,List.not_mem_nil,or_false]at hs;have one:∀ c:UInt8,c∈QaF->c≠33->(c=61\/c=60\/c=62->r.head?≠some 61)->Qat ([c]++r)=[c]:=fun c h1 h2 h3=>JhE h1 h2 h3
 have none':∀ c:UInt8,¬ (c=61\/c=60\/c=62)->(c=61\/c=60\/c=62->r.head?≠some 61):=fun c h h'=>absurd h' h
 rcases hs with rfl|rfl|rfl|rfl|rfl|rfl|rfl|rfl|rfl|rfl|rfl|rfl|rfl|rfl|rfl|rfl
 ·exact key 40 [] (by decide) (by decide) (by decide) (by decide) (one 40 (by decide) (by decide) (none' 40 (by decide)))
 ·exact key 41 [] (by decide) (by decide) (by decide) (by decide) (one 41 (by decide) (by decide) (none' 41 (by decide)))
 ·exact key 44 [] (by decide) (by decide) (by decide) (by decide) (one 44 (by decide) (by decide) (none' 44 (by decide)))
 ·exact key 58 [] (by decide) (by decide) (by decide) (by decide) (one 58 (by decide) (by decide) (none' 58 (by decide)))
 ·exact key 61 [] (by decide) (by decide) (by decide) (by decide) (one 61 (by decide) (by decide) fun _=>hr (by decide))
 ·exact key 60 [] (by decide) (by decide) (by decide) (by decide) (one 60 (by decide) (by decide) fun _=>hr (by decide))
 ·exact key 62 [] (by decide) (by decide) (by decide) (by decide) (one 62 (by decide) (by decide) fun _=>hr (by decide))
 ·exact key 43 [] (by decide) (by decide) (by decide) (by decide) (one 43 (by decide) (by decide) (none' 43 (by decide)))
 ·exact key 45 [] (by decide) (by decide) (by decide) (by decide) (one 45 (by decide) (by decide) (none' 45 (by decide)))
 ·exact key 42 [] (by decide) (by decide) (by decide) (by decide) (one 42 (by decide) (by decide) (none' 42 (by decide)))
 ·exact key 47 [] (by decide) (by decide) (by decide) (by decide) (one 47 (by decide) (by decide) (none' 47 (by decide)))
 ·exact key 37 [] (by decide) (by decide) (by decide) (by decide) (one 37 (by decide) (by decide) (none' 37 (by decide)))
 ·exact key 61 [61] (by decide) (by decide) (by decide) (by decide) (Yx (by decide) r)
 ·exact key 33 [61] (by decide) (by decide) (by decide) (by decide) (Yx (by decide) r)
 ·exact key 60 [61] (by decide) (by decide) (by decide) (by decide) (Yx (by decide) r)
 ·exact key 62 [61] (by decide) (by decide) (by decide) (by decide) (Yx (by decide) r)
theorem Jlo{t:Tok}{r:List UInt8}(h:Tk1 t)(hr:Nx t r):QaU (wr t++r)=some (t,(wr t).length)/\(∃ c q,wr t=c::q/\Qcp c=false)/\t.off=0:=by
 rcases h with⟨s,rfl,h⟩|⟨n,rfl,h0,h1⟩|⟨s,rfl,h⟩|⟨s,rfl,h⟩
 ·have:=JhD h (hr.1 (.inl rfl));exact⟨this.1,this.2,rfl⟩
 ·have:=JjO h0 h1 (hr.1 (.inr rfl));exact⟨this.1,this.2,rfl⟩
 ·exact⟨Jfs h,⟨34,_,rfl,by decide⟩,rfl⟩
 ·have:=JjP h (hr.2 rfl);exact⟨this.1,this.2,rfl⟩
def Ch:List It->Prop
 |[]=>True
 |.s c::l=>Qcp c=true/\Ch l
 |.t x::l=>Tk1 x/\Nx x (Qae l)/\Ch l
theorem Jcp:∀ (l:List It) (k:Nat),Ch l->∃ us,sc k (Qae l)=.ok us/\us.map er=tk l++[QdS]
 |[],k,_=>⟨_,Jdf k,rfl⟩
 |.s c::l,k,h=>by
  rw[Ch]at h;obtain⟨us,h1,h2⟩:=Jcp l (k+1) h.2;exact⟨us,by rw[show Qae (.s c::l)=c::Qae l from rfl,Jhr k _ h.1,h1],h2⟩
 |.t x::l,k,h=>by
  rw[Ch]at h;obtain⟨ht,⟨c,q,hc,hs⟩,ho⟩:=Jlo h.1 h.2.1;obtain⟨us,h1,h2⟩:=Jcp l (k+(wr x).length) h.2.2;have e:Qae (.t x::l)=wr x++Qae l:=rfl;refine⟨{ x with off:=(k:Int) }::us,?_,?_⟩
  ·rw[e];rw[hc,cons_append]at ht |-;rw[Jak k _ hs ht,<- cons_append,List.drop_left' rfl];rw[hc]at h1;rw[h1];rfl
  ·rw[List.map_cons,h2,Qlf];obtain⟨a,b,d,o⟩:=x;simp only at ho;subst ho;rfl
theorem JV{c:UInt8}(h:Qcp c=true)(l:List It):QhZ (Qae (.s c::l)):=by
 change Option.map QbB (some c)≠some true;simp[JeR h]
theorem JY{s:List UInt8}(h:s∈Qes)(l:List It):QhZ (Qae (.t (tS s)::l)):=by
 have:∃ c q,s=c::q/\QbB c=false:=by
  simp only[Qes,mem_cons,List.not_mem_nil,or_false]at h
  rcases h with rfl|rfl|rfl|rfl|rfl|rfl|rfl|rfl|rfl|rfl|rfl|rfl|rfl|rfl|rfl|rfl<;>exact⟨_,_,rfl,by decide⟩
 obtain⟨c,q,rfl,hc⟩:=this;change Option.map QbB (some c)≠some true;simp[hc]
theorem KB{l:List It}(h:Ch l):Ch (.s 32::l):=by rw[Ch];exact⟨by decide,h⟩
theorem JD{s:List UInt8}{l:List It}(hs:QeV s)(h:Ch l)(hl:QhZ (Qae l)):Ch (.t (tW s)::l):=by
 rw[Ch];exact⟨.inl ⟨s,rfl,hs⟩,⟨fun _=>hl,fun h=>absurd h (by change ¬ (0:Int)=3;decide)⟩,h⟩
theorem Jcq{s:List UInt8}{l:List It}(hs:QcN s=true)(h:Ch l):Ch (.t (tT s)::l):=by
 rw[Ch];exact⟨.inr (.inr (.inl ⟨s,rfl,hs⟩)),⟨fun h=>absurd h (by change ¬ ((2:Int)=0\/(2:Int)=1);decide),fun h=>absurd h (by change ¬ (2:Int)=3;decide)⟩,h⟩
theorem Jft{s:List UInt8}{l:List It}(hs:s∈Qes)(h:Ch l)(hl:s=[61]\/s=[60]\/s=[62]->(Qae l).head?≠some 61):Ch (.t (tS s)::l):=by
 rw[Ch];exact⟨.inr (.inr (.inr ⟨s,rfl,hs⟩)),⟨fun h=>absurd h (by change ¬ ((3:Int)=0\/(3:Int)=1);decide),fun _=>hl⟩,h⟩
theorem KE{s:List UInt8}{l:List It}(hs:s∈Qes)(h:Ch l)(hl:¬ (s=[61]\/s=[60]\/s=[62])):Ch (.t (tS s)::l):=Jft hs h fun h=>absurd h hl
theorem Kh{s:List UInt8}(h:Qar s=true):QeV s:=by
 unfold Qar at h
 cases s with
 |nil=>cases h
 |cons c r=>
  simp only[Bool.and_eq_true,decide_eq_true_eq,all_eq_true]at h;exact⟨h.1.1.1.1,⟨c,r,rfl,h.1.1.1.2⟩,fun x hx=>h.1.1.2 x hx⟩
def QjA(s:List UInt8):Bool:=decide (s.length<=24)&&(match s with|c::_=>Qci c|[]=>false)&&s.all QbB
theorem J6{s:List UInt8}(h:QjA s=true):QeV s:=by
 unfold QjA at h
 cases s with
 |nil=>simp at h
 |cons c r=>
  simp only[Bool.and_eq_true,decide_eq_true_eq,all_eq_true]at h;exact⟨h.1.1,⟨c,r,rfl,h.1.2⟩,fun x hx=>h.2 x hx⟩
def QdG(r:Qaq):List UInt8:=if QcG r=true then Qae (iR r) else []
end Go.Proofs.YtdlkcjkjnehnkaaGreatDoor
