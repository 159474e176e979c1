import Derived.Test.YtfafpklefknomaaGreatDoorR03
import Derived.Test.YtfafpklefknomaaGreatDoorR11
open List(map_nil sum_nil)
namespace Go.Proofs.YtfafpklefknomaaGreatDoor
open _root_.Go.Proofs.Tryz
set_option linter.all false
set_option maxRecDepth 100000
set_option maxHeartbeats 32000000
def Je{α β:Type}{x:PR α}{f:α->List Tok->PR β}{b:β}{r:List Tok}(h:x.bind f=.ok b r):∃a r1,x=.ok a r1/\f a r1=.ok b r:=by
 cases x with
 |out=>cases h
 |bad o=>cases h
 |ok a r1=>exact⟨a,r1,rfl,h⟩
def Jn{α β:Type}{x:PR α}{f:α->List Tok->PR β}(h:x.bind f=.out):x=.out\/∃a r1,x=.ok a r1/\f a r1=.out:=by
 cases x with
 |out=>exact .inl rfl
 |bad o=>cases h
 |ok a r1=>exact .inr ⟨a,r1,rfl,h⟩
def Jr{k:Int}{s:By}{r r':List Tok}(hk:k≠4)(h:acc k s r=some r'):r'.length+1=r.length:=by
 unfold acc at h;split at h
 ·rename_i h1;injection h with h;subst h
  cases r with
  |nil=>exact absurd h1.1.symm hk
  |cons a l=>rfl
 ·cases h
def Jo{k:Int}{s:By}{r r':List Tok}{u:Unit}(hk:k≠4)(h:Qar k s r=.ok u r'):r'.length+1=r.length:=by
 unfold Qar at h;split at h
 ·rename_i h1;injection h with _ h;subst h;exact Jr hk h1
 ·cases h
def JB{k:Int}{s:By}{r:List Tok}:Qar k s r≠.out:=by
 unfold Qar;split<;>simp
def JY{r r':List Tok}{nm:By × Int}(h:Qbb r=.ok nm r'):r'.length+1=r.length:=by
 unfold Qbb at h;split at h
 ·rename_i h1;injection h with _ h;subst h
  cases r with
  |nil=>exact absurd h1.1 zp
  |cons a l=>rfl
 ·cases h
def K2{r:List Tok}:Qbb r≠.out:=by
 unfold Qbb;split<;>simp
def ZM{r r':List Tok}{s:By}(h:Qct r=.ok s r'):r'.length+1=r.length:=by
 unfold Qct at h;split at h
 ·rename_i h1;injection h with _ h;subst h
  cases r with
  |nil=>exact absurd h1 zp
  |cons a l=>rfl
 ·cases h
def ZN{r:List Tok}:Qct r≠.out:=by
 unfold Qct;split<;>simp
def ZO{r r':List Tok}{s:By}(h:QaL r=.ok s r'):r'.length<=r.length:=by
 unfold QaL at h;obtain⟨_,r1,h1,h⟩:=Je h;obtain⟨_,r2,h2,h⟩:=Je h;obtain⟨_,r3,h3,h⟩:=Je h;injection h with _ h;subst h;have:=Jo zp h1;have:=ZM h2;have:=Jo zp h3;omega
def Yl{r:List Tok}:QaL r≠.out:=by
 intro h;unfold QaL at h
 rcases Jn h with h|⟨_,r1,h1,h⟩
 ·exact JB h
 rcases Jn h with h|⟨_,r2,h2,h⟩
 ·exact ZN h
 rcases Jn h with h|⟨_,r3,h3,h⟩
 ·exact JB h
 cases h
def VQ{r r':List Tok}{t:Int}(h:Qdu r=.ok t r'):r'.length+1=r.length:=by
 unfold Qdu at h;split at h
 ·rename_i h1;injection h with _ h;subst h;exact Jr zp h1
 ·split at h
  ·rename_i h1;injection h with _ h;subst h;exact Jr zp h1
  ·cases h
def JaF{r:List Tok}:Qdu r≠.out:=by
 unfold Qdu
 repeat' split
 all_goals simp
def JeG{r r':List Tok}{t:Int}(h:Qdg r=.ok t r'):r'.length+1=r.length:=by
 unfold Qdg at h;split at h
 ·rename_i r1 h1;injection h with _ h;subst h;exact Jr zp h1
 split at h
 ·rename_i r1 h1;injection h with _ h;subst h;exact Jr zp h1
 split at h
 ·rename_i r1 h1;injection h with _ h;subst h;exact Jr zp h1
 split at h
 ·rename_i r1 h1;injection h with _ h;subst h;exact Jr zp h1
 ·cases h
def JaG{r:List Tok}:Qdg r≠.out:=by
 unfold Qdg
 repeat' split
 all_goals simp
def Zl(r:List Tok):r.tail.length<=r.length:=zq
theorem Qhs{P:Prop}(h:P:=by
  obtain⟨_,r2,h2,h⟩:=Je h;injection h with _ h;subst h;have:=Jr (by decide) h1;have:=J8 f _ _ _ _ h2
  omega):P:=h
theorem Qhm{P:Prop}(h:P:=by
  have:=Jo (by decide) h3;have:=J8 f _ _ _ _ h4;have:=Jo (by decide) h5;have:=J8 f _ _ _ _ h6
  omega):P:=h
theorem Qhl{P:Prop}(h:P:=by
  obtain⟨_,r2,h2,h⟩:=Je h;injection h with _ h;subst h;have:=Jr (by decide) h1;have:=ZO h2
  omega):P:=h
def J8:∀(f:Nat) (md:Md) (r r':List Tok) (a:Nd),pM f md r=.ok a r'->r'.length<=r.length
 |0,md,r,r',a,h=>by unfold pM at h;cases h
 |f+1,.expr,r,r',a,h=>by
  rw[pM]at h;split at h
  ·rename_i r1 h1;obtain⟨_,r2,h2,h⟩:=Je h;obtain⟨_,r3,h3,h⟩:=Je h;obtain⟨_,r4,h4,h⟩:=Je h;obtain⟨_,r5,h5,h⟩:=Je h;obtain⟨_,r6,h6,h⟩:=Je h;injection h with _ h;subst h;have:=Jr zp h1;have:=JY h2;exact Qhm
  ·split at h
   ·rename_i r1 h1;obtain⟨_,r2,h2,h⟩:=Je h;obtain⟨_,r3,h3,h⟩:=Je h;obtain⟨_,r4,h4,h⟩:=Je h;obtain⟨_,r5,h5,h⟩:=Je h;obtain⟨_,r6,h6,h⟩:=Je h;injection h with _ h;subst h;have:=Jr zp h1;have:=J8 f _ _ _ _ h2;exact Qhm
   ·exact J8 f _ _ _ _ h
 |f+1,.level lv,r,r',a,h=>by
  rw[pM]at h;split at h
  ·split at h
   ·rename_i r1 h1;exact Qhs
   ·exact J8 f _ _ _ _ h
  ·split at h
   ·split at h
    ·rename_i r1 h1;exact Qhs
    ·exact J8 f _ _ _ _ h
   ·obtain⟨_,r1,h1,h⟩:=Je h;have:=J8 f _ _ _ _ h1;have:=J8 f _ _ _ _ h;omega
 |f+1,.loop lv o b,r,r',a,h=>by
  rw[pM]at h;split at h
  ·injection h with _ h;subst h;exact Nat.le_refl _
  ·obtain⟨_,r1,h1,h⟩:=Je h;have:=J8 f _ _ _ _ h1;have:=J8 f _ _ _ _ h;have:=Zl r;omega
 |f+1,.cmp,r,r',a,h=>by
  rw[pM]at h;obtain⟨_,r1,h1,h⟩:=Je h;have:=J8 f _ _ _ _ h1;split at h
  ·injection h with _ h;subst h;exact this
  ·obtain⟨_,r2,h2,h⟩:=Je h;have:=J8 f _ _ _ _ h2;have:=Zl r1;injection h with _ h;subst h;omega
 |f+1,.prim,r,r',a,h=>by
  rw[pM]at h;split at h
  ·injection h with _ h;subst h;exact Zl r
  split at h
  ·rename_i r1 h1;obtain⟨_,r2,h2,h⟩:=Je h;obtain⟨_,r3,h3,h⟩:=Je h;injection h with _ h;subst h;have:=Jr zp h1;have:=J8 f _ _ _ _ h2;have:=Jo zp h3;omega
  split at h
  ·rename_i r1 h1;injection h with _ h;subst h;have:=Jr zp h1;omega
  split at h
  ·rename_i r1 h1;injection h with _ h;subst h;have:=Jr zp h1;omega
  split at h
  ·rename_i r1 h1;exact Qhl
  split at h
  ·rename_i r1 h1;exact Qhl
  split at h
  ·injection h with _ h;subst h;exact Zl r
  ·exact J8 f _ _ _ _ h
 |f+1,.named,r,r',a,h=>by
  rw[pM]at h;obtain⟨nm,r1,h1,h⟩:=Je h;have:=JY h1;split at h
  ·injection h with _ h;subst h;omega
  ·rename_i r2 h2;have:=Jr zp h2;split at h
   ·rename_i r3 h3;have:=Jr zp h3;injection h with _ h;subst h;omega
   ·have:=J8 f _ _ _ _ h;omega
 |f+1,.args nm o l,r,r',a,h=>by
  rw[pM]at h;obtain⟨_,r1,h1,h⟩:=Je h;have:=J8 f _ _ _ _ h1;split at h
  ·rename_i r2 h2;have:=Jr zp h2;have:=J8 f _ _ _ _ h;omega
  ·obtain⟨_,r2,h2,h⟩:=Je h;have:=Jo zp h2;injection h with _ h;subst h;omega
def Qbu:Md->Nat
 |.expr=>10
 |.level lv=>10-lv
 |.loop _ _ _=>1
 |.cmp=>6
 |.prim=>2
 |.named=>1
 |.args _ _ _=>11
def Qdx:Md->Prop
 |.level lv=>1<=lv/\lv<=7/\lv≠4
 |.loop lv _ _=>lv=1\/lv=2\/lv=5\/lv=6
 |_=>True
def Jha{lv:Nat}{r:List Tok}{k:Int}(h:opK lv (hd r)=some k):r.tail.length+1=r.length:=by
 cases r with
 |nil=>simp[opK,hd,Qfy]at h
 |cons a l=>rfl
def JeH{r:List Tok}{k:Int}(h:Qeh (hd r)=some k):r.tail.length+1=r.length:=by
 cases r with
 |nil=>simp[Qeh,hd,Qfy]at h
 |cons a l=>rfl
theorem QjQ{P:Prop}(h:P:=by
  rcases Jn h with h|⟨_,r3,h3,h⟩
  ·exact JB h
  have:=Jo (by decide) h3
  rcases Jn h with h|⟨_,r4,h4,h⟩
  ·exact J4 f .expr r3 trivial (by simp only[Qbu];omega) h
  have:=J8 f _ _ _ _ h4
  rcases Jn h with h|⟨_,r5,h5,h⟩
  ·exact JB h
  have:=Jo (by decide) h5
  rcases Jn h with h|⟨_,r6,h6,h⟩
  ·exact J4 f .expr r5 trivial (by simp only[Qbu];omega) h
  cases h):P:=h
def J4:∀(f:Nat) (md:Md) (r:List Tok),Qdx md->12*r.length+Qbu md<=f->pM f md r≠.out
 |0,md,r,hg,hf=>by
  exfalso
  cases md<;>simp[Qbu,Qdx]at hf hg
  omega
 |f+1,.expr,r,hg,hf=>by
  intro h;simp only[Qbu]at hf;rw[pM]at h;split at h
  ·rename_i r1 h1;have:=Jr zp h1
   rcases Jn h with h|⟨_,r2,h2,h⟩
   ·exact K2 h
   have:=JY h2;exact QjQ
  ·split at h
   ·rename_i r1 h1;have:=Jr zp h1
    rcases Jn h with h|⟨_,r2,h2,h⟩
    ·exact J4 f .expr r1 trivial (by simp only[Qbu];omega) h
    have:=J8 f _ _ _ _ h2;exact QjQ
   ·exact J4 f (.level 1) r (by simp only[Qdx];omega) (by simp only[Qbu];omega) h
 |f+1,.level lv,r,hg,hf=>by
  intro h;simp only[Qbu,Qdx]at hf hg;rw[pM]at h;split at h
  ·rename_i h3;subst h3;split at h
   ·rename_i r1 h1;have:=Jr zp h1
    rcases Jn h with h|⟨_,r2,h2,h⟩
    ·exact J4 f (.level 3) r1 (by simp only[Qdx];omega) (by simp only[Qbu];omega) h
    cases h
   ·exact J4 f .cmp r trivial (by simp only[Qbu];omega) h
  ·split at h
   ·rename_i h7;subst h7;split at h
    ·rename_i r1 h1;have:=Jr zp h1
     rcases Jn h with h|⟨_,r2,h2,h⟩
     ·exact J4 f (.level 7) r1 (by simp only[Qdx];omega) (by simp only[Qbu];omega) h
     cases h
    ·exact J4 f .prim r trivial (by simp only[Qbu];omega) h
   ·rcases Jn h with h|⟨_,r1,h1,h⟩
    ·exact J4 f (.level (lv+1)) r (by simp only[Qdx];omega) (by simp only[Qbu];omega) h
    have:=J8 f _ _ _ _ h1;exact J4 f (.loop lv _ _) r1 (by simp only[Qdx];omega) (by simp only[Qbu];omega) h
 |f+1,.loop lv o b,r,hg,hf=>by
  intro h;simp only[Qbu,Qdx]at hf hg;rw[pM]at h;split at h
  ·cases h
  ·rename_i k hk;have:=Jha hk
   rcases Jn h with h|⟨_,r1,h1,h⟩
   ·exact J4 f (.level (lv+1)) r.tail (by simp only[Qdx];omega) (by simp only[Qbu];omega) h
   have:=J8 f _ _ _ _ h1;exact J4 f (.loop lv _ _) r1 hg (by simp only[Qbu];omega) h
 |f+1,.cmp,r,hg,hf=>by
  intro h;simp only[Qbu]at hf;rw[pM]at h
  rcases Jn h with h|⟨_,r1,h1,h⟩
  ·exact J4 f (.level 5) r (by simp only[Qdx];omega) (by simp only[Qbu];omega) h
  have:=J8 f _ _ _ _ h1;split at h
  ·cases h
  ·rename_i k hk;have:=JeH hk
   rcases Jn h with h|⟨_,r2,h2,h⟩
   ·exact J4 f (.level 5) r1.tail (by simp only[Qdx];omega) (by simp only[Qbu];omega) h
   cases h
 |f+1,.prim,r,hg,hf=>by
  intro h;simp only[Qbu]at hf;rw[pM]at h;split at h
  ·cases h
  split at h
  ·rename_i r1 h1;have:=Jr zp h1
   rcases Jn h with h|⟨_,r2,h2,h⟩
   ·exact J4 f .expr r1 trivial (by simp only[Qbu];omega) h
   rcases Jn h with h|⟨_,r3,h3,h⟩
   ·exact JB h
   cases h
  split at h
  ·cases h
  split at h
  ·cases h
  split at h
  ·rcases Jn h with h|⟨_,r2,h2,h⟩
   ·exact Yl h
   cases h
  split at h
  ·rcases Jn h with h|⟨_,r2,h2,h⟩
   ·exact Yl h
   cases h
  split at h
  ·cases h
  ·exact J4 f .named r trivial (by simp only[Qbu];omega) h
 |f+1,.named,r,hg,hf=>by
  intro h;simp only[Qbu]at hf;rw[pM]at h
  rcases Jn h with h|⟨nm,r1,h1,h⟩
  ·exact K2 h
  have:=JY h1;split at h
  ·cases h
  ·rename_i r2 h2;have:=Jr zp h2;split at h
   ·cases h
   ·exact J4 f (.args _ _ _) r2 trivial (by simp only[Qbu];omega) h
 |f+1,.args nm o l,r,hg,hf=>by
  intro h;simp only[Qbu]at hf;rw[pM]at h
  rcases Jn h with h|⟨_,r1,h1,h⟩
  ·exact J4 f .expr r trivial (by simp only[Qbu];omega) h
  have:=J8 f _ _ _ _ h1;split at h
  ·rename_i r2 h2;have:=Jr zp h2;exact J4 f (.args _ _ _) r2 trivial (by simp only[Qbu];omega) h
  ·rcases Jn h with h|⟨_,r2,h2,h⟩
   ·exact JB h
   cases h
def ZP:∀(f:Nat) (ps:List (By × Int)) (ts:List Int) (r r':List Tok) a,QaQ f ps ts r=.ok a r'->r'.length<=r.length
 |0,_,_,_,_,_,h=>by cases h
 |f+1,ps,ts,r,r',a,h=>by
  rw[QaQ]at h;obtain⟨_,r1,h1,h⟩:=Je h;obtain⟨_,r2,h2,h⟩:=Je h;obtain⟨_,r3,h3,h⟩:=Je h;have:=JY h1;have:=Jo zp h2;have:=VQ h3;split at h
  ·rename_i r4 h4;have:=Jr zp h4;have:=ZP f _ _ _ _ _ h;omega
  ·obtain⟨_,r4,h4,h⟩:=Je h;have:=Jo zp h4;injection h with _ h;subst h;omega
def Y7:∀(f:Nat) (ps:List (By × Int)) (ts:List Int) (r:List Tok),r.length+1<=f->QaQ f ps ts r≠.out
 |0,_,_,r,hf=>by omega
 |f+1,ps,ts,r,hf=>by
  intro h;rw[QaQ]at h
  rcases Jn h with h|⟨_,r1,h1,h⟩
  ·exact K2 h
  rcases Jn h with h|⟨_,r2,h2,h⟩
  ·exact JB h
  rcases Jn h with h|⟨_,r3,h3,h⟩
  ·exact JaF h
  have:=JY h1;have:=Jo zp h2;have:=VQ h3;split at h
  ·rename_i r4 h4;have:=Jr zp h4;exact Y7 f _ _ _ zo h
  ·rcases Jn h with h|⟨_,r4,h4,h⟩
   ·exact JB h
   cases h
theorem Qhy{P:Prop}(h:P:=by
  split at h3
  ·rename_i r9 h9;have:=Jr (by decide) h9;injection h3 with _ h3;subst h3;omega
  ·exact ZP _ _ _ _ _ _ h3):P:=h
def JeI{f:Nat}{r r':List Tok}{x:FnS}(h:Qeg f r=.ok x r'):r'.length+1<=r.length:=by
 unfold Qeg at h;obtain⟨_,r1,h1,h⟩:=Je h;obtain⟨_,r2,h2,h⟩:=Je h;obtain⟨_,r3,h3,h⟩:=Je h;obtain⟨_,r4,h4,h⟩:=Je h;obtain⟨_,r5,h5,h⟩:=Je h;obtain⟨_,r6,h6,h⟩:=Je h;obtain⟨_,r7,h7,h⟩:=Je h;injection h with _ h;subst h;have:=JY h1;have:=Jo zp h2
 have:r3.length<=r2.length:=by
  exact Qhy
 have:=Jo zp h4;have:=VQ h5;have:=Jo zp h6;have:=J8 _ _ _ _ _ h7;omega
def Jhb{f:Nat}{r:List Tok}(hf:12*r.length+12<=f):Qeg f r≠.out:=by
 intro h;unfold Qeg at h
 rcases Jn h with h|⟨_,r1,h1,h⟩
 ·exact K2 h
 have:=JY h1
 rcases Jn h with h|⟨_,r2,h2,h⟩
 ·exact JB h
 have:=Jo zp h2
 rcases Jn h with h|⟨_,r3,h3,h⟩
 ·split at h
  ·cases h
  ·exact Y7 _ _ _ _ zo h
 have:r3.length<=r2.length:=by
  exact Qhy
 rcases Jn h with h|⟨_,r4,h4,h⟩
 ·exact JB h
 have:=Jo zp h4
 rcases Jn h with h|⟨_,r5,h5,h⟩
 ·exact JaF h
 have:=VQ h5
 rcases Jn h with h|⟨_,r6,h6,h⟩
 ·exact JB h
 have:=Jo zp h6
 rcases Jn h with h|⟨_,r7,h7,h⟩
 ·exact J4 _ .expr _ trivial (by simp only[Qbu];omega) h
 cases h
def Jcq(g:Nat):∀(f:Nat) (l:List FnS) (r r':List Tok) a,QcF g f l r=.ok a r'->r'.length<=r.length
 |0,_,_,_,_,h=>by cases h
 |f+1,l,r,r',a,h=>by
  rw[QcF]at h;split at h
  ·rename_i r1 h1;have:=Jr zp h1;obtain⟨_,r2,h2,h⟩:=Je h;have:=JeI h2;have:=Jcq g f _ _ _ _ h;omega
  ·injection h with _ h;subst h;exact Nat.le_refl _
def JaH(g:Nat):∀(f:Nat) (l:List FnS) (r:List Tok),12*r.length+12<=g->r.length+1<=f->QcF g f l r≠.out
 |0,_,_,_,hf=>by omega
 |f+1,l,r,hg,hf=>by
  intro h;rw[QcF]at h;split at h
  ·rename_i r1 h1;have:=Jr zp h1
   rcases Jn h with h|⟨_,r2,h2,h⟩
   ·exact Jhb zo h
   have:=JeI h2;exact JaH g f _ _ zo zo h
  ·cases h
def Ym(g:Nat):∀(f:Nat) (l:List ClS) (r:List Tok),12*r.length+12<=g->r.length+1<=f->QaP g f l r≠.out
 |0,_,_,_,hf=>by omega
 |f+1,l,r,hg,hf=>by
  intro h;rw[QaP]at h;split at h
  ·rename_i r1 h1;have:=Jr zp h1
   rcases Jn h with h|⟨_,r2,h2,h⟩
   ·exact J4 _ .expr _ trivial (by simp only[Qbu];omega) h
   have:=J8 _ _ _ _ _ h2
   rcases Jn h with h|⟨_,r3,h3,h⟩
   ·exact JB h
   have:=Jo zp h3
   rcases Jn h with h|⟨_,r4,h4,h⟩
   ·exact JaG h
   have:=JeG h4
   rcases Jn h with h|⟨_,r5,h5,h⟩
   ·exact ZN h
   have:=ZM h5;exact Ym g f _ _ zo zo h
  ·cases h
def Jhc{f:Nat}{r:List Tok}(hf:12*r.length+12<=f):QdU f r≠.out:=by
 intro h;unfold QdU at h
 rcases Jn h with h|⟨_,r1,h1,h⟩
 ·exact JaH f f _ _ hf zo h
 have:=Jcq _ _ _ _ _ _ h1
 rcases Jn h with h|⟨_,r2,h2,h⟩
 ·exact Ym f f _ _ zo zo h
 rcases Jn h with h|⟨_,r3,h3,h⟩
 ·exact JB h
 rcases Jn h with h|⟨_,r4,h4,h⟩
 ·exact JaG h
 split at h<;>cases h
mutual
def siz:Nd->Nat
 |.mk _ _ _ _ l=>Qbd l+1
def Qbd:List Nd->Nat
 |[]=>0
 |a::l=>siz a+Qbd l
end
def JD(k n:Int)(s:By)(o:Int)(l:List Nd):siz (.mk k n s o l)=Qbd l+1:=by unfold siz;rfl
def Ju(a:Nd)(l:List Nd):Qbd (a::l)=siz a+Qbd l:=by rw[Qbd]
def JG:Qbd []=0:=by rw[Qbd]
def JeJ(l:List Nd)(a:Nd):Qbd (l++[a])=Qbd l+siz a:=by
 induction l with
 |nil=>simp[Qbd]
 |cons x r ih=>simp[Qbd,ih,Nat.add_assoc]
def Vh(a:Nd):0<siz a:=by cases a;rw[JD];omega
def JlU(a:Nd)(o:Int):siz (.mk a.kind a.num a.name o a.kids)=siz a:=by cases a;rw[JD,JD];rfl
def JeK{a:Nd}{l:List Nd}(h:a∈l):siz a<=Qbd l:=by
 induction l with
 |nil=>cases h
 |cons x r ih=>
  rw[Ju]
  rcases List.mem_cons.1 h with rfl|h
  ·omega
  ·have:=ih h;omega
def JeL(l:List Nd):l.length<=Qbd l:=by
 induction l with
 |nil=>simp
 |cons x r ih=>
  rw[Ju,List.length_cons];have:=Vh x;omega
mutual
def JeM:∀a:Nd,Qag a<=siz a
 |.mk k n s o l=>by
  rw[JD];unfold Qag;have:=ZQ l;omega
def ZQ:∀l:List Nd,QbL l<=Qbd l
 |[]=>by simp[QbL]
 |a::l=>by
  rw[Ju];unfold QbL;have:=JeM a;have:=ZQ l;omega
end
def QdB:Md->Nat
 |.loop _ _ a=>siz a
 |.args _ _ l=>Qbd l+1
 |_=>0
def JjF(t:Tok)(k:Int)(a b:Nd):siz (QdV t k a b)<=siz a+siz b+2:=by
 unfold QdV;split
 ·simp only[JD,Ju,JG];omega
 ·split
  ·simp only[JD,Ju,JG];omega
  ·simp only[JD,Ju,JG];omega
theorem QhZ{P:Prop}(h:P:=by
  obtain⟨_,r2,h2,h⟩:=Je h;injection h with h0 h;subst h h0;have:=Jr (by decide) h1;have:=Ku f _ _ _ _ h2;simp only[JD,Ju,JG,QdB]at *
  omega):P:=h
theorem QhU{P:Prop}(h:P:=by
  have:=Jo (by decide) h3;have:=Ku f _ _ _ _ h4;have:=Jo (by decide) h5;have:=Ku f _ _ _ _ h6;simp only[JD,Ju,JG,QdB]at *
  omega):P:=h
theorem QhF{P:Prop}(h:P:=by
  obtain⟨_,r2,h2,h⟩:=Je h;injection h with h0 h;subst h h0;have:=Jr (by decide) h1;have:=ZO h2;simp only[JD,JG]
  omega):P:=h
def Ku:∀(f:Nat) (md:Md) (r r':List Tok) (a:Nd),pM f md r=.ok a r'->siz a+2*r'.length<=2*r.length+QdB md
 |0,md,r,r',a,h=>by unfold pM at h;cases h
 |f+1,.expr,r,r',a,h=>by
  simp only[QdB];rw[pM]at h;split at h
  ·rename_i r1 h1;obtain⟨_,r2,h2,h⟩:=Je h;obtain⟨_,r3,h3,h⟩:=Je h;obtain⟨_,r4,h4,h⟩:=Je h;obtain⟨_,r5,h5,h⟩:=Je h;obtain⟨_,r6,h6,h⟩:=Je h;injection h with h0 h;subst h h0;have:=Jr zp h1;have:=JY h2;exact QhU
  ·split at h
   ·rename_i r1 h1;obtain⟨_,r2,h2,h⟩:=Je h;obtain⟨_,r3,h3,h⟩:=Je h;obtain⟨_,r4,h4,h⟩:=Je h;obtain⟨_,r5,h5,h⟩:=Je h;obtain⟨_,r6,h6,h⟩:=Je h;injection h with h0 h;subst h h0;have:=Jr zp h1;have:=Ku f _ _ _ _ h2;exact QhU
   ·have:=Ku f _ _ _ _ h;simpa[QdB] using this
 |f+1,.level lv,r,r',a,h=>by
  simp only[QdB];rw[pM]at h;split at h
  ·split at h
   ·rename_i r1 h1;exact QhZ
   ·have:=Ku f _ _ _ _ h;simpa[QdB] using this
  ·split at h
   ·split at h
    ·rename_i r1 h1;exact QhZ
    ·have:=Ku f _ _ _ _ h;simpa[QdB] using this
   ·obtain⟨_,r1,h1,h⟩:=Je h;have:=Ku f _ _ _ _ h1;have:=Ku f _ _ _ _ h;simp only[QdB]at *;omega
 |f+1,.loop lv o b,r,r',a,h=>by
  simp only[QdB];rw[pM]at h;split at h
  ·injection h with h0 h;subst h h0;omega
  ·rename_i k hk;have:=Jha hk;obtain⟨_,r1,h1,h⟩:=Je h;have:=Ku f _ _ _ _ h1;have:=Ku f _ _ _ _ h;simp only[JD,Ju,JG,QdB]at *;omega
 |f+1,.cmp,r,r',a,h=>by
  simp only[QdB];rw[pM]at h;obtain⟨x,r1,h1,h⟩:=Je h;have:=Ku f _ _ _ _ h1;split at h
  ·injection h with h0 h;subst h h0;simpa[QdB] using this
  ·rename_i k hk;have:=JeH hk;obtain⟨y,r2,h2,h⟩:=Je h;have:=Ku f _ _ _ _ h2;injection h with h0 h;subst h h0;have:=JjF (hd r1) k x y;simp only[QdB]at *;omega
 |f+1,.prim,r,r',a,h=>by
  simp only[QdB];rw[pM]at h;split at h
  ·rename_i hk;injection h with h0 h;subst h h0
   have:r.tail.length+1=r.length:=by
    cases r with
    |nil=>exact absurd hk zp
    |cons a l=>rfl
   simp only[JD,JG];omega
  split at h
  ·rename_i r1 h1;obtain⟨x,r2,h2,h⟩:=Je h;obtain⟨_,r3,h3,h⟩:=Je h;injection h with h0 h;subst h h0;have:=Jr zp h1;have:=Ku f _ _ _ _ h2;have:=Jo zp h3;rw[JlU];simp only[QdB]at *;omega
  split at h
  ·rename_i r1 h1;injection h with h0 h;subst h h0;have:=Jr zp h1;simp only[JD,JG];omega
  split at h
  ·rename_i r1 h1;injection h with h0 h;subst h h0;have:=Jr zp h1;simp only[JD,JG];omega
  split at h
  ·rename_i r1 h1;exact QhF
  split at h
  ·rename_i r1 h1;exact QhF
  split at h
  ·rename_i hk;injection h with h0 h;subst h h0
   have:r.tail.length+1=r.length:=by
    cases r with
    |nil=>exact absurd hk.1 zp
    |cons a l=>rfl
   simp only[JD,JG];omega
  ·have:=Ku f _ _ _ _ h;simpa[QdB] using this
 |f+1,.named,r,r',a,h=>by
  simp only[QdB];rw[pM]at h;obtain⟨nm,r1,h1,h⟩:=Je h;have:=JY h1;split at h
  ·injection h with h0 h;subst h h0;simp only[JD,JG];omega
  ·rename_i r2 h2;have:=Jr zp h2;split at h
   ·rename_i r3 h3;have:=Jr zp h3;injection h with h0 h;subst h h0;simp only[JD,JG];omega
   ·have:=Ku f _ _ _ _ h;simp only[QdB,JG]at *;omega
 |f+1,.args nm o l,r,r',a,h=>by
  simp only[QdB];rw[pM]at h;obtain⟨x,r1,h1,h⟩:=Je h;have:=Ku f _ _ _ _ h1;split at h
  ·rename_i r2 h2;have:=Jr zp h2;have:=Ku f _ _ _ _ h;simp only[QdB,JeJ]at *;omega
  ·obtain⟨_,r2,h2,h⟩:=Je h;have:=Jo zp h2;injection h with h0 h;subst h h0;simp only[JD,JeJ,QdB]at *;omega
def FnS.siz(f:FnS):Nat:=Go.Proofs.YtfafpklefknomaaGreatDoor.siz f.body+f.params.length+f.types.length+1
def ClS.siz(c:ClS):Nat:=Go.Proofs.YtfafpklefknomaaGreatDoor.siz c.cond+1
def Qcn(l:List FnS):Nat:=(l.map FnS.siz).sum
def Qcp(l:List ClS):Nat:=(l.map ClS.siz).sum
def ZU:∀(f:Nat) (ps:List (By × Int)) (ts:List Int) (r r':List Tok) a,QaQ f ps ts r=.ok a r'->a.1.length+a.2.length+2*r'.length<=2*r.length+ps.length+ts.length
 |0,_,_,_,_,_,h=>by cases h
 |f+1,ps,ts,r,r',a,h=>by
  rw[QaQ]at h;obtain⟨_,r1,h1,h⟩:=Je h;obtain⟨_,r2,h2,h⟩:=Je h;obtain⟨_,r3,h3,h⟩:=Je h;have:=JY h1;have:=Jo zp h2;have:=VQ h3;split at h
  ·rename_i r4 h4;have:=Jr zp h4;have:=ZU f _ _ _ _ _ h;simp only[List.length_append,List.length_singleton]at this;omega
  ·obtain⟨_,r4,h4,h⟩:=Je h;have:=Jo zp h4;injection h with h0 h;subst h h0;simp only[List.length_append,List.length_singleton];omega
def Yn:∀(f:Nat) (ps:List (By × Int)) (ts:List Int) (r r':List Tok) a,ps.length=ts.length->QaQ f ps ts r=.ok a r'->a.1.length=a.2.length
 |0,_,_,_,_,_,_,h=>by cases h
 |f+1,ps,ts,r,r',a,he,h=>by
  rw[QaQ]at h;obtain⟨_,r1,h1,h⟩:=Je h;obtain⟨_,r2,h2,h⟩:=Je h;obtain⟨_,r3,h3,h⟩:=Je h;split at h
  ·exact Yn f _ _ _ _ _ (by simp[he]) h
  ·obtain⟨_,r4,h4,h⟩:=Je h;injection h with h0 h;subst h h0;simp[he]
def JjG{f:Nat}{r r':List Tok}{x:FnS}(h:Qeg f r=.ok x r'):x.siz+2*r'.length<=2*r.length/\x.params.length=x.types.length:=by
 unfold Qeg at h;obtain⟨nm,r1,h1,h⟩:=Je h;obtain⟨_,r2,h2,h⟩:=Je h;obtain⟨pt,r3,h3,h⟩:=Je h;obtain⟨_,r4,h4,h⟩:=Je h;obtain⟨_,r5,h5,h⟩:=Je h;obtain⟨_,r6,h6,h⟩:=Je h;obtain⟨_,r7,h7,h⟩:=Je h;injection h with h0 h;subst h h0;have:=JY h1;have:=Jo zp h2
 have hp:pt.1.length+pt.2.length+2*r3.length<=2*r2.length/\pt.1.length=pt.2.length:=by
  split at h3
  ·rename_i r9 h9;have:=Jr zp h9;injection h3 with h0 h3;subst h3 h0;simp;omega
  ·have:=ZU _ _ _ _ _ _ h3;exact⟨by simpa using this,Yn _ _ _ _ _ _ rfl h3⟩
 have:=Jo zp h4;have:=VQ h5;have:=Jo zp h6;have:=Ku _ _ _ _ _ h7;simp only[FnS.siz,QdB]at *;exact⟨by omega,hp.2⟩
def Jcr(g:Nat):∀(f:Nat) (l:List FnS) (r r':List Tok) a,(∀x∈l,x.params.length=x.types.length)->QcF g f l r=.ok a r'->Qcn a+2*r'.length<=2*r.length+Qcn l/\∀x∈a,x.params.length=x.types.length
 |0,_,_,_,_,_,h=>by cases h
 |f+1,l,r,r',a,hl,h=>by
  rw[QcF]at h;split at h
  ·rename_i r1 h1;have:=Jr zp h1;obtain⟨x,r2,h2,h⟩:=Je h;obtain⟨g1,g2⟩:=JjG h2
   obtain⟨e1,e2⟩:=Jcr g f _ _ _ _ (by
    intro y hy
    rcases List.mem_append.1 hy with hy|hy
    ·exact hl y hy
    ·obtain rfl:y=x:=by simpa using hy
     exact g2) h
   refine⟨?_,e2⟩;simp only[Qcn,List.map_append,List.sum_append,List.map_cons,map_nil,List.sum_cons,sum_nil]at *;omega
  ·injection h with h0 h;subst h h0;exact⟨by omega,hl⟩
def Y8(g:Nat):∀(f:Nat) (l:List ClS) (r r':List Tok) a,QaP g f l r=.ok a r'->Qcp a+2*r'.length<=2*r.length+Qcp l
 |0,_,_,_,_,h=>by cases h
 |f+1,l,r,r',a,h=>by
  rw[QaP]at h;split at h
  ·rename_i r1 h1;have:=Jr zp h1;obtain⟨x,r2,h2,h⟩:=Je h;obtain⟨_,r3,h3,h⟩:=Je h;obtain⟨_,r4,h4,h⟩:=Je h;obtain⟨_,r5,h5,h⟩:=Je h;have:=Ku _ _ _ _ _ h2;have:=Jo zp h3;have:=JeG h4;have:=ZM h5;have:=Y8 g f _ _ _ _ h;simp only[Qcp,ClS.siz,QdB,List.map_append,List.sum_append,List.map_cons,map_nil,List.sum_cons,sum_nil]at *;omega
  ·injection h with h0 h;subst h h0;omega
def JeN{f:Nat}{r r':List Tok}{s:Src}(h:QdU f r=.ok s r'):Qcn s.funcs+Qcp s.clauses<=2*r.length/\∀x∈s.funcs,x.params.length=x.types.length:=by
 unfold QdU at h;obtain⟨fs,r1,h1,h⟩:=Je h;obtain⟨cs,r2,h2,h⟩:=Je h;obtain⟨_,r3,h3,h⟩:=Je h;obtain⟨_,r4,h4,h⟩:=Je h;obtain⟨e1,e2⟩:=Jcr _ _ _ _ _ _ zq h1;have e3:=Y8 _ _ _ _ _ _ h2;simp only[Qcn,Qcp,map_nil,sum_nil]at e1 e3;split at h
 ·injection h with h0 h;subst h0;exact⟨by simp only[Qcn,Qcp];omega,e2⟩
 ·cases h
open Go.ChangeShapes Go.WideShapes Go.ChangeAt Go.RowKit Go.Lib
def Jp(b c:Nat)(l:List An):∃ad cc,Qaz b c l=.slice ad l.length cc/\(l≠[]->ad=some ⟨b,0,none⟩):=by
 unfold Qaz;split
 ·rename_i h;subst h;exact⟨none,0,rfl,λh=>absurd rfl h⟩
 ·exact⟨_,c,rfl,λ_=>rfl⟩
def JW{W:World}{b:Nat}:∀{l:List An} {m i:Nat} {x:An},AtL W b m l->l[i]?=some x->(∀j u,(Qaa x).toList[j]?=some u->W.cell? ⟨b,(m+i)*5+j,none⟩=some u)/\x.At W
 |[],m,i,x,h,hx=>by cases hx
 |a::l,m,0,x,h,hx=>by
  unfold AtL at h;obtain rfl:a=x:=by simpa using hx
  exact⟨h.1,h.2.1⟩
 |a::l,m,i+1,x,h,hx=>by
  unfold AtL at h;have:=JW (i:=i) h.2.2 (by simpa using hx);rw[show m+1+i=m+(i+1) by omega]at this;exact this
def Jhd(l:List Nd)(a:Nd):QbL (l++[a])=max (QbL l) (Qag a):=by
 induction l with
 |nil=>simp[QbL]
 |cons x r ih=>simp[QbL,ih,Nat.max_assoc]
def Kk(l:List An):ndL l=l.map An.nd:=by
 induction l with
 |nil=>simp[ndL]
 |cons x r ih=>simp[ndL,ih]
def JfT{l:List An}{i:Nat}{x:An}(hx:l[i]?=some x):QbL (ndL (l.take (i+1)))=max (QbL (ndL (l.take i))) (Qag x.nd):=by
 rw[List.take_add_one,hx];simp only[Option.toList_some];rw[Vf,Jhd]
def JjH{l:List An}(i:Nat):QbL (ndL (l.take i))<=QbL (ndL l):=by
 induction l generalizing i with
 |nil=>simp
 |cons a r ih=>
  cases i with
  |zero=>simp[ndL,QbL]
  |succ i=>
   simp only[List.take_succ_cons,ndL,QbL];have:=ih i;omega
mutual
def Jcs{W:World}:∀(a:An),a.At W->∀q∈foot a,q<W.heap.size
 |.mk k n s o b c l,h,q,hq=>by
  unfold An.At at h;replace h:=h.2
  cases l with
  |nil=>simp[foot]at hq
  |cons x r=>
   unfold foot at hq
   rcases List.mem_cons.1 hq with rfl|hq
   ·unfold AtL at h;obtain⟨xA,xn,xc,hcf⟩:=Jg x;exact World.block_lt_of_cell? (a:=⟨q,0*5+0,none⟩) W (h.1 0 (Iv x.kind) (by rw[hcf];rfl))
   ·exact JeO b (x::r) 0 h q (by rw[Qak];exact hq)
def JeO{W:World}(b:Nat):∀(l:List An) (i:Nat),AtL W b i l->∀q∈Qak l,q<W.heap.size
 |[],_,_,q,hq=>by simp[Qak]at hq
 |a::l,i,h,q,hq=>by
  unfold AtL at h;unfold Qak at hq
  rcases List.mem_append.1 hq with hq|hq
  ·exact Jcs a h.2.1 q hq
  ·exact JeO b l (i+1) h.2.2 q hq
end
def Jct{W W':World}{a:An}(h:a.At W)(hb:Below W.heap.size W W'):a.At W':=JK a h λq hq=>hb.block q (Jcs a h q hq)
def ZV(k n:Int)(s:By)(o:Int)(b c:Nat)(l:List An):siz (An.mk k n s o b c l).nd=Qbd (ndL l)+1:=by unfold An.nd;rw[JD]
def JM{l:List An}{x:An}(hx:x∈l):siz x.nd<=Qbd (ndL l):=JeK (by rw[Kk];exact List.mem_map.2 ⟨x,hx,rfl⟩)
def Jy(l:List An):l.length<=Qbd (ndL l):=by have:=JeL (ndL l);rw[Kk,List.length_map]at this;rw[Kk];exact this
def ZW:∀(n:Nat) (a:An) (w:World),siz a.nd<=n->n<=1000000000->a.At w->Calls prog 95 #[.agg (Qaa a)] w (Qcx w (Qag a.nd))
 |0,a,w,hn,_,_=>by
  have:=Vh a.nd;omega
 |n+1,a,w,hn,hb,hat=>by
  have IH:=λ(x:An) (W:World) h1 h2=>ZW n x W h1 zo h2
  obtain⟨k,nn,s,o,b,c,l⟩:=a;have hN:Qag (An.mk k nn s o b c l).nd=QbL (ndL l)+1:=by unfold An.nd Qag;rfl
  rw[ZV]at hn;rw[hN];unfold An.At at hat;replace hat:=hat.2;obtain⟨ad,cc,hkv,yA⟩:=Jp b c l
  have aA:Qaa (An.mk k nn s o b c l)=#[Iv k,Iv nn,Sv s,Iv o,.slice ad l.length cc]:=by
   show #[_,_,_,_,Qaz b c l]=_
   rw[hkv]
  rw[aA];have eA:=Zh hat;have HAD:=Zh yA;obtain⟨M,hM⟩:∃M,QbL (ndL l)=M:=⟨_,rfl⟩
  have HM:=Zh hM;have kA:M<=n:=by have:=ZQ (ndL l);omega
  rw[hM];have gA:l.length<=n:=by have:=Jy l;omega
  have HSZ:Hi (Qbd (ndL l)<=n):=by rw[Hi];omega
  clear hat yA hkv aA hN hM hn;go_enter func95,ntmps95;go_wp2_with fail;have bA:Hi (Below w.heap.size w (w.alloc (.cells #[Iv k,Iv nn,Sv s,Iv o,.slice ad l.length cc] 127))):=zO.alloc (Nat.le_refl _) _;go_loopg [3,9] l.length λg v3 v9 wr=>∃i m:Nat,g+i=l.length/\v3=Iv m/\v9=Iv i/\Hi (m=QbL (ndL (l.take i)))/\Hi (Below w.heap.size w wr)
  case atStart=>exact⟨0,0,rfl,rfl,rfl,by simp[Hi,ndL,QbL],bA⟩
  case round=>
  clear bA;obtain⟨wl,rfl⟩:=zJ wr;obtain⟨i,m,hg,rfl,rfl,hm,hw⟩:=hrel
  by_cases hi:i<l.length
  ·have hil:(i:Int)<(l.length:Int):=zo;obtain⟨x,hx⟩:∃x,l[i]?=some x:=⟨l[i],List.getElem?_eq_getElem hi⟩
   have hmem:x∈l:=List.mem_of_getElem? hx;have yA:ad=some ⟨b,0,none⟩:=HAD.o (List.ne_nil_of_mem hmem);obtain⟨hc,uA⟩:=JW eA.o hx;rw[Nat.zero_add]at hc;obtain⟨xA,xn,xc,hcf⟩:=Jg x;rw[hcf]at hc;have hcl:∀j u,(#[Iv x.kind,Iv x.num,.string (bs x.name),Iv x.off,.slice xA xn xc]:Array Value).toList[j]?=some u->wl.cell? ⟨b,i*5+j,none⟩=some u:=λj u hj=>(hw.o.cell (World.block_lt_of_cell? _ _ (hc j u hj))).trans (hc j u hj)
   have c0:=hcl 0 _ rfl;have c1:=hcl 1 _ rfl;have c2:=hcl 2 _ rfl;have c3:=hcl 3 _ rfl;have c4:=hcl 4 _ rfl;simp only[Nat.add_zero]at c0;have vA:x.At wl:=JK x uA λq hq=>hw.o.block q (Jcs x uA q hq)
   have iA:siz x.nd<=n:=Nat.le_trans (JM hmem) HSZ.o;have hA:Hi (max m (Qag x.nd)=QbL (ndL (l.take (i+1)))):=by rw[Hi,JfT hx,hm.o]
   have jA:m<=n:=by rw[hm.o];have:=JjH (l:=l) i;have:=HM.o;omega
   have wk:=zI i;have cA:=Zh vA;have HW:=Zh hw;have HCF:=Zh hcf;have HG:=Zh hg;subst yA;clear hc hcl hx hmem hcf uA vA hm hw hi HAD hg;have zA:Below wl.heap.size wl (wl.alloc (.cells #[Iv x.kind,Iv x.num,.string (bs x.name),Iv x.off,.slice xA xn xc] 127)):=zO.alloc (Nat.le_refl _) _;have cx:=IH x _ iA (Jct cA.o zA);rw[HCF.o]at cx;have HW2:=Zh (HW.o.trans (zA.mono HW.o.size));clear zA;go_wp2_with fail;refine cx.mono ?_;rintro e w2 ⟨rfl,hb2⟩;have HW3:=Zh (HW2.o.trans (hb2.mono HW2.o.size));clear hb2 cx;go_wp2;go_roundg (l.length-(i+1))
   case measure=>have:=HG.o;omega
   case rel=>exact⟨i+1,max m (Qag x.nd),by omega,by go_num,by go_num,hA,HW3⟩
  ·have hil:¬(i:Int)<(l.length:Int):=zo;obtain rfl:i=l.length:=zo;have dA:m=M:=by rw[hm.o,List.take_length];exact HM.o
   subst dA;have wk:=zI m;have dil:((l.length:Int)<(l.length:Int))=False:=zq;clear hil hm;go_wp2;go_ret;exact⟨by go_num,hw.o⟩
end Go.Proofs.YtfafpklefknomaaGreatDoor
