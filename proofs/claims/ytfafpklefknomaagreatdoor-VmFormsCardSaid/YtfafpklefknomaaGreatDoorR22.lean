import Derived.Defers
import Derived.Recover
import Derived.Test.YtfafpklefknomaaGreatDoorR20
import Derived.Test.YtfafpklefknomaaGreatDoorR21
open List(append_eq_nil_iff length_map)
namespace Go.Proofs.YtfafpklefknomaaGreatDoor
open _root_.Go.Proofs.Tryz
set_option linter.all false
set_option maxRecDepth 100000
set_option maxHeartbeats 32000000
def Sh(r:List Tok):Prop:=∀t∈r,t.text.length<=1000000
def Sh.tail{r:List Tok}(h:Sh r):Sh r.tail:=λt ht=>h t (List.mem_of_mem_tail ht)
def Sh.hd{r:List Tok}(h:Sh r):(hd r).text.length<=1000000:=by
 cases r with
 |nil=>show ([]:By).length<=_;simp
 |cons a l=>exact h a zq
def Kz{k:Int}{s:By}{r r':List Tok}(hs:Sh r)(h:acc k s r=some r'):Sh r':=by
 unfold acc at h;split at h
 ·injection h with h;subst h;exact hs.tail
 ·cases h
def J2{k:Int}{s:By}{r r':List Tok}{u:Unit}(hs:Sh r)(h:Qar k s r=.ok u r'):Sh r':=by
 unfold Qar at h;split at h
 ·rename_i r1 h1;injection h with h0 h;subst h;exact Kz hs h1
 ·cases h
def Yx{r r':List Tok}{nm:By × Int}(hs:Sh r)(h:Qbb r=.ok nm r'):Sh r'/\nm.1.length<=1000000:=by
 unfold Qbb at h;split at h
 ·injection h with h0 h;subst h h0;exact⟨hs.tail,hs.hd⟩
 ·cases h
def JeX{r r':List Tok}{s:By}(hs:Sh r)(h:Qct r=.ok s r'):Sh r'/\s.length<=1000000:=by
 unfold Qct at h;split at h
 ·injection h with h0 h;subst h h0;exact⟨hs.tail,hs.hd⟩
 ·cases h
def JfY{r r':List Tok}{s:By}(hs:Sh r)(h:QaL r=.ok s r'):Sh r'/\s.length<=1000000:=by
 unfold QaL at h;obtain⟨_,r1,h1,h⟩:=Je h;obtain⟨_,r2,h2,h⟩:=Je h;obtain⟨_,r3,h3,h⟩:=Je h;injection h with h0 h;subst h h0;have s1:=J2 hs h1;obtain⟨s2,g2⟩:=JeX s1 h2;exact⟨J2 s2 h3,g2⟩
def Jhz{r r':List Tok}{t:Int}(hs:Sh r)(h:Qdu r=.ok t r'):Sh r':=by
 unfold Qdu at h;split at h
 ·rename_i r1 h1;injection h with h0 h;subst h;exact Kz hs h1
 ·split at h
  ·rename_i r1 h1;injection h with h0 h;subst h;exact Kz hs h1
  ·cases h
def Jmb{r r':List Tok}{t:Int}(hs:Sh r)(h:Qdg r=.ok t r'):Sh r':=by
 unfold Qdg at h
 repeat' split at h
 all_goals first
  |(rename_i r1 h1;injection h with h0 h;subst h;exact Kz hs h1)
  |cases h
def Vs{k n:Int}{s:By}{o:Int}{l:List Nd}:WfN (.mk k n s o l)↔(k=19->l.length=2)/\(k=15->l.length=2)/\(k=18->l.length=3)/\s.length<=1000000/\WfL l:=by unfold WfN;rfl
def JS{a:Nd}{l:List Nd}:WfL (a::l)↔WfN a/\WfL l:=by rw[WfL]
def VA:WfL []:=by unfold WfL;trivial
def JhA{l:List Nd}{a:Nd}(h:WfL l)(ha:WfN a):WfL (l++[a]):=by
 induction l with
 |nil=>exact JS.2 ⟨ha,VA⟩
 |cons x r ih=>
  have:=JS.1 h;exact JS.2 ⟨this.1,ih this.2⟩
def Jmc{a:Nd}(h:WfN a)(o:Int):WfN (.mk a.kind a.num a.name o a.kids):=by cases a;rw[Vs]at *;exact h
def wf1{k:Int}{n:Int}{s:By}{o:Int}{a:Nd}(h19:k≠19)(h15:k≠15)(h18:k≠18)(hs:s.length<=1000000)(ha:WfN a):WfN (.mk k n s o [a]):=
 Vs.2 ⟨λh=>absurd h h19,λh=>absurd h h15,λh=>absurd h h18,hs,JS.2 ⟨ha,VA⟩⟩
def wf0{k:Int}{n:Int}{s:By}{o:Int}(h19:k≠19)(h15:k≠15)(h18:k≠18)(hs:s.length<=1000000):WfN (.mk k n s o []):=
 Vs.2 ⟨λh=>absurd h h19,λh=>absurd h h15,λh=>absurd h h18,hs,VA⟩
def wf2{k:Int}{n:Int}{s:By}{o:Int}{a b:Nd}(h18:k≠18)(hs:s.length<=1000000)(ha:WfN a)(hb:WfN b):WfN (.mk k n s o [a,b]):=
 Vs.2 ⟨λ_=>rfl,λ_=>rfl,λh=>absurd h h18,hs,JS.2 ⟨ha,JS.2 ⟨hb,VA⟩⟩⟩
theorem QgZ{P:Prop}(h:P:=by
  unfold opK at h
  repeat' split at h
  all_goals first
   |(injection h with h;subst h;decide)
   |cases h):P:=h
def JnD{lv:Nat}{t:Tok}{k:Int}(h:opK lv t=some k):k≠18:=by
 exact QgZ
theorem Qha{P:Prop}(h:P:=by
  unfold Qeh at h
  repeat' split at h
  all_goals first
   |(injection h with h;subst h;decide)
   |cases h):P:=h
def Jmd{t:Tok}{k:Int}(h:Qeh t=some k):k≠18:=by
 exact Qha
def Jme{t:Tok}{k:Int}{a b:Nd}(h18:k≠18)(ha:WfN a)(hb:WfN b):WfN (QdV t k a b):=by
 unfold QdV;split
 ·exact wf2 h18 zq hb ha
 ·split
  ·exact wf1 zp zp zp zq (wf2 h18 zq ha hb)
  ·exact wf2 h18 zq ha hb
def QkL:Md->Prop
 |.loop _ _ a=>WfN a
 |.args nm _ l=>nm.length<=1000000/\WfL l
 |_=>True
theorem Qjp{P:Prop}(h:P:=by
  obtain⟨_,r2,h2,h⟩:=Je h;injection h with h0 h;subst h h0;obtain⟨g2,s2⟩:=KX f _ _ _ _ (Kz hs h1) h2 trivial
  exact⟨wf1 (by decide) (by decide) (by decide) (by simp) g2,s2⟩):P:=h
theorem QhY{P:Prop}(h:P:=by
  obtain⟨_,r2,h2,h⟩:=Je h;injection h with h0 h;subst h h0;obtain⟨s2,g2⟩:=JfY (Kz hs h1) h2
  exact⟨wf0 (by decide) (by decide) (by decide) g2,s2⟩):P:=h
theorem Qhh{P:Prop}(h:P:=by
  injection h with h0 h;subst h h0
  exact⟨wf0 (by decide) (by decide) (by decide) (by simp),Kz hs h1⟩):P:=h
def KX:∀(f:Nat) (md:Md) (r r':List Tok) (a:Nd),Sh r->pM f md r=.ok a r'->QkL md->WfN a/\Sh r'
 |0,md,r,r',a,hs,h,he=>by unfold pM at h;cases h
 |f+1,.expr,r,r',a,hs,h,he=>by
  rw[pM]at h;split at h
  ·rename_i r1 h1;obtain⟨_,r2,h2,h⟩:=Je h;obtain⟨_,r3,h3,h⟩:=Je h;obtain⟨_,r4,h4,h⟩:=Je h;obtain⟨_,r5,h5,h⟩:=Je h;obtain⟨_,r6,h6,h⟩:=Je h;injection h with h0 h;subst h h0;have s1:=Kz hs h1;obtain⟨s2,g2⟩:=Yx s1 h2;have s3:=J2 s2 h3;obtain⟨g4,s4⟩:=KX f _ _ _ _ s3 h4 trivial;have s5:=J2 s4 h5;obtain⟨g6,s6⟩:=KX f _ _ _ _ s5 h6 trivial;exact⟨wf2 zp g2 g4 g6,s6⟩
  ·split at h
   ·rename_i r1 h1;obtain⟨_,r2,h2,h⟩:=Je h;obtain⟨_,r3,h3,h⟩:=Je h;obtain⟨_,r4,h4,h⟩:=Je h;obtain⟨_,r5,h5,h⟩:=Je h;obtain⟨_,r6,h6,h⟩:=Je h;injection h with h0 h;subst h h0;have s1:=Kz hs h1;obtain⟨g2,s2⟩:=KX f _ _ _ _ s1 h2 trivial;have s3:=J2 s2 h3;obtain⟨g4,s4⟩:=KX f _ _ _ _ s3 h4 trivial;have s5:=J2 s4 h5;obtain⟨g6,s6⟩:=KX f _ _ _ _ s5 h6 trivial;exact⟨Vs.2 ⟨λh=>absurd h zp,λh=>absurd h zp,λ_=>rfl,by simp,JS.2 ⟨g2,JS.2 ⟨g4,JS.2 ⟨g6,VA⟩⟩⟩⟩,s6⟩
   ·exact KX f _ _ _ _ hs h trivial
 |f+1,.level lv,r,r',a,hs,h,he=>by
  rw[pM]at h;split at h
  ·split at h
   ·rename_i r1 h1;exact Qjp
   ·exact KX f _ _ _ _ hs h trivial
  ·split at h
   ·split at h
    ·rename_i r1 h1;exact Qjp
    ·exact KX f _ _ _ _ hs h trivial
   ·obtain⟨_,r1,h1,h⟩:=Je h;obtain⟨g1,s1⟩:=KX f _ _ _ _ hs h1 trivial;exact KX f _ _ _ _ s1 h g1
 |f+1,.loop lv o b,r,r',a,hs,h,he=>by
  rw[pM]at h;split at h
  ·injection h with h0 h;subst h h0;exact⟨he,hs⟩
  ·rename_i k hk;obtain⟨_,r1,h1,h⟩:=Je h;obtain⟨g1,s1⟩:=KX f _ _ _ _ hs.tail h1 trivial;exact KX f _ _ _ _ s1 h (show WfN _ from wf2 (JnD hk) zq he g1)
 |f+1,.cmp,r,r',a,hs,h,he=>by
  rw[pM]at h;obtain⟨x,r1,h1,h⟩:=Je h;obtain⟨g1,s1⟩:=KX f _ _ _ _ hs h1 trivial;split at h
  ·injection h with h0 h;subst h h0;exact⟨g1,s1⟩
  ·rename_i k hk;obtain⟨y,r2,h2,h⟩:=Je h;obtain⟨g2,s2⟩:=KX f _ _ _ _ s1.tail h2 trivial;injection h with h0 h;subst h h0;exact⟨Jme (Jmd hk) g1 g2,s2⟩
 |f+1,.prim,r,r',a,hs,h,he=>by
  rw[pM]at h;split at h
  ·injection h with h0 h;subst h h0;exact⟨wf0 zp zp zp zq,hs.tail⟩
  split at h
  ·rename_i r1 h1;obtain⟨x,r2,h2,h⟩:=Je h;obtain⟨_,r3,h3,h⟩:=Je h;injection h with h0 h;subst h h0;obtain⟨g2,s2⟩:=KX f _ _ _ _ (Kz hs h1) h2 trivial;exact⟨Jmc g2 _,J2 s2 h3⟩
  split at h
  ·rename_i r1 h1;exact Qhh
  split at h
  ·rename_i r1 h1;exact Qhh
  split at h
  ·rename_i r1 h1;exact QhY
  split at h
  ·rename_i r1 h1;exact QhY
  split at h
  ·injection h with h0 h;subst h h0;exact⟨wf0 zp zp zp hs.hd,hs.tail⟩
  ·exact KX f _ _ _ _ hs h trivial
 |f+1,.named,r,r',a,hs,h,he=>by
  rw[pM]at h;obtain⟨nm,r1,h1,h⟩:=Je h;obtain⟨s1,g1⟩:=Yx hs h1;split at h
  ·injection h with h0 h;subst h h0;exact⟨wf0 zp zp zp g1,s1⟩
  ·rename_i r2 h2;split at h
   ·rename_i r3 h3;injection h with h0 h;subst h h0;exact⟨wf0 zp zp zp g1,Kz (Kz s1 h2) h3⟩
   ·exact KX f _ _ _ _ (Kz s1 h2) h (show _/\_ from⟨g1,VA⟩)
 |f+1,.args nm o l,r,r',a,hs,h,he=>by
  obtain⟨yA,xA⟩:nm.length<=1000000/\WfL l:=he;rw[pM]at h;obtain⟨x,r1,h1,h⟩:=Je h;obtain⟨g1,s1⟩:=KX f _ _ _ _ hs h1 trivial;split at h
  ·rename_i r2 h2;exact KX f _ _ _ _ (Kz s1 h2) h (show _/\_ from⟨yA,JhA xA g1⟩)
  ·obtain⟨_,r2,h2,h⟩:=Je h;injection h with h0 h;subst h h0;exact⟨Vs.2 ⟨λh=>absurd h zp,λh=>absurd h zp,λh=>absurd h zp,yA,JhA xA g1⟩,J2 s1 h2⟩
def QgR(f:FnS):Prop:=WfN f.body/\f.name.1.length<=1000000
def Qip(c:ClS):Prop:=WfN c.cond
def JaO:∀(f:Nat) (ps:List (By × Int)) (ts:List Int) (r r':List Tok) a,Sh r->QaQ f ps ts r=.ok a r'->Sh r'
 |0,_,_,_,_,_,_,h=>by cases h
 |f+1,ps,ts,r,r',a,hs,h=>by
  rw[QaQ]at h;obtain⟨_,r1,h1,h⟩:=Je h;obtain⟨_,r2,h2,h⟩:=Je h;obtain⟨_,r3,h3,h⟩:=Je h;have s3:=Jhz (J2 (Yx hs h1).1 h2) h3;split at h
  ·rename_i r4 h4;exact JaO f _ _ _ _ _ (Kz s3 h4) h
  ·obtain⟨_,r4,h4,h⟩:=Je h;injection h with h0 h;subst h h0;exact J2 s3 h4
def Jmf{f:Nat}{r r':List Tok}{x:FnS}(hs:Sh r)(h:Qeg f r=.ok x r'):QgR x/\Sh r':=by
 unfold Qeg at h;obtain⟨nm,r1,h1,h⟩:=Je h;obtain⟨_,r2,h2,h⟩:=Je h;obtain⟨pt,r3,h3,h⟩:=Je h;obtain⟨_,r4,h4,h⟩:=Je h;obtain⟨_,r5,h5,h⟩:=Je h;obtain⟨_,r6,h6,h⟩:=Je h;obtain⟨_,r7,h7,h⟩:=Je h;injection h with h0 h;subst h h0;obtain⟨s1,g1⟩:=Yx hs h1;have s2:=J2 s1 h2
 have s3:Sh r3:=by
  split at h3
  ·rename_i r9 h9;injection h3 with h0 h3;subst h3;exact Kz s2 h9
  ·exact JaO _ _ _ _ _ _ s2 h3
 have s6:=J2 (Jhz (J2 s3 h4) h5) h6;obtain⟨g7,s7⟩:=KX _ _ _ _ _ s6 h7 trivial;exact⟨⟨g7,g1⟩,s7⟩
def JeY(g:Nat):∀(f:Nat) (l:List FnS) (r r':List Tok) a,Sh r->(∀x∈l,QgR x)->QcF g f l r=.ok a r'->(∀x∈a,QgR x)/\Sh r'
 |0,_,_,_,_,_,_,h=>by cases h
 |f+1,l,r,r',a,hs,hl,h=>by
  rw[QcF]at h;split at h
  ·rename_i r1 h1;obtain⟨x,r2,h2,h⟩:=Je h;obtain⟨g1,g2⟩:=Jmf (Kz hs h1) h2
   exact JeY g f _ _ _ _ g2 (by
    intro y hy
    rcases List.mem_append.1 hy with hy|hy
    ·exact hl y hy
    ·obtain rfl:y=x:=by simpa using hy
     exact g1) h
  ·injection h with h0 h;subst h h0;exact⟨hl,hs⟩
def Z5(g:Nat):∀(f:Nat) (l:List ClS) (r r':List Tok) a,Sh r->(∀x∈l,Qip x)->QaP g f l r=.ok a r'->(∀x∈a,Qip x)/\Sh r'
 |0,_,_,_,_,_,_,h=>by cases h
 |f+1,l,r,r',a,hs,hl,h=>by
  rw[QaP]at h;split at h
  ·rename_i r1 h1;obtain⟨x,r2,h2,h⟩:=Je h;obtain⟨_,r3,h3,h⟩:=Je h;obtain⟨_,r4,h4,h⟩:=Je h;obtain⟨_,r5,h5,h⟩:=Je h;obtain⟨g1,s2⟩:=KX _ _ _ _ _ (Kz hs h1) h2 trivial;have s4:=Jmb (J2 s2 h3) h4
   exact Z5 g f _ _ _ _ (JeX s4 h5).1 (by
    intro y hy
    rcases List.mem_append.1 hy with hy|hy
    ·exact hl y hy
    ·obtain rfl:y=_:=by simpa using hy
     exact g1) h
  ·injection h with h0 h;subst h h0;exact⟨hl,hs⟩
def Jmg{f:Nat}{r r':List Tok}{s:Src}(hs:Sh r)(h:QdU f r=.ok s r'):(∀x∈s.funcs,QgR x)/\∀x∈s.clauses,Qip x:=by
 unfold QdU at h;obtain⟨fs,r1,h1,h⟩:=Je h;obtain⟨cs,r2,h2,h⟩:=Je h;obtain⟨_,r3,h3,h⟩:=Je h;obtain⟨_,r4,h4,h⟩:=Je h;obtain⟨g1,s1⟩:=JeY _ _ _ _ _ _ hs zq h1;obtain⟨g2,s2⟩:=Z5 _ _ _ _ _ _ s1 zq h2;split at h
 ·injection h with h0 h;subst h0;exact⟨g1,g2⟩
 ·cases h
def JaP{fs:List By}{s:By}{k:Nat}(h:Qal fs s=some k):k<fs.length:=by
 unfold Qal at h;rw[List.findIdx?_eq_some_iff_findIdx_eq]at h;exact h.1
theorem QhN{P:Prop}(h:P:=by
  subst hk
  exact⟨Vs.2 ⟨λh=>absurd h (by decide),λh=>absurd h (by decide),λh=>absurd h (by decide),by simp,q1⟩,by rw[JD,JD,q2]⟩):P:=h
mutual
def V8(fs:List By):∀(vars:List By) (a:Nd),WfN a->WfN (QcQ fs vars a).1/\siz (QcQ fs vars a).1=siz a
 |vars,.mk k n s o l,h=>by
  rw[Vs]at h;obtain⟨w19,w15,w18,ws,wl⟩:=h;rw[Vx];obtain⟨q1,q2,q3⟩:=JhB fs vars l wl;split
  ·rename_i hk;exact QhN
  split
  ·rename_i hk;exact QhN
  split
  ·rename_i hk;subst hk
   match l,w19 rfl,wl with
   |[a,b],_,wl=>
    rw[JS,JS]at wl;obtain⟨x1,x2⟩:=V8 fs vars a wl.1;obtain⟨y1,y2⟩:=V8 fs (vars++[s]) b wl.2.1;exact⟨wf2 (by decide) (by simp) x1 y1,by simp only[JD,Ju,JG,x2,y2]⟩
  ·exact⟨Vs.2 ⟨λh=>by rw[q3];exact w19 h,λh=>by rw[q3];exact w15 h,λh=>by rw[q3];exact w18 h,ws,q1⟩,by rw[JD,JD,q2]⟩
def JhB(fs:List By):∀(vars:List By) (l:List Nd),WfL l->WfL (QbS fs vars l).1/\Qbd (QbS fs vars l).1=Qbd l/\(QbS fs vars l).1.length=l.length
 |vars,[],h=>by rw[QbS];exact⟨VA,rfl,rfl⟩
 |vars,a::l,h=>by
  rw[JS]at h;rw[QbS];obtain⟨x1,x2⟩:=V8 fs vars a h.1;obtain⟨y1,y2,y3⟩:=JhB fs vars l h.2;exact⟨JS.2 ⟨x1,y1⟩,by simp only[Ju,x2,y2],by simp only[List.length_cons,y3]⟩
end
def JbC{nf nv:Nat}{k n:Int}{s:By}{o:Int}{l:List Nd}(h2:k=2->0<=n/\n<nv)(h20:k=20->0<=n/\n<nf)(h19:k≠19)(hl:QdJ nf nv l):QdK nf nv (.mk k n s o l):=by
 unfold QdK;refine⟨h2,h20,?_⟩;rw[zM h19];exact hl
mutual
def Z6(fs:List By):∀(vars:List By) (a:Nd),WfN a->(QcQ fs vars a).2=[]->QdK fs.length vars.length (QcQ fs vars a).1
 |vars,.mk k n s o l,hw,h=>by
  rw[Vs]at hw;obtain⟨w19,w15,w18,ws,wl⟩:=hw;rw[Vx]at h |-;split at h
  ·rename_i hk;subst hk;rw[if_pos rfl];simp only[append_eq_nil_iff]at h;have hx:=(Yr s _ vars rfl).2;have hlt:¬QaY vars s<0:=λhc=>by rw[if_pos hc]at h;exact absurd h.1 (by simp)
   exact JbC (λ_=>⟨by omega,hx⟩) (λh=>absurd h (by decide)) (by decide) (JbD fs vars l wl h.2)
  rename_i hk2;rw[if_neg hk2];split at h
  ·rename_i hk;subst hk;rw[if_pos rfl];simp only[append_eq_nil_iff]at h
   cases hf:Qal fs s with
   |none=>
    rw[hf]at h;simp at h
   |some q=>
    have hlt:=JaP hf;exact JbC (λh=>absurd h (by decide)) (λ_=>⟨by simp[Option.getD],by simp only[Option.getD];omega⟩) (by decide) (JbD fs vars l wl h.2)
  rename_i hk20;rw[if_neg hk20];split at h
  ·rename_i hk;subst hk;rw[if_pos rfl]
   match l,w19 rfl,wl,h with
   |[a,b],_,wl,h=>
    rw[JS,JS]at wl;simp only[append_eq_nil_iff]at h;have x:=Z6 fs vars a wl.1 h.1;have y:=Z6 fs (vars++[s]) b wl.2.1 h.2;rw[List.length_append,List.length_singleton]at y;unfold QdK;exact⟨λh=>absurd h (by decide),λh=>absurd h (by decide),x,y⟩
  ·rename_i hk19;rw[if_neg hk19];exact JbC (λh=>absurd h hk2) (λh=>absurd h hk20) hk19 (JbD fs vars l wl h)
def JbD(fs:List By):∀(vars:List By) (l:List Nd),WfL l->(QbS fs vars l).2=[]->QdJ fs.length vars.length (QbS fs vars l).1
 |vars,[],hw,h=>by rw[QbS];unfold QdJ;trivial
 |vars,a::l,hw,h=>by
  rw[JS]at hw;rw[QbS]at h |-;simp only[append_eq_nil_iff]at h;unfold QdJ;exact⟨Z6 fs vars a hw.1 h.1,JbD fs vars l hw.2 h.2⟩
end
def YT{l:List Int}(h:QaZ l=none):l=[]:=by
 cases l with
 |nil=>rfl
 |cons a l=>rw[QaZ]at h;cases h
def JaQ{s:Src}{m:Nat}(h1:∀f∈s.funcs,QgR f/\siz f.body<=m/\f.types.length<=m/\f.params.length=f.types.length)(h2:∀c∈s.clauses,Qip c/\siz c.cond<=m)(he:QaZ (Qae s).2=none) :
  (∀f∈(Qae s).1.funcs,WfN f.body/\siz f.body<=m/\f.types.length<=m/\QdK (Qae s).1.funcs.length f.types.length f.body)/\(∀c∈(Qae s).1.clauses,WfN c.cond/\siz c.cond<=m/\QdK (Qae s).1.funcs.length 0 c.cond)/\(Qae s).1.funcs.length=s.funcs.length/\(Qae s).1.clauses.length=s.clauses.length:=by
 have hn:=YT he;unfold Qae at hn |-;simp only[append_eq_nil_iff,List.flatten_eq_nil_iff]at hn;obtain⟨⟨_,e1⟩,e2⟩:=hn;have hfl:(s.funcs.map (·.name.1)).length=s.funcs.length:=zq;refine⟨λf hf=>?_,λc hc=>?_,by simp,by simp⟩
 ·simp only[List.mem_map]at hf;obtain⟨_,⟨g,hg,rfl⟩,rfl⟩:=hf;obtain⟨q1,q2,q3,q4⟩:=h1 g hg;have e:=e1 (resF (s.funcs.map (·.name.1)) g).2 (List.mem_map.2 ⟨_,List.mem_map.2 ⟨g,hg,rfl⟩,rfl⟩);unfold resF at e;simp only[append_eq_nil_iff]at e;obtain⟨w1,w2⟩:=V8 (s.funcs.map (·.name.1)) (g.params.map (·.1)) g.body q1.1;have ty:=Z6 (s.funcs.map (·.name.1)) (g.params.map (·.1)) g.body q1.1 e.2;rw[length_map,length_map,q4]at ty;refine⟨w1,by show siz (QcQ _ _ _).1<=m;rw[w2];exact q2,q3,?_⟩;simp only[length_map];exact ty
 ·simp only[List.mem_map]at hc;obtain⟨_,⟨g,hg,rfl⟩,rfl⟩:=hc;obtain⟨q1,q2⟩:=h2 g hg;have e:=e2 (resC (s.funcs.map (·.name.1)) g).2 (List.mem_map.2 ⟨_,List.mem_map.2 ⟨g,hg,rfl⟩,rfl⟩);unfold resC at e;obtain⟨w1,w2⟩:=V8 (s.funcs.map (·.name.1)) [] g.cond q1;have ty:=Z6 (s.funcs.map (·.name.1)) [] g.cond q1 e;rw[length_map]at ty;refine⟨w1,by show siz (QcQ _ _ _).1<=m;rw[w2];exact q2,?_⟩;simp only[length_map];exact ty
open Go.ChangeShapes Go.WideShapes Go.ChangeAt Go.RowKit Go.Lib
def JdW(p q s:Addr)(w:World) :
  CallsD prog 33 #[.pointer (some p),.pointer (some q),.pointer (some s)] .returning w λe u' w'=>e=.returned (.tuple #[])/\u'=.returning/\Below w.heap.size w w':=by
 have ta:∀w,(Instr.typeAssert .nilIface 20 88 true).run prog w=.ok (.tuple #[.agg #[Iv 0,Iv 0],.bool false]) w:=λ_=>by kernel_rfl
 refine callsD_of_wpS func33 rfl λc₀ cs hu=>?_
 apply wpS_seq;apply wpS_region;simp[wpOpsS,go_sem,recoverD,hu,ntmps33,Exit.thenS,ta];apply wpS_seq;apply wpS_region;simp[wpOpsS,go_sem,Exit.thenS];refine wpS_cond (t:=false) (by simp[Act.eval,Array.replicate]) ?_;simp only[Bool.false_eq_true,if_false];refine wpS_of_wp (wp_skip ?_)
 cases c₀
 simp only[bodyPostS,results,results33];refine⟨by simp,.returning,by simp_all,.tuple #[],by simp[go_sem],rfl,rfl,zO.alloc (Nat.le_refl _) _⟩
def JhC{r e a:Nat}(er o:Int){f0 f1 f2 e0 a0:Value}{w:World}{tr te ta:Nat}(hr:w.heap[r]?=some (.cells #[f0,f1,f2] tr (0,0)))(he:w.heap[e]?=some (.cells #[e0] te (0,0)))(ha:w.heap[a]?=some (.cells #[a0] ta (0,0)))(h1:r≠e)(h2:r≠a)(h3:e≠a)(X:Obj) :
  ∀W,W=((((((w.setCell ⟨r,0,none⟩ Nl).setCell ⟨r,1,none⟩ Nl).setCell ⟨r,2,none⟩ (Iv 0)).setCell ⟨e,0,none⟩ (Iv er)).setCell ⟨a,0,none⟩ (Iv o)).alloc X).drew->
  W.heap[r]?=some (.cells #[Nl,Nl,Iv 0] tr (0,0))/\W.heap[e]?=some (.cells #[Iv er] te (0,0))/\W.heap[a]?=some (.cells #[Iv o] ta (0,0))/\Chg [r,e,a] w W:=by
 rintro W rfl;have g1:=QgJ Nl Nl (Iv 0) hr
 have g2:((((w.setCell ⟨r,0,none⟩ Nl).setCell ⟨r,1,none⟩ Nl).setCell ⟨r,2,none⟩ (Iv 0)).setCell ⟨e,0,none⟩ (Iv er)).heap[e]?=some (.cells #[Iv er] te (0,0)):=
  heap_setCell_same _ _ 0 _ _ _ (Ji (Ji (Ji he (λh=>h1 h.symm) _) (λh=>h1 h.symm) _) (λh=>h1 h.symm) _)
 refine⟨?_,?_,?_,?_⟩
 ·show ((World.alloc _ X).heap)[r]?=_
  exact Jf (Ji (Ji g1 h1 _) h2 _)
 ·show ((World.alloc _ X).heap)[e]?=_
  exact Jf (Ji g2 h3 _)
 ·show ((World.alloc _ X).heap)[a]?=_
  refine Jf (heap_setCell_same _ _ 0 _ _ _ (Ji (Ji (Ji (Ji ha (λh=>h2 h.symm) _) (λh=>h2 h.symm) _) (λh=>h2 h.symm) _) (λh=>h3 h.symm) _))
 ·exact((((((Chg.refl _ _).setCell (.inl zq) _).setCell (.inl zq) _).setCell (.inl zq) _).setCell (.inl zq) _).setCell (.inl zq) _).alloc _ |>.drew
def Zc(r e a:Nat)(er o:Int)(older:List PanicEntry)(f0 f1 f2:Value)(e0 a0:Int)(w:World)(hr:w.heap[r]?=some (.cells #[f0,f1,f2] 25 (0,0)))(he:w.heap[e]?=some (.cells #[Iv e0] 46 (0,0)))(ha:w.heap[a]?=some (.cells #[Iv a0] 3 (0,0)))(h1:r≠e)(h2:r≠a)(h3:e≠a) :
  CallsD prog 33 #[Pt r,Pt e,Pt a] (.panicking ({ v:=Qff er o,recovered:=false }::older)) w λen u' w'=>
   en=.returned (.tuple #[])/\u'=.panicking ({ v:=Qff er o,recovered:=true }::older)/\w'.heap[r]?=some (.cells #[Nl,Nl,Iv 0] 25 (0,0))/\w'.heap[e]?=some (.cells #[Iv er] 46 (0,0))/\w'.heap[a]?=some (.cells #[Iv o] 3 (0,0))/\Chg [r,e,a] w w':=by
 have ta:∀w,(Instr.typeAssert (Qff er o) 20 88 true).run prog w=.ok (.tuple #[.agg #[Iv er,Iv o],.bool true]) w:=λ_=>by kernel_rfl
 refine callsD_of_wpS func33 rfl λc₀ cs hu=>?_
 apply wpS_seq;apply wpS_region;simp[wpOpsS,go_sem,recoverD,hu,ntmps33,Exit.thenS,ta];apply wpS_seq;apply wpS_region;simp[wpOpsS,go_sem,Exit.thenS];refine wpS_cond (t:=true) (by simp[Act.eval,Array.replicate]) ?_;simp only[if_true];refine wpS_of_wp ?_;have hl:=Jb hr;have xA:=Jb he;have yA:=Jb ha;have r0:=Ja hr 0;have r1:=Ja hr 1;have r2:=Ja hr 2;have e1:=Ja he 0;have a1:=Ja ha 0;have q0:=Jc hr 0;have q1:=Jc hr 1;have q2:=Jc hr 2;have q3:=Jc he 0;have q4:=Jc ha 0;simp only[zW]at r0 r1 r2 e1 a1;have n1:=Ne.symm h1;have n2:=Ne.symm h2;have n3:=Ne.symm h3;go_region
 all_goals have fin:=JhC er o hr he ha h1 h2 h3 (.cells #[Iv er,Iv o] 88)
 all_goals clear hr he ha r0 r1 r2 e1 a1 q0 q1 q2 q3 q4 hl xA yA ta
 all_goals (cases c₀;simp only[bodyPostS,results,results33];refine⟨by trivial,_,rfl,.tuple #[],by simp[go_sem],rfl,rfl,fin _ rfl⟩)
def Qcl(l:By):Qah × Int × Int:=
 if (Qbi l).2.1=0 then (Qcc (12*((Qbi l).1.length+1)) (Qbi l).1).getD (QaR,0,0) else (QaR,(Qbi l).2.1,(Qbi l).2.2)
def PsP(w:World)(X:Qah × Int × Int)(e:Ending)(w':World):Prop:=
 ∃c,e=.returned (.tuple #[.agg c,Iv X.2.1,Iv X.2.2])/\QaV w' (λb=>w.heap.size<=b/\b<w'.heap.size) X.1 c/\Below w.heap.size w w'
def JeZ(W:World)(P:Nat->Prop):QaV W P QaR #[Nl,Nl,Iv 0]:=
 ⟨_,_,rfl,⟨none,0,[],rfl,Nat.le_refl _,rfl,.inl rfl⟩,⟨none,0,[],rfl,Nat.le_refl _,rfl,.inl rfl⟩⟩
structure Res(w W:World)(rs:Array Value)(er a:Int):Prop where
 r:W.heap[w.heap.size]?=some (.cells rs 25 (0,0))
 e:W.heap[w.heap.size+1]?=some (.cells #[Iv er] 46 (0,0))
 a:W.heap[w.heap.size+2]?=some (.cells #[Iv a] 3 (0,0))
 bel:Below w.heap.size w W
def Vj{w W:World}{rs:Array Value}{er a:Int}(h:Res w W rs er a)(hs:rs.size=3)(tmps:Array Value)(h2:tmps.getD 2 undef=Pt w.heap.size)(h3:tmps.getD 3 undef=.pointer (some ⟨w.heap.size+1,0,none⟩))(h4:tmps.getD 4 undef=.pointer (some ⟨w.heap.size+2,0,none⟩)) :
  (results f15 tmps).run prog W=.ok (.tuple #[.agg rs,Iv er,Iv a]) W:=by
 have q2:tmps[2]?.getD undef=Pt w.heap.size:=by simpa using h2
 have q3:tmps[3]?.getD undef=.pointer (some ⟨w.heap.size+1,0,none⟩):=by simpa using h3
 have q4:tmps[4]?.getD undef=.pointer (some ⟨w.heap.size+2,0,none⟩):=by simpa using h4
 have c1:W.cell? ⟨w.heap.size+1,0,none⟩=some (Iv er):=Ja h.e 0;have c2:W.cell? ⟨w.heap.size+2,0,none⟩=some (Iv a):=Ja h.a 0;have l1:=run_loadVar_row (P:=prog) W w.heap.size 25 25 rs (0,0) _ h.r underlying25 rfl (by rw[hs];exact QeP);have l2:(loadVar 46 ⟨w.heap.size+1,0,none⟩).run prog W=.ok (Iv er) W:=by simp[go_sem,c1]
 have l3:(loadVar 3 ⟨w.heap.size+2,0,none⟩).run prog W=.ok (Iv a) W:=by simp[go_sem,c2]
 simp[results,results15,q2,q3,q4,asAddr,l1,l2,l3]
def Res.up{w W W':World}{rs:Array Value}{er a:Int}(h:Res w W rs er a)(hb:Below W.heap.size W W'):Res w W' rs er a:=
 ⟨(hb.block _ (Jb h.r)).trans h.r,(hb.block _ (Jb h.e)).trans h.e,(hb.block _ (Jb h.a)).trans h.a,Jd h.bel hb⟩
def Res.setE{w W:World}{rs:Array Value}{er a:Int}(h:Res w W rs er a)(n:Int):Res w (W.setCell ⟨w.heap.size+1,0,none⟩ (Iv n)) rs n a:=
 ⟨Ji h.r zq _,heap_setCell_same _ _ 0 _ _ _ h.e,Ji h.a zq _,h.bel.setCell zq _⟩
def Res.setA{w W:World}{rs:Array Value}{er a:Int}(h:Res w W rs er a)(n:Int):Res w (W.setCell ⟨w.heap.size+2,0,none⟩ (Iv n)) rs er n:=
 ⟨Ji h.r zq _,Ji h.e zq _,heap_setCell_same _ _ 0 _ _ _ h.a,h.bel.setCell zq _⟩
def Res.setR{w W:World}{f0 f1 f2:Value}{er a:Int}(h:Res w W #[f0,f1,f2] er a)(v0 v1 v2:Value):Res w (((W.setCell ⟨w.heap.size,0,none⟩ v0).setCell ⟨w.heap.size,1,none⟩ v1).setCell ⟨w.heap.size,2,none⟩ v2) #[v0,v1,v2] er a:=
 ⟨QgJ v0 v1 v2 h.r,Ji (Ji (Ji h.e zq _) zq _) zq _,Ji (Ji (Ji h.a zq _) zq _) zq _,((h.bel.setCell zq _).setCell zq _).setCell zq _⟩
def Res.drew{w W:World}{rs:Array Value}{er a:Int}(h:Res w W rs er a):Res w W.drew rs er a:=⟨h.r,h.e,h.a,h.bel.drew⟩
structure QkN(w W:World)(f0 f1 f2:Value)(er a:Int):Prop where
 r0:W.cell? ⟨w.heap.size,0,none⟩=some f0
 r1:W.cell? ⟨w.heap.size,1,none⟩=some f1
 r2:W.cell? ⟨w.heap.size,2,none⟩=some f2
 e0:W.cell? ⟨w.heap.size+1,0,none⟩=some (Iv er)
 a0:W.cell? ⟨w.heap.size+2,0,none⟩=some (Iv a)
 q0:W.frozen? ⟨w.heap.size,0,none⟩=false
 q1:W.frozen? ⟨w.heap.size,1,none⟩=false
 q2:W.frozen? ⟨w.heap.size,2,none⟩=false
 q3:W.frozen? ⟨w.heap.size+1,0,none⟩=false
 q4:W.frozen? ⟨w.heap.size+2,0,none⟩=false
def Res.cells{w W:World}{f0 f1 f2:Value}{er a:Int}(h:Res w W #[f0,f1,f2] er a):QkN w W f0 f1 f2 er a:=
 ⟨Ja h.r 0,Ja h.r 1,Ja h.r 2,Ja h.e 0,Ja h.a 0,Jc h.r 0,Jc h.r 1,Jc h.r 2,Jc h.e 0,Jc h.a 0⟩
theorem QjS{P:Prop}(h:P:=by
  have e1:=zQ (w.alloc (.cells #[.slice none 0 0,.slice none 0 0,Iv 0] 25)) (.cells #[Iv 0] 46);have e2:=zQ ((w.alloc (.cells #[.slice none 0 0,.slice none 0 0,Iv 0] 25)).alloc (.cells #[Iv 0] 46)) (.cells #[Iv 0] 3);simp only[World.size_alloc]at e1 e2
  exact⟨Jf (Jf (zQ _ _)),Jf e1,e2,((zO.alloc (Nat.le_refl _) _).alloc (by simp) _).alloc (by simp;omega) _⟩):P:=h
def JfZ(l:By)(w:World)(hl:l.length<=281474976710655)(hL:Laid w)(h:(Qbi l).2.1≠0) :
  Calls prog 15 #[Sv l] w (PsP w (QaR,(Qbi l).2.1,(Qbi l).2.2)):=by
 obtain⟨T,er,at',uA⟩:∃T er at',Qbi l=(T,er,at'):=⟨_,_,_,rfl⟩
 rw[uA]at h |-;simp only at h |-;have dA:(er==(0:Int))=false:=by simpa using h
 have aA:Res w (((w.alloc (.cells #[Nl,Nl,Iv 0] 25)).alloc (.cells #[Iv 0] 46)).alloc (.cells #[Iv 0] 3)) #[Nl,Nl,Iv 0] 0 0:=by
  exact QjS
 have yA:=Zh aA;clear aA h;go_enter_defers func15,ntmps15;go_wp2_with fail;generalize World.alloc (World.alloc (World.alloc w _) _) _=w1 at *;have bA:=hL.below yA.o.bel;refine(JeD l w1 hl bA).mono ?_;rw[uA];rintro e w2 ⟨v,rfl,xA,hb⟩;obtain⟨va,vc,rfl⟩:=Jv xA;have vA:=Zh (yA.o.up hb);clear yA xA hb uA bA hL;obtain⟨r0,r1,r2,e0,a0,q0,q1,q2,q3,q4⟩:=vA.o.cells;have zA:=Zh ((vA.o.setE er).setA at');clear r0 r1 r2 q0 q1 q2 vA;go_wp2_with fail;clear e0 a0 q3 q4;generalize World.setCell (World.setCell w2 _ _) _ _=w3 at *;obtain⟨r0,r1,r2,e0,a0,q0,q1,q2,q3,q4⟩:=zA.o.cells;have cA:=Zh ((((zA.o.setR Nl Nl (Iv 0)).setE er).setA at').drew);clear zA;go_wp2_with fail;go_region
 all_goals clear r0 r1 r2 e0 a0 q0 q1 q2 q3 q4
 all_goals go_wp2
 all_goals (refine⟨_,Vj cA.o rfl _ rfl rfl rfl,?_⟩;exact⟨_,rfl,JeZ _ _,cA.o.bel⟩)
end Go.Proofs.YtfafpklefknomaaGreatDoor
