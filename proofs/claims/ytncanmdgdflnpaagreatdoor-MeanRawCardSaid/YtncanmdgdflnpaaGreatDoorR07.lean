import Derived.Defers
import Derived.Recover
import GoSem.Op.String
import Derived.Test.YtncanmdgdflnpaaGreatDoorR06
open List(append_eq_nil_iff getElem?_eq_getElem length_cons length_map map_cons mem_cons not_mem_nil sum_cons)
open Nat(le_refl le_trans)
namespace Go.Proofs.YtncanmdgdflnpaaGreatDoor
open _root_.Go.Proofs.Tryz
set_option linter.all false
set_option maxRecDepth 100000
set_option maxHeartbeats 32000000
def Sh(r:List Tok):Prop:=∀t∈r,t.text.length<=1000000
def Sh.tail{r:List Tok}(h:Sh r):Sh r.tail:=λt ht=>h t (List.mem_of_mem_tail ht)
def Sh.hd{r:List Tok}(h:Sh r):(hd r).text.length<=1000000:=by
 cases r with
 |nil=>show ([]:By).length<=_;simp
 |cons a l=>exact h a zp
def Ki{k:Int}{s:By}{r r':List Tok}(hs:Sh r)(h:acc k s r=some r'):Sh r':=by
 unfold acc at h;split at h
 ·injection h with h;subst h;exact hs.tail
 ·cases h
def JU{k:Int}{s:By}{r r':List Tok}{u:Unit}(hs:Sh r)(h:Qam k s r=.ok u r'):Sh r':=by
 unfold Qam at h;split at h
 ·rename_i r1 h1;injection h with h0 h;subst h;exact Ki hs h1
 ·cases h
def VI{r r':List Tok}{nm:By×Int}(hs:Sh r)(h:Qbl r=.ok nm r'):Sh r'/\nm.1.length<=1000000:=by
 unfold Qbl at h;split at h
 ·injection h with h0 h;subst h h0;exact⟨hs.tail,hs.hd⟩
 ·cases h
def JcV{r r':List Tok}{s:By}(hs:Sh r)(h:QcH r=.ok s r'):Sh r'/\s.length<=1000000:=by
 unfold QcH at h;split at h
 ·injection h with h0 h;subst h h0;exact⟨hs.tail,hs.hd⟩
 ·cases h
def JdP{r r':List Tok}{s:By}(hs:Sh r)(h:QaO r=.ok s r'):Sh r'/\s.length<=1000000:=by
 unfold QaO at h;obtain⟨_,r1,h1,h⟩:=Jd h;obtain⟨_,r2,h2,h⟩:=Jd h;obtain⟨_,r3,h3,h⟩:=Jd h;injection h with h0 h;subst h h0;have s1:=JU hs h1;obtain⟨s2,g2⟩:=JcV s1 h2;exact⟨JU s2 h3,g2⟩
def Jfh{r r':List Tok}{t:Int}(hs:Sh r)(h:Qec r=.ok t r'):Sh r':=by
 unfold Qec at h;split at h
 ·rename_i r1 h1;injection h with h0 h;subst h;exact Ki hs h1
 ·split at h
  ·rename_i r1 h1;injection h with h0 h;subst h;exact Ki hs h1
  ·cases h
def JiR{r r':List Tok}{t:Int}(hs:Sh r)(h:QdI r=.ok t r'):Sh r':=by
 unfold QdI at h
 repeat' split at h
 all_goals first
  |(rename_i r1 h1;injection h with h0 h;subst h;exact Ki hs h1)
  |cases h
def KV{k n:Int}{s:By}{o:Int}{l:List Nd}:WfN (.mk k n s o l)↔(k=19->l.length=2)/\(k=15->l.length=2)/\(k=18->l.length=3)/\s.length<=1000000/\WfL l:=by unfold WfN;rfl
def JN{a:Nd}{l:List Nd}:WfL (a::l)↔WfN a/\WfL l:=by rw[WfL]
def K5:WfL []:=by unfold WfL;trivial
def Jfi{l:List Nd}{a:Nd}(h:WfL l)(ha:WfN a):WfL (l++[a]):=by
 induction l with
 |nil=>exact JN.2 ⟨ha,K5⟩
 |cons x r ih=>
  have:=JN.1 h;exact JN.2 ⟨this.1,ih this.2⟩
def JiS{a:Nd}(h:WfN a)(o:Int):WfN (.mk a.kind a.num a.name o a.kids):=by cases a;rw[KV]at *;exact h
def wf1{k:Int}{n:Int}{s:By}{o:Int}{a:Nd}(N2:k≠19)(Q6:k≠15)(F5:k≠18)(hs:s.length<=1000000)(ha:WfN a):WfN (.mk k n s o [a]):=
 KV.2 ⟨λh=>absurd h N2,λh=>absurd h Q6,λh=>absurd h F5,hs,JN.2 ⟨ha,K5⟩⟩
def wf0{k:Int}{n:Int}{s:By}{o:Int}(N2:k≠19)(Q6:k≠15)(F5:k≠18)(hs:s.length<=1000000):WfN (.mk k n s o []):=
 KV.2 ⟨λh=>absurd h N2,λh=>absurd h Q6,λh=>absurd h F5,hs,K5⟩
def wf2{k:Int}{n:Int}{s:By}{o:Int}{a b:Nd}(F5:k≠18)(hs:s.length<=1000000)(ha:WfN a)(hb:WfN b):WfN (.mk k n s o [a,b]):=
 KV.2 ⟨λ_=>rfl,λ_=>rfl,λh=>absurd h F5,hs,JN.2 ⟨ha,JN.2 ⟨hb,K5⟩⟩⟩
def QkX{P:Prop}(h:P:=by
  unfold opK at h
  repeat' split at h
  all_goals first
   |(injection h with h;subst h;decide)
   |cases h):P:=h
def JjY{lv:Nat}{t:Tok}{k:Int}(h:opK lv t=some k):k≠18:=by
 exact QkX
def QkY{P:Prop}(h:P:=by
  unfold Qfq at h
  repeat' split at h
  all_goals first
   |(injection h with h;subst h;decide)
   |cases h):P:=h
def JiT{t:Tok}{k:Int}(h:Qfq t=some k):k≠18:=by
 exact QkY
def JiU{t:Tok}{k:Int}{a b:Nd}(F5:k≠18)(ha:WfN a)(hb:WfN b):WfN (QeV t k a b):=by
 unfold QeV;split
 ·exact wf2 F5 zp hb ha
 ·split
  ·exact wf1 zd zd zd zp (wf2 F5 zp ha hb)
  ·exact wf2 F5 zp ha hb
def Qot:Md->Prop
 |.loop _ _ a=>WfN a
 |.args nm _ l=>nm.length<=1000000/\WfL l
 |_=>True
def Qnq{P:Prop}(h:P:=by
  obtain⟨_,r2,h2,h⟩:=Jd h;injection h with h0 h;subst h h0;obtain⟨g2,s2⟩:=Kx f _ _ _ _ (Ki hs h1) h2 trivial
  exact⟨wf1 (by decide) (by decide) (by decide) (by simp) g2,s2⟩):P:=h
def Qnj{P:Prop}(h:P:=by
  obtain⟨_,r2,h2,h⟩:=Jd h;injection h with h0 h;subst h h0;obtain⟨s2,g2⟩:=JdP (Ki hs h1) h2
  exact⟨wf0 (by decide) (by decide) (by decide) g2,s2⟩):P:=h
def Qld{P:Prop}(h:P:=by
  injection h with h0 h;subst h h0
  exact⟨wf0 (by decide) (by decide) (by decide) (by simp),Ki hs h1⟩):P:=h
def Kx:∀(f:Nat)(md:Md)(r r':List Tok)(a:Nd),Sh r->pM f md r=.ok a r'->Qot md->WfN a/\Sh r'
 |0,md,r,r',a,hs,h,he=>by unfold pM at h;cases h
 |f+1,.expr,r,r',a,hs,h,he=>by
  rw[pM]at h;split at h
  ·rename_i r1 h1;obtain⟨_,r2,h2,h⟩:=Jd h;obtain⟨_,r3,h3,h⟩:=Jd h;obtain⟨_,r4,h4,h⟩:=Jd h;obtain⟨_,r5,h5,h⟩:=Jd h;obtain⟨_,r6,h6,h⟩:=Jd h;injection h with h0 h;subst h h0;have s1:=Ki hs h1;obtain⟨s2,g2⟩:=VI s1 h2;have s3:=JU s2 h3;obtain⟨g4,s4⟩:=Kx f _ _ _ _ s3 h4 trivial;have s5:=JU s4 h5;obtain⟨g6,s6⟩:=Kx f _ _ _ _ s5 h6 trivial;exact⟨wf2 zd g2 g4 g6,s6⟩
  ·split at h
   ·rename_i r1 h1;obtain⟨_,r2,h2,h⟩:=Jd h;obtain⟨_,r3,h3,h⟩:=Jd h;obtain⟨_,r4,h4,h⟩:=Jd h;obtain⟨_,r5,h5,h⟩:=Jd h;obtain⟨_,r6,h6,h⟩:=Jd h;injection h with h0 h;subst h h0;have s1:=Ki hs h1;obtain⟨g2,s2⟩:=Kx f _ _ _ _ s1 h2 trivial;have s3:=JU s2 h3;obtain⟨g4,s4⟩:=Kx f _ _ _ _ s3 h4 trivial;have s5:=JU s4 h5;obtain⟨g6,s6⟩:=Kx f _ _ _ _ s5 h6 trivial;exact⟨KV.2 ⟨λh=>absurd h zd,λh=>absurd h zd,λ_=>rfl,by simp,JN.2 ⟨g2,JN.2 ⟨g4,JN.2 ⟨g6,K5⟩⟩⟩⟩,s6⟩
   ·exact Kx f _ _ _ _ hs h trivial
 |f+1,.level lv,r,r',a,hs,h,he=>by
  rw[pM]at h;split at h
  ·split at h
   ·rename_i r1 h1;exact Qnq
   ·exact Kx f _ _ _ _ hs h trivial
  ·split at h
   ·split at h
    ·rename_i r1 h1;exact Qnq
    ·exact Kx f _ _ _ _ hs h trivial
   ·obtain⟨_,r1,h1,h⟩:=Jd h;obtain⟨g1,s1⟩:=Kx f _ _ _ _ hs h1 trivial;exact Kx f _ _ _ _ s1 h g1
 |f+1,.loop lv o b,r,r',a,hs,h,he=>by
  rw[pM]at h;split at h
  ·injection h with h0 h;subst h h0;exact⟨he,hs⟩
  ·rename_i k hk;obtain⟨_,r1,h1,h⟩:=Jd h;obtain⟨g1,s1⟩:=Kx f _ _ _ _ hs.tail h1 trivial;exact Kx f _ _ _ _ s1 h (show WfN _ from wf2 (JjY hk) zp he g1)
 |f+1,.cmp,r,r',a,hs,h,he=>by
  rw[pM]at h;obtain⟨x,r1,h1,h⟩:=Jd h;obtain⟨g1,s1⟩:=Kx f _ _ _ _ hs h1 trivial;split at h
  ·injection h with h0 h;subst h h0;exact⟨g1,s1⟩
  ·rename_i k hk;obtain⟨y,r2,h2,h⟩:=Jd h;obtain⟨g2,s2⟩:=Kx f _ _ _ _ s1.tail h2 trivial;injection h with h0 h;subst h h0;exact⟨JiU (JiT hk) g1 g2,s2⟩
 |f+1,.prim,r,r',a,hs,h,he=>by
  rw[pM]at h;split at h
  ·injection h with h0 h;subst h h0;exact⟨wf0 zd zd zd zp,hs.tail⟩
  split at h
  ·rename_i r1 h1;obtain⟨x,r2,h2,h⟩:=Jd h;obtain⟨_,r3,h3,h⟩:=Jd h;injection h with h0 h;subst h h0;obtain⟨g2,s2⟩:=Kx f _ _ _ _ (Ki hs h1) h2 trivial;exact⟨JiS g2 _,JU s2 h3⟩
  split at h
  ·rename_i r1 h1;exact Qld
  split at h
  ·rename_i r1 h1;exact Qld
  split at h
  ·rename_i r1 h1;exact Qnj
  split at h
  ·rename_i r1 h1;exact Qnj
  split at h
  ·injection h with h0 h;subst h h0;exact⟨wf0 zd zd zd hs.hd,hs.tail⟩
  ·exact Kx f _ _ _ _ hs h trivial
 |f+1,.named,r,r',a,hs,h,he=>by
  rw[pM]at h;obtain⟨nm,r1,h1,h⟩:=Jd h;obtain⟨s1,g1⟩:=VI hs h1;split at h
  ·injection h with h0 h;subst h h0;exact⟨wf0 zd zd zd g1,s1⟩
  ·rename_i r2 h2;split at h
   ·rename_i r3 h3;injection h with h0 h;subst h h0;exact⟨wf0 zd zd zd g1,Ki (Ki s1 h2) h3⟩
   ·exact Kx f _ _ _ _ (Ki s1 h2) h (show _/\_ from⟨g1,K5⟩)
 |f+1,.args nm o l,r,r',a,hs,h,he=>by
  obtain⟨yA,xA⟩:nm.length<=1000000/\WfL l:=he;rw[pM]at h;obtain⟨x,r1,h1,h⟩:=Jd h;obtain⟨g1,s1⟩:=Kx f _ _ _ _ hs h1 trivial;split at h
  ·rename_i r2 h2;exact Kx f _ _ _ _ (Ki s1 h2) h (show _/\_ from⟨yA,Jfi xA g1⟩)
  ·obtain⟨_,r2,h2,h⟩:=Jd h;injection h with h0 h;subst h h0;exact⟨KV.2 ⟨λh=>absurd h zd,λh=>absurd h zd,λh=>absurd h zd,yA,Jfi xA g1⟩,JU s1 h2⟩
def QkQ(f:FnS):Prop:=WfN f.body/\f.name.1.length<=1000000
def Qmc(c:ClS):Prop:=WfN c.cond
def Zq:∀(f:Nat)(ps:List (By×Int))(ts:List Int)(r r':List Tok) a,Sh r->QaT f ps ts r=.ok a r'->Sh r'
 |0,_,_,_,_,_,_,h=>by cases h
 |f+1,ps,ts,r,r',a,hs,h=>by
  rw[QaT]at h;obtain⟨_,r1,h1,h⟩:=Jd h;obtain⟨_,r2,h2,h⟩:=Jd h;obtain⟨_,r3,h3,h⟩:=Jd h;have s3:=Jfh (JU (VI hs h1).1 h2) h3;split at h
  ·rename_i r4 h4;exact Zq f _ _ _ _ _ (Ki s3 h4) h
  ·obtain⟨_,r4,h4,h⟩:=Jd h;injection h with h0 h;subst h h0;exact JU s3 h4
def JiV{f:Nat}{r r':List Tok}{x:FnS}(hs:Sh r)(h:Qfo f r=.ok x r'):QkQ x/\Sh r':=by
 unfold Qfo at h;obtain⟨nm,r1,h1,h⟩:=Jd h;obtain⟨_,r2,h2,h⟩:=Jd h;obtain⟨pt,r3,h3,h⟩:=Jd h;obtain⟨_,r4,h4,h⟩:=Jd h;obtain⟨_,r5,h5,h⟩:=Jd h;obtain⟨_,r6,h6,h⟩:=Jd h;obtain⟨_,r7,h7,h⟩:=Jd h;injection h with h0 h;subst h h0;obtain⟨s1,g1⟩:=VI hs h1;have s2:=JU s1 h2
 have s3:Sh r3:=by
  split at h3
  ·rename_i r9 h9;injection h3 with h0 h3;subst h3;exact Ki s2 h9
  ·exact Zq _ _ _ _ _ _ s2 h3
 have s6:=JU (Jfh (JU s3 h4) h5) h6;obtain⟨g7,s7⟩:=Kx _ _ _ _ _ s6 h7 trivial;exact⟨⟨g7,g1⟩,s7⟩
def JcW(g:Nat):∀(f:Nat)(l:List FnS)(r r':List Tok) a,Sh r->(∀x∈l,QkQ x)->QcR g f l r=.ok a r'->(∀x∈a,QkQ x)/\Sh r'
 |0,_,_,_,_,_,_,h=>by cases h
 |f+1,l,r,r',a,hs,hl,h=>by
  rw[QcR]at h;split at h
  ·rename_i r1 h1;obtain⟨x,r2,h2,h⟩:=Jd h;obtain⟨g1,g2⟩:=JiV (Ki hs h1) h2
   exact JcW g f _ _ _ _ g2 (by
    intro y hy
    rcases List.mem_append.1 hy with hy|hy
    ·exact hl y hy
    ·obtain rfl:y=x:=by simpa using hy
     exact g1) h
  ·injection h with h0 h;subst h h0;exact⟨hl,hs⟩
def YU(g:Nat):∀(f:Nat)(l:List ClS)(r r':List Tok) a,Sh r->(∀x∈l,Qmc x)->QaR g f l r=.ok a r'->(∀x∈a,Qmc x)/\Sh r'
 |0,_,_,_,_,_,_,h=>by cases h
 |f+1,l,r,r',a,hs,hl,h=>by
  rw[QaR]at h;split at h
  ·rename_i r1 h1;obtain⟨x,r2,h2,h⟩:=Jd h;obtain⟨_,r3,h3,h⟩:=Jd h;obtain⟨_,r4,h4,h⟩:=Jd h;obtain⟨_,r5,h5,h⟩:=Jd h;obtain⟨g1,s2⟩:=Kx _ _ _ _ _ (Ki hs h1) h2 trivial;have s4:=JiR (JU s2 h3) h4
   exact YU g f _ _ _ _ (JcV s4 h5).1 (by
    intro y hy
    rcases List.mem_append.1 hy with hy|hy
    ·exact hl y hy
    ·obtain rfl:y=_:=by simpa using hy
     exact g1) h
  ·injection h with h0 h;subst h h0;exact⟨hl,hs⟩
def JiW{f:Nat}{r r':List Tok}{s:Src}(hs:Sh r)(h:Qfb f r=.ok s r'):(∀x∈s.funcs,QkQ x)/\∀x∈s.clauses,Qmc x:=by
 unfold Qfb at h;obtain⟨fs,r1,h1,h⟩:=Jd h;obtain⟨cs,r2,h2,h⟩:=Jd h;obtain⟨_,r3,h3,h⟩:=Jd h;obtain⟨_,r4,h4,h⟩:=Jd h;obtain⟨g1,s1⟩:=JcW _ _ _ _ _ _ hs zp h1;obtain⟨g2,s2⟩:=YU _ _ _ _ _ _ s1 zp h2;split at h
 ·injection h with h0 h;subst h0;exact⟨g1,g2⟩
 ·cases h
def Zr{fs:List By}{s:By}{k:Nat}(h:Qag fs s=some k):k<fs.length:=by
 unfold Qag at h;rw[List.findIdx?_eq_some_iff_findIdx_eq]at h;exact h.1
def QlB{P:Prop}(h:P:=by
  subst hk
  exact⟨KV.2 ⟨λh=>absurd h (by decide),λh=>absurd h (by decide),λh=>absurd h (by decide),by simp,q1⟩,by rw[JA,JA,q2]⟩):P:=h
mutual
def YV(fs:List By):∀(M0:List By)(a:Nd),WfN a->WfN (Qdq fs M0 a).1/\siz (Qdq fs M0 a).1=siz a
 |M0,.mk k n s o l,h=>by
  rw[KV]at h;obtain⟨w19,w15,w18,ws,wl⟩:=h;rw[K2];obtain⟨q1,q2,q3⟩:=Jfj fs M0 l wl;split
  ·rename_i hk;exact QlB
  split
  ·rename_i hk;exact QlB
  split
  ·rename_i hk;subst hk
   match l,w19 rfl,wl with
   |[a,b],_,wl=>
    rw[JN,JN]at wl;obtain⟨x1,x2⟩:=YV fs M0 a wl.1;obtain⟨y1,y2⟩:=YV fs (M0++[s]) b wl.2.1;exact⟨wf2 (by decide) (by simp) x1 y1,by simp only[JA,Ju,JG,x2,y2]⟩
  ·exact⟨KV.2 ⟨λh=>by rw[q3];exact w19 h,λh=>by rw[q3];exact w15 h,λh=>by rw[q3];exact w18 h,ws,q1⟩,by rw[JA,JA,q2]⟩
def Jfj(fs:List By):∀(M0:List By)(l:List Nd),WfL l->WfL (Qcb fs M0 l).1/\Qaz (Qcb fs M0 l).1=Qaz l/\(Qcb fs M0 l).1.length=l.length
 |M0,[],h=>by rw[Qcb];exact⟨K5,rfl,rfl⟩
 |M0,a::l,h=>by
  rw[JN]at h;rw[Qcb];obtain⟨x1,x2⟩:=YV fs M0 a h.1;obtain⟨y1,y2,y3⟩:=Jfj fs M0 l h.2;exact⟨JN.2 ⟨x1,y1⟩,by simp only[Ju,x2,y2],by simp only[length_cons,y3]⟩
end
def Jae{nf nv:Nat}{k n:Int}{s:By}{o:Int}{l:List Nd}(h2:k=2->0<=n/\n<nv)(O2:k=20->0<=n/\n<nf)(N2:k≠19)(hl:QeH nf nv l):QeI nf nv (.mk k n s o l):=by
 unfold QeI;refine⟨h2,O2,?_⟩;rw[zzq N2];exact hl
mutual
def YW(fs:List By):∀(M0:List By)(a:Nd),WfN a->(Qdq fs M0 a).2=[]->QeI fs.length M0.length (Qdq fs M0 a).1
 |M0,.mk k n s o l,hw,h=>by
  rw[KV]at hw;obtain⟨w19,w15,w18,ws,wl⟩:=hw;rw[K2]at h |-;split at h
  ·rename_i hk;subst hk;rw[if_pos rfl];simp only[append_eq_nil_iff]at h;have hx:=(VC s _ M0 rfl).2;have hlt:¬Qbh M0 s<0:=λhc=>by rw[if_pos hc]at h;exact absurd h.1 (by simp)
   exact Jae (λ_=>⟨by omega,hx⟩) (λh=>absurd h (by decide)) (by decide) (Jaf fs M0 l wl h.2)
  rename_i UA;rw[if_neg UA];split at h
  ·rename_i hk;subst hk;rw[if_pos rfl];simp only[append_eq_nil_iff]at h
   cases hf:Qag fs s with
   |none=>
    rw[hf]at h;simp at h
   |some q=>
    have hlt:=Zr hf;exact Jae (λh=>absurd h (by decide)) (λ_=>⟨by simp[Option.getD],by simp only[Option.getD];omega⟩) (by decide) (Jaf fs M0 l wl h.2)
  rename_i K8;rw[if_neg K8];split at h
  ·rename_i hk;subst hk;rw[if_pos rfl]
   match l,w19 rfl,wl,h with
   |[a,b],_,wl,h=>
    rw[JN,JN]at wl;simp only[append_eq_nil_iff]at h;have x:=YW fs M0 a wl.1 h.1;have y:=YW fs (M0++[s]) b wl.2.1 h.2;rw[List.length_append,List.length_singleton]at y;unfold QeI;exact⟨λh=>absurd h (by decide),λh=>absurd h (by decide),x,y⟩
  ·rename_i T4;rw[if_neg T4];exact Jae (λh=>absurd h UA) (λh=>absurd h K8) T4 (Jaf fs M0 l wl h)
def Jaf(fs:List By):∀(M0:List By)(l:List Nd),WfL l->(Qcb fs M0 l).2=[]->QeH fs.length M0.length (Qcb fs M0 l).1
 |M0,[],hw,h=>by rw[Qcb];unfold QeH;trivial
 |M0,a::l,hw,h=>by
  rw[JN]at hw;rw[Qcb]at h |-;simp only[append_eq_nil_iff]at h;unfold QeH;exact⟨YW fs M0 a hw.1 h.1,Jaf fs M0 l hw.2 h.2⟩
end
def VZ{l:List Int}(h:Qbq l=none):l=[]:=by
 cases l with
 |nil=>rfl
 |cons a l=>rw[Qbq]at h;cases h
def Zs{s:Src}{m:Nat}(h1:∀f∈s.funcs,QkQ f/\siz f.body<=m/\f.types.length<=m/\f.params.length=f.types.length)(h2:∀c∈s.clauses,Qmc c/\siz c.cond<=m)(he:Qbq (Qae s).2=none):
  (∀f∈(Qae s).1.funcs,WfN f.body/\siz f.body<=m/\f.types.length<=m/\QeI (Qae s).1.funcs.length f.types.length f.body)/\(∀c∈(Qae s).1.clauses,WfN c.cond/\siz c.cond<=m/\QeI (Qae s).1.funcs.length 0 c.cond)/\(Qae s).1.funcs.length=s.funcs.length/\(Qae s).1.clauses.length=s.clauses.length:=by
 have hn:=VZ he;unfold Qae at hn |-;simp only[append_eq_nil_iff,List.flatten_eq_nil_iff]at hn;obtain⟨⟨_,e1⟩,e2⟩:=hn;have hfl:(s.funcs.map (·.name.1)).length=s.funcs.length:=zp
 refine⟨λf hf=>?_,λc hc=>?_,by simp,by simp⟩
 ·simp only[List.mem_map]at hf;obtain⟨_,⟨g,hg,rfl⟩,rfl⟩:=hf;obtain⟨q1,q2,q3,q4⟩:=h1 g hg;have e:=e1 (resF (s.funcs.map (·.name.1)) g).2 (List.mem_map.2 ⟨_,List.mem_map.2 ⟨g,hg,rfl⟩,rfl⟩);unfold resF at e;simp only[append_eq_nil_iff]at e;obtain⟨w1,w2⟩:=YV (s.funcs.map (·.name.1)) (g.params.map (·.1)) g.body q1.1;have ty:=YW (s.funcs.map (·.name.1)) (g.params.map (·.1)) g.body q1.1 e.2;rw[length_map,length_map,q4]at ty;refine⟨w1,by show siz (Qdq _ _ _).1<=m;rw[w2];exact q2,q3,?_⟩;simp only[length_map];exact ty
 ·simp only[List.mem_map]at hc;obtain⟨_,⟨g,hg,rfl⟩,rfl⟩:=hc;obtain⟨q1,q2⟩:=h2 g hg;have e:=e2 (resC (s.funcs.map (·.name.1)) g).2 (List.mem_map.2 ⟨_,List.mem_map.2 ⟨g,hg,rfl⟩,rfl⟩);unfold resC at e;obtain⟨w1,w2⟩:=YV (s.funcs.map (·.name.1)) [] g.cond q1;have ty:=YW (s.funcs.map (·.name.1)) [] g.cond q1 e;rw[length_map]at ty;refine⟨w1,by show siz (Qdq _ _ _).1<=m;rw[w2];exact q2,?_⟩;simp only[length_map];exact ty
open Go.ChangeShapes Go.WideShapes Go.ChangeAt Go.RowKit Go.Lib
def Jch(p q s:Addr)(w:World):
  CallsD prog 33 #[.pointer (some p),.pointer (some q),.pointer (some s)] .returning w λe u' w'=>e=.returned (.tuple #[])/\u'=.returning/\Below w.heap.size w w':=by
 have ta:∀w,(Instr.typeAssert .nilIface 20 69 true).run prog w=.ok (.tuple #[.agg #[Iv 0,Iv 0],.bool false]) w:=λ_=>by kernel_rfl
 refine callsD_of_wpS func33 rfl λc₀ cs hu=>?_
 apply wpS_seq;apply wpS_region;simp[wpOpsS,go_sem,recoverD,hu,ntmps33,Exit.thenS,ta];apply wpS_seq;apply wpS_region;simp[wpOpsS,go_sem,Exit.thenS];refine wpS_cond (t:=false) (by simp[Act.eval,Array.replicate]) ?_;simp only[Bool.false_eq_true,if_false];refine wpS_of_wp (wp_skip ?_)
 cases c₀
 simp only[bodyPostS,results,results33];refine⟨by simp,.returning,by simp_all,.tuple #[],by simp[go_sem],rfl,rfl,zzb.alloc zzl _⟩
def Jfk{r e a:Nat}(er o:Int){f0 f1 f2 e0 a0:Value}{w:World}{tr te ta:Nat}(hr:w.heap[r]?=some (.cells #[f0,f1,f2] tr (0,0)))(he:w.heap[e]?=some (.cells #[e0] te (0,0)))(ha:w.heap[a]?=some (.cells #[a0] ta (0,0)))(h1:r≠e)(h2:r≠a)(h3:e≠a)(X:Obj):
  ∀W,W=((((((w.setCell ⟨r,0,none⟩ Nl).setCell ⟨r,1,none⟩ Nl).setCell ⟨r,2,none⟩ (Iv 0)).setCell ⟨e,0,none⟩ (Iv er)).setCell ⟨a,0,none⟩ (Iv o)).alloc X).drew->
  W.heap[r]?=some (.cells #[Nl,Nl,Iv 0] tr (0,0))/\W.heap[e]?=some (.cells #[Iv er] te (0,0))/\W.heap[a]?=some (.cells #[Iv o] ta (0,0))/\Chg [r,e,a] w W:=by
 rintro W rfl;have g1:=QkG Nl Nl (Iv 0) hr
 have g2:((((w.setCell ⟨r,0,none⟩ Nl).setCell ⟨r,1,none⟩ Nl).setCell ⟨r,2,none⟩ (Iv 0)).setCell ⟨e,0,none⟩ (Iv er)).heap[e]?=some (.cells #[Iv er] te (0,0)):=
  heap_setCell_same _ _ 0 _ _ _ (Jh (Jh (Jh he (λh=>h1 h.symm) _) (λh=>h1 h.symm) _) (λh=>h1 h.symm) _)
 refine⟨?_,?_,?_,?_⟩
 ·show ((World.alloc _ X).heap)[r]?=_
  exact Jf (Jh (Jh g1 h1 _) h2 _)
 ·show ((World.alloc _ X).heap)[e]?=_
  exact Jf (Jh g2 h3 _)
 ·show ((World.alloc _ X).heap)[a]?=_
  refine Jf (heap_setCell_same _ _ 0 _ _ _ (Jh (Jh (Jh (Jh ha (λh=>h2 h.symm) _) (λh=>h2 h.symm) _) (λh=>h2 h.symm) _) (λh=>h3 h.symm) _))
 ·exact((((((Chg.refl _ _).setCell (.inl zp) _).setCell (.inl zp) _).setCell (.inl zp) _).setCell (.inl zp) _).setCell (.inl zp) _).alloc _ |>.drew
def Yc(r e a:Nat)(er o:Int)(older:List PanicEntry)(f0 f1 f2:Value)(e0 a0:Int)(w:World)(hr:w.heap[r]?=some (.cells #[f0,f1,f2] 30 (0,0)))(he:w.heap[e]?=some (.cells #[Iv e0] 31 (0,0)))(ha:w.heap[a]?=some (.cells #[Iv a0] 3 (0,0)))(h1:r≠e)(h2:r≠a)(h3:e≠a):
  CallsD prog 33 #[Pt r,Pt e,Pt a] (.panicking ({v:=QhJ er o,recovered:=false}::older)) w λen u' w'=>
   en=.returned (.tuple #[])/\u'=.panicking ({v:=QhJ er o,recovered:=true}::older)/\w'.heap[r]?=some (.cells #[Nl,Nl,Iv 0] 30 (0,0))/\w'.heap[e]?=some (.cells #[Iv er] 31 (0,0))/\w'.heap[a]?=some (.cells #[Iv o] 3 (0,0))/\Chg [r,e,a] w w':=by
 have ta:∀w,(Instr.typeAssert (QhJ er o) 20 69 true).run prog w=.ok (.tuple #[.agg #[Iv er,Iv o],.bool true]) w:=λ_=>by kernel_rfl
 refine callsD_of_wpS func33 rfl λc₀ cs hu=>?_
 apply wpS_seq;apply wpS_region;simp[wpOpsS,go_sem,recoverD,hu,ntmps33,Exit.thenS,ta];apply wpS_seq;apply wpS_region;simp[wpOpsS,go_sem,Exit.thenS];refine wpS_cond (t:=true) (by simp[Act.eval,Array.replicate]) ?_;simp only[if_true];refine wpS_of_wp ?_;have hl:=Jb hr;have hle:=Jb he;have xA:=Jb ha;have r0:=Ja hr 0;have r1:=Ja hr 1;have r2:=Ja hr 2;have e1:=Ja he 0;have a1:=Ja ha 0;have q0:=Jc hr 0;have q1:=Jc hr 1;have q2:=Jc hr 2;have q3:=Jc he 0;have q4:=Jc ha 0;simp only[zW]at r0 r1 r2 e1 a1;have n1:=Ne.symm h1;have n2:=Ne.symm h2;have n3:=Ne.symm h3;go_region
 all_goals have fin:=Jfk er o hr he ha h1 h2 h3 (.cells #[Iv er,Iv o] 69)
 all_goals clear hr he ha r0 r1 r2 e1 a1 q0 q1 q2 q3 q4 hl hle xA ta
 all_goals (cases c₀;simp only[bodyPostS,results,results33];refine⟨by trivial,_,rfl,.tuple #[],by simp[go_sem],rfl,rfl,fin _ rfl⟩)
def QcD(l:By):Qah×Int×Int:=
 if (QaQ l).2.1=0 then (QcV (12*((QaQ l).1.length+1)) (QaQ l).1).getD (QaY,0,0) else (QaY,(QaQ l).2.1,(QaQ l).2.2)
def PsP(w:World)(X:Qah×Int×Int)(e:Ending)(w':World):Prop:=
 ∃c,e=.returned (.tuple #[.agg c,Iv X.2.1,Iv X.2.2])/\QaV w' (λb=>w.heap.size<=b/\b<w'.heap.size) X.1 c/\Below w.heap.size w w'
def JcX(W:World)(P:Nat->Prop):QaV W P QaY #[Nl,Nl,Iv 0]:=
 ⟨_,_,rfl,⟨none,0,[],rfl,Nat.le_refl _,rfl,.inl rfl⟩,⟨none,0,[],rfl,Nat.le_refl _,rfl,.inl rfl⟩⟩
structure Res(w W:World)(rs:Array Value)(er a:Int):Prop where
 r:W.heap[w.heap.size]?=some (.cells rs 30 (0,0))
 e:W.heap[w.heap.size+1]?=some (.cells #[Iv er] 31 (0,0))
 a:W.heap[w.heap.size+2]?=some (.cells #[Iv a] 3 (0,0))
 bel:Below w.heap.size w W
def KP{w W:World}{rs:Array Value}{er a:Int}(h:Res w W rs er a)(hs:rs.size=3)(tmps:Array Value)(h2:tmps.getD 2 undef=Pt w.heap.size)(h3:tmps.getD 3 undef=.pointer (some ⟨w.heap.size+1,0,none⟩))(h4:tmps.getD 4 undef=.pointer (some ⟨w.heap.size+2,0,none⟩)):
  (results f11 tmps).run prog W=.ok (.tuple #[.agg rs,Iv er,Iv a]) W:=by
 have q2:tmps[2]?.getD undef=Pt w.heap.size:=by simpa using h2
 have q3:tmps[3]?.getD undef=.pointer (some ⟨w.heap.size+1,0,none⟩):=by simpa using h3
 have q4:tmps[4]?.getD undef=.pointer (some ⟨w.heap.size+2,0,none⟩):=by simpa using h4
 have c1:W.cell? ⟨w.heap.size+1,0,none⟩=some (Iv er):=Ja h.e 0;have c2:W.cell? ⟨w.heap.size+2,0,none⟩=some (Iv a):=Ja h.a 0;have l1:=run_loadVar_row (P:=prog) W w.heap.size 30 30 rs (0,0) _ h.r underlying30 rfl (by rw[hs];exact QgS);have l2:(loadVar 31 ⟨w.heap.size+1,0,none⟩).run prog W=.ok (Iv er) W:=by simp[go_sem,c1]
 have l3:(loadVar 3 ⟨w.heap.size+2,0,none⟩).run prog W=.ok (Iv a) W:=by simp[go_sem,c2]
 simp[results,results11,q2,q3,q4,asAddr,l1,l2,l3]
def Res.up{w W W':World}{rs:Array Value}{er a:Int}(h:Res w W rs er a)(hb:Below W.heap.size W W'):Res w W' rs er a:=
 ⟨(hb.block _ (Jb h.r)).trans h.r,(hb.block _ (Jb h.e)).trans h.e,(hb.block _ (Jb h.a)).trans h.a,Je h.bel hb⟩
def Res.setE{w W:World}{rs:Array Value}{er a:Int}(h:Res w W rs er a)(n:Int):Res w (W.setCell ⟨w.heap.size+1,0,none⟩ (Iv n)) rs n a:=
 ⟨Jh h.r zp _,heap_setCell_same _ _ 0 _ _ _ h.e,Jh h.a zp _,h.bel.setCell zp _⟩
def Res.setA{w W:World}{rs:Array Value}{er a:Int}(h:Res w W rs er a)(n:Int):Res w (W.setCell ⟨w.heap.size+2,0,none⟩ (Iv n)) rs er n:=
 ⟨Jh h.r zp _,Jh h.e zp _,heap_setCell_same _ _ 0 _ _ _ h.a,h.bel.setCell zp _⟩
def Res.setR{w W:World}{f0 f1 f2:Value}{er a:Int}(h:Res w W #[f0,f1,f2] er a)(v0 v1 v2:Value):Res w (((W.setCell ⟨w.heap.size,0,none⟩ v0).setCell ⟨w.heap.size,1,none⟩ v1).setCell ⟨w.heap.size,2,none⟩ v2) #[v0,v1,v2] er a:=
 ⟨QkG v0 v1 v2 h.r,Jh (Jh (Jh h.e zp _) zp _) zp _,Jh (Jh (Jh h.a zp _) zp _) zp _,((h.bel.setCell zp _).setCell zp _).setCell zp _⟩
def Res.drew{w W:World}{rs:Array Value}{er a:Int}(h:Res w W rs er a):Res w W.drew rs er a:=⟨h.r,h.e,h.a,h.bel.drew⟩
structure Qov(w W:World)(f0 f1 f2:Value)(er a:Int):Prop where
 r0:W.cell? ⟨w.heap.size,0,none⟩=some f0
 r1:W.cell? ⟨w.heap.size,1,none⟩=some f1
 r2:W.cell? ⟨w.heap.size,2,none⟩=some f2
 e0:W.cell? ⟨w.heap.size+1,0,none⟩=some (Iv er)
 a0:W.cell? ⟨w.heap.size+2,0,none⟩=some (Iv a)
 q0:W.frozen? ⟨w.heap.size,0,none⟩=false
 q1:W.frozen? ⟨w.heap.size,1,none⟩=false
 q2:W.frozen? ⟨w.heap.size,2,none⟩=false
 q3:W.frozen? ⟨w.heap.size+1,0,none⟩=false
 q4:W.frozen? ⟨w.heap.size+2,0,none⟩=false
def Res.cells{w W:World}{f0 f1 f2:Value}{er a:Int}(h:Res w W #[f0,f1,f2] er a):Qov w W f0 f1 f2 er a:=
 ⟨Ja h.r 0,Ja h.r 1,Ja h.r 2,Ja h.e 0,Ja h.a 0,Jc h.r 0,Jc h.r 1,Jc h.r 2,Jc h.e 0,Jc h.a 0⟩
def QnK{P:Prop}(h:P:=by
  have e1:=zzw (w.alloc (.cells #[.slice none 0 0,.slice none 0 0,Iv 0] 30)) (.cells #[Iv 0] 31);have e2:=zzw ((w.alloc (.cells #[.slice none 0 0,.slice none 0 0,Iv 0] 30)).alloc (.cells #[Iv 0] 31)) (.cells #[Iv 0] 3);simp only[World.size_alloc]at e1 e2
  exact⟨Jf (Jf (zzw _ _)),Jf e1,e2,((zzb.alloc zzl _).alloc (by simp) _).alloc (by simp;omega) _⟩):P:=h
def JdQ(l:By)(w:World)(hl:l.length<=281474976710655)(hL:Laid w)(h:(QaQ l).2.1≠0):
  Calls prog 11 #[Sv l] w (PsP w (QaY,(QaQ l).2.1,(QaQ l).2.2)):=by
 obtain⟨T,er,at',uA⟩:∃T er at',QaQ l=(T,er,at'):=⟨_,_,_,rfl⟩
 rw[uA]at h |-;simp only at h |-;have cA:(er==(0:Int))=false:=by simpa using h
 have aA:Res w (((w.alloc (.cells #[Nl,Nl,Iv 0] 30)).alloc (.cells #[Iv 0] 31)).alloc (.cells #[Iv 0] 3)) #[Nl,Nl,Iv 0] 0 0:=by
  exact QnK
 have yA:=Zh aA;go_enter_defers func11,ntmps11;go_wp2_with fail;generalize World.alloc (World.alloc (World.alloc w _) _) _=w1 at*;have hw1:=hL.below yA.o.bel;refine(JcC l w1 hl hw1).mono ?_;rw[uA];rintro e w2 ⟨v,rfl,xA,hb⟩;obtain⟨va,vc,rfl⟩:=Z0 xA;have vA:=Zh (yA.o.up hb);obtain⟨r0,r1,r2,e0,a0,q0,q1,q2,q3,q4⟩:=vA.o.cells;have zA:=Zh ((vA.o.setE er).setA at');go_wp2_with fail;generalize World.setCell (World.setCell w2 _ _) _ _=w3 at*;obtain⟨r0,r1,r2,e0,a0,q0,q1,q2,q3,q4⟩:=zA.o.cells;have bA:=Zh ((((zA.o.setR Nl Nl (Iv 0)).setE er).setA at').drew);go_wp2_with fail;go_region
 all_goals clear r0 r1 r2 e0 a0 q0 q1 q2 q3 q4
 all_goals go_wp2
 all_goals (refine⟨_,KP bA.o rfl _ rfl rfl rfl,?_⟩;exact⟨_,rfl,JcX _ _,bA.o.bel⟩)
def JjZ:∀(l:By)(k:Nat)(ts:List Tok),sc k l=.ok ts->ts.length<=l.length+1:=by
 refine ZX (P:=λk l=>∀ts,sc k l=.ok ts->ts.length<=l.length+1) ?_ ?_ ?_ ?_
 ·intro k ts h;rw[JcB]at h;injection h with h;subst h;simp
 ·intro k c r hs ih ts h;rw[JgB k r hs]at h;have:=ih ts h;simp;omega
 ·intro k c r hs ht ts h;rw[ZV k r hs ht]at h
  cases h
 ·intro k c r t n hs ht _ _ ih ts h;rw[ZW k r hs ht]at h;obtain⟨r',h1,rfl⟩:=JbI h;have:=ih _ h1;have hn:=(Jao ht).2;simp only[List.length_drop,length_cons]at this |-;have h3:n<=r.length+1:=by have:=hn.2.1;simpa using this
  omega
def JaY{l:By}{T:List Tok}{at':Int}(h:QaQ l=(T,0,at')):at'=0/\T.length<=4097/\(∀t∈T,t.text.length<=24)/\0<T.length/\∀i t,T[i]?=some t->(t.kind=4↔i+1=T.length):=by
 unfold QaQ at h;split at h
 ·simp at h
 ·cases hs:sc 0 l with
  |err k=>rw[hs]at h;simp at h
  |ok ts=>
   rw[hs]at h;simp at h;obtain⟨rfl,rfl⟩:=h;have h1:=JjZ _ _ _ hs;obtain⟨us,rfl,h2,_⟩:=Jis _ _ _ hs;refine⟨rfl,by omega,?_,by simp,?_⟩
   ·intro t ht
    rcases List.mem_append.1 ht with ht|ht
    ·exact(h2 t ht).2.2.1
    ·simp at ht;subst ht;simp
   ·intro i t hi
    by_cases hl:i<us.length
    ·rw[List.getElem?_append_left hl]at hi;have:=(h2 t (List.mem_of_getElem? hi)).2.1;simp;omega
    ·rw[List.getElem?_append_right zo]at hi;have:i-us.length=0:=by have:=(List.getElem?_eq_some_iff.1 hi).1;simp at this;omega
     rw[this]at hi;simp at hi;subst hi;simp;omega
def JiX{W:World}{base:Nat}{v:Value}{T:List Tok}(h:W.ownsRow base 105 4 v T.length (Qax T))(h0:0<T.length):∃A C,v=.slice A T.length C/\∃b,A=some ⟨b,0,none⟩/\b<W.heap.size/\∀i t,T[i]?=some t->∀j u,(Qdw t).toList[j]?=some u->W.cell? ⟨b,i*4+j,none⟩=some u:=by
 obtain⟨A,C,hv,hA⟩:=KU h;refine⟨A,C,hv,Value.blk v,hA h0,?_,λi t hi j u hj=>?_⟩
 ·have hc:(Qax T)[0]?≠none:=by
   cases T with
   |nil=>simp at h0
   |cons t r=>simp[Qax]
  obtain⟨u,hu⟩:=Option.ne_none_iff_exists'.1 hc;exact Ze (JT h hu)
 ·refine JT h ?_
  have e:∀T:List Tok,Qax T=T.flatMap λt=>(Qdw t).toList:=by
   intro T
   induction T with
   |nil=>rfl
   |cons a r ih=>rw[Qax,ih,List.flatMap_cons];rfl
  rw[e];exact Kd (cells:=λt=>(Qdw t).toList) (size:=4) (λ_=>rfl) T i j t u hi hj
def Jka{W:World}{base:Nat}{v:Value}{T:List Tok}(h:W.ownsRow base 105 4 v T.length (Qax T))(h0:0<T.length)(hr:T.length<=4097)(hf:∀i t,T[i]?=some t->(t.kind=4↔i+1=T.length)):
  ∃A C,v=.slice A T.length C/\PAt (W.alloc (.cells #[v,Iv 0] 73)) W.heap.size A C T 0:=by
 obtain⟨A,C,rfl,b,rfl,hb,hc⟩:=JiX h h0;refine⟨_,C,rfl,zzw _ _,⟨b,0,rfl,by omega,λi t hi j u hj=>?_⟩,h0,hf,by omega⟩;rw[Nat.zero_add];have:=hc i t hi j u hj;exact(World.cell?_of_block (a:=⟨b,i*4+j,none⟩) (Below.heap_alloc _ _ _ hb)).trans this
def Res.on{S:List Nat}{w W W':World}{rs:Array Value}{er a:Int}(h:Res w W rs er a)(hc:Chg S W W')(hs:∀b∈S,w.heap.size+3<=b):Res w W' rs er a:=
 ⟨hc.heap_some (λhm=>by have:=hs _ hm;omega) h.r,hc.heap_some (λhm=>by have:=hs _ hm;omega) h.e,hc.heap_some (λhm=>by have:=hs _ hm;omega) h.a,
  ⟨hc.os.trans h.bel.os,hc.tape.trans h.bel.tape,hc.output.trans h.bel.output,le_trans h.bel.size hc.size,λq hq=>(hc.block q (Nat.lt_of_lt_of_le hq h.bel.size) λhm=>by have:=hs _ hm;omega).trans (h.bel.block q hq)⟩⟩
def Res.low{w W W':World}{sb:Nat}{rs:Array Value}{er a:Int}(h:Res w W rs er a)(hc:Below sb W W')(hs:w.heap.size+3<=sb):Res w W' rs er a:=
 ⟨(hc.block _ zo).trans h.r,(hc.block _ zo).trans h.e,(hc.block _ zo).trans h.a,
  ⟨hc.os.trans h.bel.os,hc.tape.trans h.bel.tape,hc.output.trans h.bel.output,le_trans h.bel.size hc.size,λq hq=>(hc.block q zo).trans (h.bel.block q hq)⟩⟩
def Yp{w W:World}{f0 f1 f2:Value}{e0 a0:Int}(er o:Int)(h:Res w W #[f0,f1,f2] e0 a0)(tmps:Array Value)(h2:tmps.getD 2 undef=Pt w.heap.size)(h3:tmps.getD 3 undef=.pointer (some ⟨w.heap.size+1,0,none⟩))(h4:tmps.getD 4 undef=.pointer (some ⟨w.heap.size+2,0,none⟩)):
  Leaves prog f11 tmps (PsP w (QaY,er,o)) [{target:=.fn (.func 33) #[Pt w.heap.size,.pointer (some ⟨w.heap.size+1,0,none⟩),.pointer (some ⟨w.heap.size+2,0,none⟩)],args:=#[]}] (.panicking [{v:=QhJ er o,recovered:=false}]) W:=by
 refine leaves_cons (f:=33) (args:=#[Pt w.heap.size,.pointer (some ⟨w.heap.size+1,0,none⟩),.pointer (some ⟨w.heap.size+2,0,none⟩)]) zp (by simp[go_sem]) ?_;refine(Yc _ _ _ er o [] f0 f1 f2 e0 a0 W h.r h.e h.a zo zo zo).mono ?_;rintro e u' xA ⟨rfl,rfl,g1,g2,g3,hc⟩;have hR:Res w xA #[Nl,Nl,Iv 0] er o:=⟨g1,g2,g3,⟨hc.os.trans h.bel.os,hc.tape.trans h.bel.tape,hc.output.trans h.bel.output,le_trans h.bel.size hc.size,λq hq=>(hc.block q (Nat.lt_of_lt_of_le hq h.bel.size) zq).trans (h.bel.block q hq)⟩⟩
 exact⟨_,KP hR rfl tmps h2 h3 h4,_,rfl,JcX _ _,hR.bel⟩
def JiY{w W:World}{c:Array Value}{e0 a0:Int}{r:Qah}(h:Res w W c e0 a0)(hs:c.size=3)(hx:QaV W (λb=>w.heap.size<=b/\b<W.heap.size) r c)(tmps:Array Value)(h2:tmps.getD 2 undef=Pt w.heap.size)(h3:tmps.getD 3 undef=.pointer (some ⟨w.heap.size+1,0,none⟩))(h4:tmps.getD 4 undef=.pointer (some ⟨w.heap.size+2,0,none⟩)):
  Leaves prog f11 tmps (PsP w (r,e0,a0)) [{target:=.fn (.func 33) #[Pt w.heap.size,.pointer (some ⟨w.heap.size+1,0,none⟩),.pointer (some ⟨w.heap.size+2,0,none⟩)],args:=#[]}] .returning W:=by
 refine leaves_cons (f:=33) (args:=#[Pt w.heap.size,.pointer (some ⟨w.heap.size+1,0,none⟩),.pointer (some ⟨w.heap.size+2,0,none⟩)]) zp (by simp[go_sem]) ?_;refine(Jch _ _ _ W).mono ?_;rintro e u' xA ⟨rfl,rfl,hb⟩;have hR:=h.up hb;exact⟨_,KP hR hs tmps h2 h3 h4,c,rfl,hx.keep (λb hb'=>hb.block b hb'.2) λb hb'=>⟨hb'.1,Nat.lt_of_lt_of_le hb'.2 hb.size⟩,hR.bel⟩
def QeN(s:Src):Qah×Int×Int:=
 match Qcg s with
 |some o=>(QaY,7,o)
 |none=>
  match Qbq (Qae s).2 with
  |some o=>(QaY,16,o)
  |none=>
   match Qbq (QbY (Qae s).1) with
   |some o=>(QaY,15,o)
   |none=>(Qbo (Qae s).1,0,0)
def ZtZ{f:Nat}{T r:List Tok}{s:Src}(h:Qfb f T=.ok s r):QcV f T=some (QeN s):=by
 unfold QcV QeN;rw[h];simp only
 cases Qcg s<;>simp only
 cases Qbq (Qae s).2<;>simp only
 cases Qbq (QbY (Qae s).1)<;>rfl
def Jfl{s:Src}{o:Int}(h:Qcg s=some o):QeN s=(QaY,7,o):=by unfold QeN;rw[h]
def Jfm{s:Src}{o:Int}(h:Qcg s=none)(h2:Qbq (Qae s).2=some o):QeN s=(QaY,16,o):=by unfold QeN;rw[h,h2]
def Jhn{s:Src}(h:Qcg s=none)(h2:Qbq (Qae s).2=none):QeN s=match Qbq (QbY (Qae s).1) with|some o=>(QaY,15,o)|none=>(Qbo (Qae s).1,0,0):=by unfold QeN;rw[h,h2]
def Jfn:∀l:List FnS,l.length<=QcZ l
 |[]=>by simp
 |f::l=>by
  have:=Jfn l;unfold QcZ at this |-;simp only[map_cons,sum_cons,length_cons];have:1<=f.siz:=by unfold FnS.siz;omega
  omega
def Jfo:∀l:List ClS,l.length<=Qda l
 |[]=>by simp
 |f::l=>by
  have:=Jfo l;unfold Qda at this |-;simp only[map_cons,sum_cons,length_cons];have:1<=f.siz:=by unfold ClS.siz;omega
  omega
def Jfp{f:FnS}:∀{l:List FnS},f∈l->f.siz<=QcZ l
 |a::l,h=>by
  unfold QcZ;simp only[map_cons,sum_cons]
  rcases List.mem_cons.1 h with rfl|h
  ·omega
  ·have:=Jfp h;unfold QcZ at this;omega
def Jfq{f:ClS}:∀{l:List ClS},f∈l->f.siz<=Qda l
 |a::l,h=>by
  unfold Qda;simp only[map_cons,sum_cons]
  rcases List.mem_cons.1 h with rfl|h
  ·omega
  ·have:=Jfq h;unfold Qda at this;omega
structure Qmw(s:Src):Prop where
 nf:s.funcs.length<=8194
 nc:s.clauses.length<=8194
 f:∀x∈s.funcs,QkQ x/\siz x.body<=8194/\x.types.length<=8194/\x.params.length=x.types.length
 c:∀x∈s.clauses,Qmc x/\siz x.cond<=8194
def Jkb{f:Nat}{T r:List Tok}{s:Src}(h:Qfb f T=.ok s r)(hT:T.length<=4097)(hx:∀t∈T,t.text.length<=24):Qmw s:=by
 obtain⟨h1,h2⟩:=JgU h;obtain⟨h3,h4⟩:=JiW (λt ht=>le_trans (hx t ht) zd) h;have q1:=Jfn s.funcs;have q2:=Jfo s.clauses;refine⟨by omega,by omega,λx hx=>?_,λx hx=>?_⟩
 ·have q:=Jfp hx;have e:x.siz=siz x.body+x.params.length+x.types.length+1:=rfl;exact⟨h3 x hx,by omega,by omega,h2 x hx⟩
 ·have q:=Jfq hx;have e:x.siz=siz x.cond+1:=rfl;exact⟨h4 x hx,by omega⟩
def Jho{S:Qak}(h:Qmw S.src):∀r∈S.rootsA,siz r.2.nd<=1000000000:=by
 intro r hr;have hm:r.2.nd∈S.src.roots:=by rw[<-JcP];exact List.mem_map.2 ⟨r,hr,rfl⟩
 unfold Src.roots at hm
 rcases List.mem_append.1 hm with hm|hm
 ·obtain⟨f,hf,e⟩:=List.mem_map.1 hm;rw[<-e];exact le_trans (h.f f hf).2.1 zd
 ·obtain⟨f,hf,e⟩:=List.mem_map.1 hm;rw[<-e];exact le_trans (h.c f hf).2 zd
def JaZ{S:Qak}:S.src.funcs.length=S.funcs.length:=by simp[Qak.src]
def Jfr{S:Qak}:S.src.clauses.length=S.clauses.length:=by simp[Qak.src]
def JiZ{S:Qak}{f:FnA}(h:f∈S.funcs):f.src∈S.src.funcs:=List.mem_map.2 ⟨f,h,rfl⟩
def Jja{S:Qak}{c:ClA}(h:c∈S.clauses):c.src∈S.src.clauses:=List.mem_map.2 ⟨c,h,rfl⟩
def JdR(l:By)(w:World)(hl:l.length<=281474976710655)(hL:Laid w)(T:List Tok)(at0:Int)(BA:QaQ l=(T,0,at0)):
  Calls prog 11 #[Sv l] w (PsP w ((QcV (12*(T.length+1)) T).getD (QaY,0,0))):=by
 obtain⟨X,hX⟩:∃X,(QcV (12*(T.length+1)) T).getD (QaY,0,0)=X:=⟨_,rfl⟩
 rw[hX];have HX:=Zh hX;obtain⟨rfl,hT,vA,cA,xA⟩:=JaY BA;obtain⟨f,hf⟩:∃f,f=12*(T.length+1):=⟨_,rfl⟩
 rw[<-hf]at HX;have HF:=Zh hf;have HT:=Zh (And.intro hT (And.intro vA (And.intro cA xA)))
 have aB:Res w (((w.alloc (.cells #[Nl,Nl,Iv 0] 30)).alloc (.cells #[Iv 0] 31)).alloc (.cells #[Iv 0] 3)) #[Nl,Nl,Iv 0] 0 0:=by
  exact QnK
 have gA:=Zh aB;have qB:∀(fn:Fn)(first cap:Array Value)(w:World),(Instr.makeFunc fn first cap).run prog w=.ok (.func fn first cap) w:=λ_ _ _ _=>rfl
 clear aB hX hf hT vA cA xA;go_enter_defers func11,ntmps11;go_wp2_with fail;generalize World.alloc (World.alloc (World.alloc w _) _) _=w1 at*;have hw1:=hL.below gA.o.bel;refine(JcC l w1 hl hw1).mono ?_;rw[BA];rintro e w2 ⟨v,rfl,zA,hb⟩;obtain⟨va,vc,rfl⟩:=Z0 zA;have pB:Hi (w.heap.size+3<=w1.heap.size):=by have:=Jb gA.o.a;unfold Hi;omega
 have tA:=Zh (gA.o.up hb);have HOW:Hi _:=Zh zA;clear gA zA hb BA hw1 hL;obtain⟨r0,r1,r2,e0,a0,q0,q1,q2,q3,q4⟩:=tA.o.cells;have hA:=Zh ((tA.o.setE 0).setA 0)
 have gB:Hi (((w2.setCell ⟨w.heap.size+1,0,none⟩ (Iv 0)).setCell ⟨w.heap.size+2,0,none⟩ (Iv 0)).ownsRow w1.heap.size 105 4 (.slice va T.length vc) T.length (Qax T)):=by
  have hst:Chg [w.heap.size+1,w.heap.size+2] w2 ((w2.setCell ⟨w.heap.size+1,0,none⟩ (Iv 0)).setCell ⟨w.heap.size+2,0,none⟩ (Iv 0)):=((Chg.refl _ _).setCell (.inl zp) _).setCell (.inl zp) _;refine Jx HOW.o hst ?_;intro g hg;have:=pB.o;simp at hg;omega
 have nB:Hi (((w2.setCell ⟨w.heap.size+1,0,none⟩ (Iv 0)).setCell ⟨w.heap.size+2,0,none⟩ (Iv 0)).heap.size=w2.heap.size):=by unfold Hi;simp[World.setCell]
 clear r0 r1 r2 q0 q1 q2 tA HOW;go_wp2_with fail;clear e0 a0 q3 q4;generalize World.setCell (World.setCell w2 _ _) _ _=w3 at*;obtain⟨r0,r1,r2,e0,a0,q0,q1,q2,q3,q4⟩:=hA.o.cells;clear r0 r1 r2 q0 q1 q2 q3 q4 a0;go_wp2_with fail;rw[<-nB.o];obtain⟨hT,vA,cA,xA⟩:=HT.o;obtain⟨A,C,cB,hP⟩:=Jka gB.o cA hT xA;obtain⟨rfl,rfl⟩:va=A/\vc=C:=by injection cB with h1 _ h2;exact⟨h1,h2⟩
 have jA:Qfb f T≠.out:=JeK (zt HF.o);have hB:Below w3.heap.size w3 (w3.alloc (.cells #[.slice va T.length vc,Iv 0] 73)):=zzb.alloc zzl _;have qA:=Zh (hA.o.up hB);have vB:(w3.alloc (.cells #[.slice va T.length vc,Iv 0] 73)).heap.size=w3.heap.size+1:=zp
 have Q7:Hi (w.heap.size+3<=w3.heap.size):=by have:=Jb hA.o.a;unfold Hi;omega
 have hC:=JgR f w3.heap.size va vc T (zt HF.o) (λt ht=>le_trans (vA t ht) zd) 0 _ hP (by rw[List.drop_zero];exact jA);rw[List.drop_zero]at hC;clear e0 gB hB cB hP hA;generalize jB:w3.alloc (.cells #[.slice va T.length vc,Iv 0] 73)=w4 at*;have uB:=Zh vB;clear vB jB;refine hC.mono ?_
 cases hsp:Qfb f T with
 |out=>exact absurd hsp jA
 |bad o=>
  rintro e w5 ⟨rfl,hc⟩;have hX:X=(QaY,2,o):=by rw[<-HX.o];unfold QcV;rw[hsp];rfl
  have kB:Res w w5 _ 0 0:=qA.o.on hc (by intro b hb;simp at hb;have:=Q7.o;omega);rw[hX];exact Yp 2 o kB _ rfl rfl rfl
 |ok s r=>
  rintro e w5 ⟨S,hS,rfl,bB,hc⟩;have HB:Hi (Qmw S.src):=by unfold Hi;rw[hS];exact Jkb hsp hT vA
  have sA:=Zh (qA.o.on hc (by intro b hb;simp at hb;have:=Q7.o;omega));have mA:Hi (w.heap.size+3<=w4.heap.size):=by have:=uB.o;have:=Q7.o;unfold Hi;omega
  have yA:Hi (X=QeN S.src):=by rw[hS];exact HX.o.symm.trans (by rw[ZtZ hsp];rfl)
  have kA:=Zh bB;clear hC hc hsp hS bB qA uB Q7 jA hT vA cA xA HT HF;generalize w4.heap.size=sb at*;go_wp2_with fail;refine(JeO w5 sb S kA.o (by rw[<-JaZ];exact le_trans HB.o.nf zd) (by rw[<-Jfr];exact le_trans HB.o.nc zd) (Jho HB.o)).mono ?_
  cases hlm:Qcg S.src with
  |some o=>
   rintro e w6 ⟨rfl,L2⟩;have hX:X=(QaY,7,o):=yA.o.trans (Jfl hlm);rw[hX];exact Yp 7 o (sA.o.up L2) _ rfl rfl rfl
  |none=>
  rintro e w6 ⟨rfl,L2⟩;have nA:=Zh (sA.o.up L2);have eA:=Zh (kA.o.on (Chg.of_below L2 []) zp);have xB:=Zh hlm;clear sA kA L2 hlm;go_wp2_with fail;refine(Jcf w6 sb S eA.o (by rw[<-JaZ];exact le_trans HB.o.nf zd) (by rw[<-Jfr];exact le_trans HB.o.nc zd) (λg hg=>?c1) λc hg=>?c2).mono ?_
  case c1=>
   have q:=HB.o.f _ (JiZ hg);exact⟨q.1.1,le_trans q.2.1 zd,q.1.2,by have h1:g.params.length=g.types.length:=q.2.2.2;have h2:g.types.length<=8194:=q.2.2.1;show g.params.length<=_;omega⟩
  case c2=>
   have q:=HB.o.c _ (Jja hg);exact⟨q.1,le_trans q.2 zd⟩
  intro e w7 h7;unfold RsP at h7
  cases Q0:Qbq (Qae S.src).2 with
  |some o=>
   rw[Q0]at h7;obtain⟨rfl,E4⟩:=h7;have hX:X=(QaY,16,o):=yA.o.trans (Jfm xB.o Q0);rw[hX];exact Yp 16 o (nA.o.low E4 mA.o) _ rfl rfl rfl
  |none=>
  rw[Q0]at h7;obtain⟨rfl,E4,S',zB,bA⟩:=h7;have yB:=Zh (nA.o.low E4 mA.o);replace yA:Hi (X=match Qbq (QbY (Qae S.src).1) with|some o=>(QaY,15,o)|none=>(Qbo (Qae S.src).1,0,0)):=yA.o.trans (Jhn xB.o Q0);have iA:=Zs (m:=8194) (λg hg=>HB.o.f g hg) (λc hc=>HB.o.c c hc) Q0;rw[<-zB]at iA;rw[<-zB]at yA;have aA:=Zh iA
  have I3:Hi (S'.funcs.length<=8194/\S'.clauses.length<=8194):=by
   have h1:=iA.2.2;have h2:=HB.o.nf;have h3:=HB.o.nc;rw[JaZ,Jfr]at h1;exact⟨by omega,by omega⟩
  have uA:=Zh bA;clear nA eA E4 Q0 zB bA iA HB xB;go_wp2_with fail;refine(Jfc w7 sb S' uA.o (le_trans I3.o.1 zd) (le_trans I3.o.2 zd) (λg hg=>?c3) λc hg=>?c4).mono ?_
  case c3=>
   have q:=aA.o.1 _ (JiZ hg);rw[JaZ]at q;exact⟨q.1,le_trans q.2.1 zd,le_trans q.2.2.1 zd,q.2.2.2⟩
  case c4=>
   have q:=aA.o.2.1 _ (Jja hg);rw[JaZ]at q;exact⟨q.1,le_trans q.2.1 zd,q.2.2⟩
  cases RD:Qbq (QbY S'.src) with
  |some o=>
   rintro e w8 ⟨rfl,Q3⟩;have hX:X=(QaY,15,o):=by rw[yA.o,RD]
   rw[hX];exact Yp 15 o (yB.o.up Q3) _ rfl rfl rfl
  |none=>
  rintro e w8 ⟨rfl,Q3⟩;have iB:=Zh (yB.o.up Q3);have dA:=Zh (uA.o.on (Chg.of_below Q3 []) zp);have hX:X=(Qbo S'.src,0,0):=by rw[yA.o,RD]
  clear yB uA Q3 RD yA HX;subst hX;go_wp2_with fail;refine(Jfg w8 sb S' dA.o (le_trans I3.o.1 zd) (le_trans I3.o.2 zd) (λg hg=>le_trans (aA.o.1 _ (JiZ hg)).2.1 zd) λc hg=>le_trans (aA.o.2.1 _ (Jja hg)).2.1 zd).mono ?_;rintro e w9 ⟨c,rfl,hx,eB⟩;have dB:=Zh hx;have rA:=Zh (iB.o.up eB);obtain⟨fv,cv,rfl,⟨fa,fc,fx,rfl,_⟩,⟨ca,cc,cx,rfl,_⟩⟩:=hx;generalize (Qbo S'.src).funcs.length=fl at*;generalize (Qbo S'.src).clauses.length=cl at*;obtain⟨r0,r1,r2,e0,a0,q0,q1,q2,q3,q4⟩:=rA.o.cells;have pA:=Zh (((rA.o.setR (.slice fa fl fc) (.slice ca cl cc) (Iv (Qbo S'.src).action)).setE 0).setA 0)
  have mB:Hi (QaV (((((w9.setCell ⟨w.heap.size,0,none⟩ (.slice fa fl fc)).setCell ⟨w.heap.size,1,none⟩ (.slice ca cl cc)).setCell ⟨w.heap.size,2,none⟩ (Iv (Qbo S'.src).action)).setCell ⟨w.heap.size+1,0,none⟩ (Iv 0)).setCell ⟨w.heap.size+2,0,none⟩ (Iv 0)) (λb=>w.heap.size<=b/\b<(((((w9.setCell ⟨w.heap.size,0,none⟩ (.slice fa fl fc)).setCell ⟨w.heap.size,1,none⟩ (.slice ca cl cc)).setCell ⟨w.heap.size,2,none⟩ (Iv (Qbo S'.src).action)).setCell ⟨w.heap.size+1,0,none⟩ (Iv 0)).setCell ⟨w.heap.size+2,0,none⟩ (Iv 0)).heap.size) (Qbo S'.src) #[.slice fa fl fc,.slice ca cl cc,Iv (Qbo S'.src).action]):=by
   have hst:Chg [w.heap.size,w.heap.size+1,w.heap.size+2] w9 (((((w9.setCell ⟨w.heap.size,0,none⟩ (.slice fa fl fc)).setCell ⟨w.heap.size,1,none⟩ (.slice ca cl cc)).setCell ⟨w.heap.size,2,none⟩ (Iv (Qbo S'.src).action)).setCell ⟨w.heap.size+1,0,none⟩ (Iv 0)).setCell ⟨w.heap.size+2,0,none⟩ (Iv 0)):=(((((Chg.refl _ _).setCell (.inl zp) _).setCell (.inl zp) _).setCell (.inl zp) _).setCell (.inl zp) _).setCell (.inl zp) _;have h1:=mA.o;exact dB.o.keep (λb hb=>hst.block b hb.2 (by have:=hb.1;simp;omega)) λb hb=>⟨by have:=hb.1;omega,Nat.lt_of_lt_of_le hb.2 hst.size⟩
  clear iB dA eB rA dB aA I3;go_wp2_with fail;exact JiY pA.o rfl mB.o _ rfl rfl rfl
def Qdf(l:By)(w:World)(hl:l.length<=281474976710655)(hL:Laid w):Calls prog 11 #[Sv l] w (PsP w (QcD l)):=by
 unfold QcD
 by_cases h:(QaQ l).2.1=0
 ·rw[if_pos h];exact JdR l w hl hL _ (QaQ l).2.2 (by rw[<-h])
 ·rw[if_neg h];exact JdQ l w hl hL h
open Go Go.Lib
def ltB(a b:By):Bool:=Op.bytesLess a b
mutual
def utN:Exp->Nd
 |.mk k n s l=>.mk k n s 0 (utL l)
def utL:List Exp->List Nd
 |[]=>[]
 |a::l=>utN a::utL l
end
def Qab(nf M0:Nat)(k n:Int)(s:By):Bool:=
 (if k=0 then decide (0<=n)&&decide (n<=1125899906842624)
  else if k=1 then n==0||n==1
  else if k=2 then decide (0<=n)&&decide (n<(M0:Int))
  else if k=19 then n==(M0:Int)
  else if k=20 then decide (0<=n)&&decide (n<(nf:Int))
  else n==0) &&
 (if k=3 then (QaA s).isSome else if k=4\/k=5 then QbM s else s==[])&&decide (0<=k)&&decide (k<21)
def Qbi(pa:List Nat)(k n:Int):Nat:=
 if k=0\/k=1\/k=2\/k=3\/k=4\/k=5 then 0
 else if k=6\/k=7 then 1
 else if k=18 then 3
 else if k=20 then pa.getD n.toNat 0
 else 2
mutual
def QaC(pa:List Nat):Nat->Nat->Exp->Bool
 |M0,Qad,.mk k n s l=>decide (1<=Qad)&&Qab pa.length M0 k n s&&l.length==Qbi pa k n&&QaD pa M0 (Qad-1) k 0 l
def QaD(pa:List Nat):Nat->Nat->Int->Nat->List Exp->Bool
 |_,_,_,_,[]=>true
 |M0,Qad,k,i,a::l=>QaC pa (if k=19/\i=1 then M0+1 else M0) Qad a&&QaD pa M0 Qad k (i+1) l
end
def Qah.pa(r:Qah):List Nat:=r.funcs.map (·.params.length)
def Qah.sigs(r:Qah):List Qau:=r.funcs.map λf=>⟨f.params,f.result⟩
def QbI(r:Qah):Bool:=r.funcs.all (λf=>QaC r.pa f.params.length 40 f.body)&&r.clauses.all λc=>QaC r.pa 0 40 c.cond
def QbX(r:Qah):Bool:=r.funcs.all (λf=>QcW r.sigs f.params f.result (utN f.body)==[])&&r.clauses.all λc=>QcW r.sigs [] 1 (utN c.cond)==[]
def QaJ(t:Int):Bool:=t==0||t==1
def QaZ:List By->List FnM->Bool
 |_,[]=>true
 |seen,f::l=>Qbd f.name&&!decide (f.name∈seen)&&QaJ f.result&&f.params.all QaJ&&QaZ (seen++[f.name]) l
def QdU(n:Int):Bool:=decide (0<=n)&&decide (n<=3)
def QkE(l:List ClM):Bool:=l.all λc=>QdU c.action&&QbM c.reason
def QbJ(r:Qah):Bool:=QaZ [] r.funcs&&QkE r.clauses&&QdU r.action&&QbI r&&QbX r
structure Qav where
 labels:List (By×Int)
 likes:Int
 boosts:Int
 replies:Int
 reports:Int
 age:Int
 home:Int
 scope:Int
 length:Int
 follows:Bool
 reply:Bool
 words:List By
def Qer(n:Int):Bool:=decide (0<=n)&&decide (n<=1125899906842624)
def Qav.nums(f:Qav):List Int:=[f.likes,f.boosts,f.replies,f.reports,f.age,f.home,f.scope,f.length]
def QaE:Option By->List (By×Int)->Bool
 |_,[]=>true
 |p,c::l=>decide (1<=c.2)&&decide (c.2<=1125899906842624)&&(match p with|none=>true|some q=>ltB q c.1)&&QaE (some c.1) l
def Qbx:Option By->List By->Bool
 |_,[]=>true
 |p,c::l=>(match p with|none=>true|some q=>ltB q c)&&Qbx (some c) l
def Qbs(f:Qav):Bool:=f.nums.all Qer&&QaE none f.labels&&Qbx none f.words
def Qea(b:Bool):Int:=if b=true then 1 else 0
def QdT(f:Qav)(s:By):Int:=
 if s=Qcq then f.likes else if s=Qcx then f.boosts else if s=QbP then f.replies else if s=QbO then f.reports
 else if s=QiV then f.age else if s=QeM then f.home else if s=Qdo then f.scope else if s=Qcw then f.length
 else if s=QbQ then Qea f.follows else Qea f.reply
def QcK:List (By×Int)->By->Int
 |[],_=>0
 |c::l,s=>if c.1=s then c.2 else QcK l s
def Qeb(l:List By)(s:By):Int:=Qea (decide (s∈l))
inductive RN(α:Type) where
 |fault (er:Int) (used:Nat)
 |val (a:α) (used:Nat)
def RN.bind{α β:Type}(x:RN α)(f:α->Nat->RN β):RN β:=match x with|.fault e u=>.fault e u|.val a u=>f a u
def clI(n:Int):Int:=if n < -1125899906842624 then -1125899906842624 else if 1125899906842624<n then 1125899906842624 else n
def Qap(k a b:Int)(u:Nat):RN Int:=
 if k=6 then .val (clI (0-a)) u
 else if k=7 then .val (1-a) u
 else if k=8 then .val (clI (a+b)) u
 else if k=9 then .val (clI (a-b)) u
 else if k=10 then .val (clI (a*b)) u
 else if k=11 then (if b=0 then .fault 1 u else .val (clI (a.tdiv b)) u)
 else if k=12 then (if b=0 then .fault 1 u else .val (clI (a.tmod b)) u)
 else if k=13 then .val (Qea (decide (a<b))) u
 else if k=14 then .val (Qea (decide (a<=b))) u
 else .val (Qea (decide (a=b))) u
mutual
def evN(call:Int->List Int->Nat->RN Int)(F:Qav):List Int->Nat->Exp->RN Int
 |M0,u,.mk k n s l=>
  if k=0\/k=1 then .val n u
  else if k=2 then .val (M0.getD n.toNat 0) u
  else if k=3 then .val (QdT F s) u
  else if k=4 then .val (QcK F.labels s) u
  else if k=5 then .val (Qeb F.words s) u
  else if k=16 then
   match l with
   |[a,b]=>(evN call F M0 u a).bind λv u'=>if v=0 then .val 0 u' else evN call F M0 u' b
   |_=>.val 0 u
  else if k=17 then
   match l with
   |[a,b]=>(evN call F M0 u a).bind λv u'=>if v=0 then evN call F M0 u' b else .val 1 u'
   |_=>.val 0 u
  else if k=18 then
   match l with
   |[c,a,b]=>(evN call F M0 u c).bind λv u'=>if v=0 then evN call F M0 u' b else evN call F M0 u' a
   |_=>.val 0 u
  else if k=19 then
   match l with
   |[a,b]=>(evN call F M0 u a).bind λv u'=>evN call F (M0++[v]) u' b
   |_=>.val 0 u
  else (evL call F M0 u l).bind λvs u'=>if k=20 then call n vs u' else Qap k (vs.getD 0 0) (vs.getD 1 0) u'
def evL(call:Int->List Int->Nat->RN Int)(F:Qav):List Int->Nat->List Exp->RN (List Int)
 |_,u,[]=>.val [] u
 |M0,u,a::l=>(evN call F M0 u a).bind λv u'=>(evL call F M0 u' l).bind λvs u''=>.val (v::vs) u''
end
def Ku(call:Int->List Int->Nat->RN Int)(F:Qav)(M0:List Int)(u:Nat)(k n:Int)(s:By)(l:List Exp):evN call F M0 u (.mk k n s l) =
  if k=0\/k=1 then .val n u
  else if k=2 then .val (M0.getD n.toNat 0) u
  else if k=3 then .val (QdT F s) u
  else if k=4 then .val (QcK F.labels s) u
  else if k=5 then .val (Qeb F.words s) u
  else if k=16 then
   match l with
   |[a,b]=>(evN call F M0 u a).bind λv u'=>if v=0 then .val 0 u' else evN call F M0 u' b
   |_=>.val 0 u
  else if k=17 then
   match l with
   |[a,b]=>(evN call F M0 u a).bind λv u'=>if v=0 then evN call F M0 u' b else .val 1 u'
   |_=>.val 0 u
  else if k=18 then
   match l with
   |[c,a,b]=>(evN call F M0 u c).bind λv u'=>if v=0 then evN call F M0 u' b else evN call F M0 u' a
   |_=>.val 0 u
  else if k=19 then
   match l with
   |[a,b]=>(evN call F M0 u a).bind λv u'=>evN call F (M0++[v]) u' b
   |_=>.val 0 u
  else (evL call F M0 u l).bind λvs u'=>if k=20 then call n vs u' else Qap k (vs.getD 0 0) (vs.getD 1 0) u':=by
 conv=>lhs;unfold evN
def YX(fs:List Qau)(M0:List Int)(k n:Int)(s:By)(o:Int)(l:List Nd):ofN fs M0 (.mk k n s o l) =
  if k=1\/k=5 then (1,[])
  else if k=2 then (M0.getD n.toNat 0,[])
  else if k=3 then ((QaA s).getD 0,[])
  else if k=6\/(8<=k/\k<=12) then (0,QaU fs M0 0 l)
  else if k=13\/k=14 then (1,QaU fs M0 0 l)
  else if k=15 then
   match l with
   |[a,b]=>let x:=ofN fs M0 a;let y:=ofN fs M0 b;(1,x.2++y.2++if y.1≠x.1 then [b.off] else [])
   |_=>(1,[])
  else if k=7\/k=16\/k=17 then (1,QaU fs M0 1 l)
  else if k=18 then
   match l with
   |[c,a,b]=>let z:=ofN fs M0 c;let x:=ofN fs M0 a;let y:=ofN fs M0 b;(x.1,z.2++(if z.1≠1 then [c.off] else [])++x.2++y.2++if y.1≠x.1 then [b.off] else [])
   |_=>(0,[])
  else if k=19 then
   match l with
   |[a,b]=>let x:=ofN fs M0 a;let y:=ofN fs (M0++[x.1]) b;(y.1,x.2++y.2)
   |_=>(0,[])
  else if k=20 then
   let f:=fs.getD n.toNat ⟨[],0⟩
   (f.result,(if l.length≠f.params.length then [o] else [])++QcP fs M0 (l.length==f.params.length) f.params l)
  else (0,[]):=by
 conv=>lhs;unfold ofN
 rfl
def Qgg:Exp:=.mk 0 0 [] []
def Qmv:FnM:=⟨[],[],0,Qgg⟩
def Qca(fs:List FnM)(F:Qav):Nat->Int->List Int->Nat->RN Int
 |0,_,_,u=>if u=10000 then .fault 14 u else .fault 7 (u+1)
 |d+1,n,args,u=>if u=10000 then .fault 14 u else evN (Qca fs F d) F args (u+1) (fs.getD n.toNat Qmv).body
structure QjK where
 action:Int
 reason:By
 used:Nat
 fault:Int
deriving DecidableEq
def Qfm(r:Qah)(F:Qav):Nat->List ClM->QjK
 |u,[]=>⟨r.action,[],u,0⟩
 |u,c::l=>
  if u=10000 then⟨0,[],u,14⟩
  else match evN (Qca r.funcs F 100) F [] (u+1) c.cond with
   |.fault e u'=>⟨0,[],u',e⟩
   |.val v u'=>if v=0 then Qfm r F u' l else⟨c.action,c.reason,u',0⟩
def QiT(r:Qah)(F:Qav):QjK:=if QbJ r=true/\Qbs F=true then Qfm r F 0 r.clauses else⟨0,[],0,1⟩
def VOk(t v:Int):Prop:=(t=0/\-1125899906842624<=v/\v<=1125899906842624)\/(t=1/\(v=0\/v=1))
def Qel(ts vs:List Int):Prop:=ts.length=vs.length/\∀(i:Nat)(t v:Int),ts[i]?=some t->vs[i]?=some v->VOk t v
def Qel.nil:Qel [] []:=⟨rfl,λi t v h=>by simp at h⟩
def Qel.cons{t v:Int}{ts vs:List Int}(h:VOk t v)(k:Qel ts vs):Qel (t::ts) (v::vs):=by
 refine⟨by simp[k.1],λi a b ha hb=>?_⟩
 cases i with
 |zero=>simp at ha hb;subst ha;subst hb;exact h
 |succ i=>simp at ha hb;exact k.2 i a b ha hb
def Qel.snoc{t v:Int}{ts vs:List Int}(k:Qel ts vs)(h:VOk t v):Qel (ts++[t]) (vs++[v]):=by
 refine⟨by simp[k.1],λi a b ha hb=>?_⟩
 by_cases hi:i<ts.length
 ·rw[List.getElem?_append_left hi]at ha;rw[List.getElem?_append_left (by rw[<-k.1];exact hi)]at hb;exact k.2 i a b ha hb
 ·rw[List.getElem?_append_right zo]at ha;rw[List.getElem?_append_right (by rw[<-k.1];omega),<-k.1]at hb;have:i-ts.length=0:=by have:=(List.getElem?_eq_some_iff.1 ha).1;simp at this;omega
  rw[this]at ha hb;simp at ha hb;subst ha;subst hb;exact h
def QfV{α:Type}(R:α->Prop)(u:Nat):RN α->Prop
 |.fault e u'=>u<=u'/\u'<=10000/\(e=1\/e=7\/e=14/\u'=10000)
 |.val v u'=>u<=u'/\u'<=10000/\R v
def QfV.bind{α β:Type}{R:α->Prop}{S:β->Prop}{u:Nat}{x:RN α}{f:α->Nat->RN β}(h:QfV R u x)(k:∀v u',u<=u'->u'<=10000->R v->QfV S u' (f v u')):QfV S u (x.bind f):=by
 cases x with
 |fault e u'=>exact h
 |val v u'=>
  obtain⟨h1,h2,h3⟩:=h;have:=k v u' h1 h2 h3;unfold RN.bind;simp only
  cases hf:f v u' with
  |fault e u2=>rw[hf]at this;exact⟨by have:=this.1;omega,this.2⟩
  |val v2 u2=>rw[hf]at this;exact⟨by have:=this.1;omega,this.2⟩
def QfV.le{α:Type}{R:α->Prop}{u u':Nat}{x:RN α}(h:QfV R u' x)(hu:u<=u'):QfV R u x:=by
 cases x with
 |fault e v=>exact⟨by have:=h.1;omega,h.2⟩
 |val a v=>exact⟨by have:=h.1;omega,h.2⟩
def TyL(fs:List Qau)(M0:List Int):List Int->List Nd->Prop
 |[],[]=>True
 |t::ts,a::l=>ofN fs M0 a=(t,[])/\TyL fs M0 ts l
 |_,_=>False
def Vp{fs:List Qau}{M0:List Int}{t:Int}{a:Nd}(h:QcW fs M0 t a=[]):ofN fs M0 a=(t,[]):=by
 unfold QcW at h;simp only[append_eq_nil_iff]at h;obtain⟨h1,h2⟩:=h;split at h2
 ·cases h2
 ·rename_i hn;simp at hn;exact Prod.ext hn h1
def Ko{fs:List Qau}{M0:List Int}{t:Int}:∀{l:List Nd},QaU fs M0 t l=[]->TyL fs M0 (List.replicate l.length t) l
 |[],_=>trivial
 |a::l,h=>by
  rw[QaU]at h;simp only[append_eq_nil_iff]at h;exact⟨Vp (by unfold QcW;simp only[append_eq_nil_iff];exact h.1),Ko h.2⟩
def Jcj{fs:List Qau}{M0:List Int}:∀{ps:List Int}{l:List Nd},l.length=ps.length->QcP fs M0 true ps l=[]->TyL fs M0 ps l
 |[],[],_,_=>trivial
 |[],a::l,hl,_=>by simp at hl
 |p::ps,[],hl,_=>by simp at hl
 |p::ps,a::l,hl,h=>by
  rw[QcP]at h;simp only[append_eq_nil_iff,true_and,List.headD_cons,List.tail_cons]at h;refine⟨Vp (t:=p) (by unfold QcW;simp only[append_eq_nil_iff];exact h.1),Jcj (by simpa using hl) h.2⟩
def YY(b:Bool):VOk 1 (Qea b):=by cases b<;>exact .inr ⟨rfl,by simp[Qea]⟩
def Jif(n:Int):VOk 0 (clI n):=by
 refine .inl ⟨rfl,?_⟩;unfold clI;split
 ·omega
 split<;>omega
def Jkc{n:Int}(h:Qer n=true):VOk 0 n:=by simp[Qer]at h;exact .inl ⟨rfl,by omega,by omega⟩
def Jhp{F:Qav}(h:Qbs F=true){s:By}{t:Int}(ht:QaA s=some t):VOk t (QdT F s):=by
 unfold Qbs Qav.nums at h;simp only[List.all_cons,List.all_nil,Bool.and_true,Bool.and_eq_true]at h;obtain⟨⟨⟨h1,h2,h3,h4,h5,h6,h7,h8⟩,_⟩,_⟩:=h;unfold QaA at ht;split at ht
 ·rename_i hm;obtain rfl:(0:Int)=t:=by simpa using ht
  simp only[mem_cons,not_mem_nil,or_false]at hm
  rcases hm with rfl|rfl|rfl|rfl|rfl|rfl|rfl|rfl<;>refine Jkc ?_<;>simp only[QdT,Qcq,Qcx,QbP,QbO,QiV,QeM,Qdo,Qcw]<;>simp<;>assumption
 ·split at ht
  ·rename_i hm;obtain rfl:(1:Int)=t:=by simpa using ht
   simp only[mem_cons,not_mem_nil,or_false]at hm
   rcases hm with rfl|rfl
   ·rw[show QdT F QbQ=Qea F.follows by simp[QdT,Qcq,Qcx,QbP,QbO,QiV,QeM,Qdo,Qcw,QbQ]];exact YY _
   ·rw[show QdT F QfO=Qea F.reply by simp[QdT,Qcq,Qcx,QbP,QbO,QiV,QeM,Qdo,Qcw,QbQ,QfO]];exact YY _
  ·cases ht
def JcY:∀{l:List (By×Int)}{p:Option By}(s:By),QaE p l=true->VOk 0 (QcK l s)
 |[],_,s,_=>.inl ⟨rfl,by simp[QcK],by simp[QcK]⟩
 |c::l,p,s,h=>by
  unfold QaE at h;simp only[Bool.and_eq_true,decide_eq_true_eq]at h;rw[QcK];split
  ·exact .inl ⟨rfl,by omega,by omega⟩
  ·exact JcY s h.2
def Jba{F:Qav}(h:Qbs F=true):QaE none F.labels=true:=by
 unfold Qbs at h;simp only[Bool.and_eq_true]at h;exact h.1.2
def Jft{fs:List Qau}{n:Int}(h0:0<=n)(h1:n<(fs.length:Int)):∃f,fs[n.toNat]?=some f:=⟨fs[n.toNat]'(by omega),getElem?_eq_getElem _⟩
def KD{l:List Exp}(h:l.length=2):∃a b,l=[a,b]:=by
 match l,h with
 |[a,b],_=>exact⟨a,b,rfl⟩
def Zu{l:List Exp}(h:l.length=3):∃a b c,l=[a,b,c]:=by
 match l,h with
 |[a,b,c],_=>exact⟨a,b,c,rfl⟩
def JR(l:List Exp):(utL l).length=l.length:=by
 induction l with
 |nil=>rw[utL];rfl
 |cons a l ih=>rw[utL,List.length_cons,List.length_cons,ih]
def J6{pa:List Nat}{M0 Qad:Nat}{k n:Int}{s:By}{l:List Exp}(h:QaC pa M0 Qad (.mk k n s l)=true):
  1<=Qad/\Qab pa.length M0 k n s=true/\l.length=Qbi pa k n/\QaD pa M0 (Qad-1) k 0 l=true:=by
 rw[QaC]at h;simp only[Bool.and_eq_true,decide_eq_true_eq,beq_iff_eq]at h;exact⟨h.1.1.1,h.1.1.2,h.1.2,h.2⟩
def Jbb{nf M0:Nat}{k n:Int}{s:By}(h:Qab nf M0 k n s=true):k=0\/k=1\/k=2\/k=3\/k=4\/k=5\/k=6\/k=7\/(8<=k/\k<=14)\/k=15\/k=16\/k=17\/k=18\/k=19\/k=20:=by
 unfold Qab at h;simp only[Bool.and_eq_true,decide_eq_true_eq]at h;omega
def Jag{k a b:Int}{u:Nat}(hu:u<=10000)(ha:VOk (if k=7 then 1 else 0) a)(hb:k≠6->k≠7->VOk 0 b)(hk:k=6\/k=7\/(8<=k/\k<=14)):QfV (VOk (if 13<=k\/k=7 then 1 else 0)) u (Qap k a b u):=by
 unfold Qap
 by_cases h6:k=6
 ·subst h6;simp only[if_true];exact⟨le_refl _,hu,by simpa using Jif _⟩
 rw[if_neg h6]
 by_cases h7:k=7
 ·subst h7;simp only[if_true];refine⟨le_refl _,hu,?_⟩
  rcases ha with⟨h,_⟩|⟨_,h⟩
  ·exact absurd h zd
  ·refine .inr ⟨rfl,?_⟩;omega
 rw[if_neg h7];generalize hG:(if 13<=k\/k=7 then (1:Int) else 0)=G;have hlo:∀n:Int,k<=12->QfV (VOk G) u (.val (clI n) u):=λn hn=>by rw[if_neg zo]at hG;subst hG;exact⟨le_refl _,hu,Jif n⟩
 have xA:∀n:Bool,13<=k->QfV (VOk G) u (.val (Qea n) u):=λn hn=>by rw[if_pos (.inl hn)]at hG;subst hG;exact⟨le_refl _,hu,YY n⟩
 split
 ·exact hlo _ zo
 split
 ·exact hlo _ zo
 split
 ·exact hlo _ zo
 split
 ·split
  ·exact⟨le_refl _,hu,.inl rfl⟩
  ·exact hlo _ zo
 split
 ·split
  ·exact⟨le_refl _,hu,.inl rfl⟩
  ·exact hlo _ zo
 split
 ·exact xA _ zo
 split
 ·exact xA _ zo
 ·exact xA _ zo
def JkH(a b:Int){u:Nat}(hu:u<=10000):QfV (VOk 1) u (Qap 15 a b u):=by
 unfold Qap;simp only[show ¬(15:Int)=6 by decide,show ¬(15:Int)=7 by decide,show ¬(15:Int)=8 by decide,show ¬(15:Int)=9 by decide,show ¬(15:Int)=10 by decide,show ¬(15:Int)=11 by decide,show ¬(15:Int)=12 by decide,show ¬(15:Int)=13 by decide,show ¬(15:Int)=14 by decide,if_false];exact⟨le_refl _,hu,YY _⟩
def QiR(fs:List Qau)(call:Int->List Int->Nat->RN Int):Prop:=∀n args u f,0<=n->fs[n.toNat]?=some f->Qel f.params args->u<=10000->QfV (VOk f.result) u (call n args u)
def QbH(fs:List Qau):List Nat:=fs.map (·.params.length)
def K6(fs:List Qau):(QbH fs).length=fs.length:=by simp[QbH]
def TyL.two{fs:List Qau}{M0:List Int}{t1 t2:Int}{a b:Nd}(h:TyL fs M0 [t1,t2] [a,b]):ofN fs M0 a=(t1,[])/\ofN fs M0 b=(t2,[]):=⟨h.1,h.2.1⟩
def KJ{pa:List Nat}{M0 Qad:Nat}{k:Int}{a b:Exp}(h:QaD pa M0 Qad k 0 [a,b]=true):QaC pa M0 Qad a=true/\QaC pa (if k=19 then M0+1 else M0) Qad b=true:=by
 rw[QaD,QaD,QaD]at h;simp at h;exact h
def Jck{pa:List Nat}{M0 Qad:Nat}{k:Int}{a b c:Exp}(hk:k≠19)(h:QaD pa M0 Qad k 0 [a,b,c]=true):QaC pa M0 Qad a=true/\QaC pa M0 Qad b=true/\QaC pa M0 Qad c=true:=by
 rw[QaD,QaD,QaD,QaD]at h;simp[hk]at h;exact h
mutual
def KW{fs:List Qau}{F:Qav}{call:Int->List Int->Nat->RN Int}(hF:Qbs F=true)(hc:QiR fs call):
  ∀(e:Exp)(M0 vals:List Int)(Qad u:Nat)(t:Int),QaC (QbH fs) M0.length Qad e=true->ofN fs M0 (utN e)=(t,[])->Qel M0 vals->u<=10000->QfV (VOk t) u (evN call F vals u e)
 |.mk k n s l,M0,vals,Qad,u,t,hf,ht,hv,hu=>by
  obtain⟨_,hfi,har,hk⟩:=J6 hf;have PB:=Jbb hfi;have hfi':=hfi;unfold Qab at hfi;rw[K6]at hfi;simp only[Bool.and_eq_true,decide_eq_true_eq]at hfi;obtain⟨⟨⟨hn,hs⟩,_⟩,_⟩:=hfi;rw[utN,YX]at ht;rw[Ku]
  rcases PB with rfl|rfl|rfl|rfl|rfl|rfl|rfl|rfl|h8|rfl|rfl|rfl|rfl|rfl|rfl
  ·
   simp at ht hn |-;subst ht;exact⟨le_refl _,hu,.inl ⟨rfl,by omega,by omega⟩⟩
  ·
   simp at ht hn |-;subst ht;exact⟨le_refl _,hu,.inr ⟨rfl,hn⟩⟩
  ·
   simp at ht hn |-;refine⟨le_refl _,hu,?_⟩;have h1:n.toNat<M0.length:=by omega
   have h2:n.toNat<vals.length:=by rw[<-hv.1];exact h1
   rw[getElem?_eq_getElem h1]at ht;rw[getElem?_eq_getElem h2];simp at ht |-;subst ht;exact hv.2 _ _ _ (getElem?_eq_getElem h1) (getElem?_eq_getElem h2)
  ·
   simp at ht hn hs |-;obtain⟨t',ht'⟩:=Option.isSome_iff_exists.1 hs;rw[ht']at ht;simp at ht;subst ht;exact⟨le_refl _,hu,Jhp hF ht'⟩
  ·
   simp at ht |-;subst ht;exact⟨le_refl _,hu,JcY s (Jba hF)⟩
  ·
   simp at ht |-;subst ht;exact⟨le_refl _,hu,YY _⟩
  ·
   simp at ht |-;obtain⟨rfl,ht⟩:=ht;have hl:l.length=1:=har;have hty:=Ko ht;rw[JR,hl]at hty;refine(Zv hF hc l M0 vals (Qad-1) u [0] 6 0 (by decide) hk hty hv hu).bind λvs u' h1 h2 h3=>?_
   have h0:vs.length=1:=h3.1.symm
   match vs,h0,h3 with
   |[a],_,h3=>exact Jag (k:=6) h2 (h3.2 0 0 a rfl rfl) (λh=>absurd rfl h) (.inl rfl)
  ·
   simp at ht |-;obtain⟨rfl,ht⟩:=ht;have hl:l.length=1:=har;have hty:=Ko ht;rw[JR,hl]at hty;refine(Zv hF hc l M0 vals (Qad-1) u [1] 7 0 (by decide) hk hty hv hu).bind λvs u' h1 h2 h3=>?_
   have h0:vs.length=1:=h3.1.symm
   match vs,h0,h3 with
   |[a],_,h3=>exact Jag (k:=7) h2 (h3.2 0 1 a rfl rfl) (λ_ h=>absurd rfl h) (.inr (.inl rfl))
  ·
   have hl:l.length=2:=by rw[har];unfold Qbi;rw[if_neg (by omega),if_neg (by omega),if_neg (by omega),if_neg (by omega)]
   obtain⟨h81,h82⟩:=h8
   have hty:TyL fs M0 [0,0] (utL l)/\t=if 13<=k\/k=7 then 1 else 0:=by
    by_cases O6:13<=k
    ·rw[if_neg (by omega),if_neg (by omega),if_neg (by omega),if_neg (by omega),if_pos (by omega)]at ht;simp at ht;have hty:=Ko ht.2;rw[JR,hl]at hty;exact⟨hty,by rw[if_pos (.inl O6)];exact ht.1.symm⟩
    ·rw[if_neg (by omega),if_neg (by omega),if_neg (by omega),if_pos (by omega)]at ht;simp at ht;have hty:=Ko ht.2;rw[JR,hl]at hty;exact⟨hty,by rw[if_neg (by omega)];exact ht.1.symm⟩
   obtain⟨hty,ht'⟩:=hty;rw[if_neg (by omega),if_neg (by omega),if_neg (by omega),if_neg (by omega),if_neg (by omega),if_neg (by omega),if_neg (by omega),if_neg (by omega),if_neg (by omega)];refine(Zv hF hc l M0 vals (Qad-1) u [0,0] k 0 (by omega) hk hty hv hu).bind λvs u' h1 h2 h3=>?_
   have h0:vs.length=2:=h3.1.symm;rw[if_neg (by omega),ht']
   match vs,h0,h3 with
   |[a,b],_,h3=>exact Jag h2 (by rw[if_neg (by omega)];exact h3.2 0 0 a rfl rfl) (λ_ _=>h3.2 1 0 b rfl rfl) (by omega)
  ·
   have hl:l.length=2:=har;obtain⟨a,b,rfl⟩:=KD hl;simp[utL]at ht |-;obtain⟨rfl,h1,h2,h3⟩:=ht;refine(Zv hF hc [a,b] M0 vals (Qad-1) u [(ofN fs M0 (utN a)).1,(ofN fs M0 (utN b)).1] 15 0 (by decide) hk (by rw[utL,utL,utL];exact⟨Prod.ext rfl h1,Prod.ext rfl h2,trivial⟩) hv hu).bind λvs u' _ h2 _=>?_
   exact JkH _ _ h2
  ·
   have hl:l.length=2:=har;obtain⟨a,b,rfl⟩:=KD hl;simp at ht |-;obtain⟨rfl,ht⟩:=ht;have hty:=Ko ht;rw[JR,hl,utL,utL,utL]at hty;obtain⟨ha,hb⟩:=TyL.two hty;obtain⟨fa,fb⟩:=KJ hk;simp at fb;refine(KW hF hc a M0 vals _ u 1 fa ha hv hu).bind λv u' h1 h2 h3=>?_
   split
   ·exact⟨le_refl _,h2,.inr ⟨rfl,.inl rfl⟩⟩
   ·exact KW hF hc b M0 vals _ u' 1 fb hb hv h2
  ·
   have hl:l.length=2:=har;obtain⟨a,b,rfl⟩:=KD hl;simp at ht |-;obtain⟨rfl,ht⟩:=ht;have hty:=Ko ht;rw[JR,hl,utL,utL,utL]at hty;obtain⟨ha,hb⟩:=TyL.two hty;obtain⟨fa,fb⟩:=KJ hk;simp at fb;refine(KW hF hc a M0 vals _ u 1 fa ha hv hu).bind λv u' h1 h2 h3=>?_
   split
   ·exact KW hF hc b M0 vals _ u' 1 fb hb hv h2
   ·exact⟨le_refl _,h2,.inr ⟨rfl,.inr rfl⟩⟩
  ·
   have hl:l.length=3:=har;obtain⟨c,a,b,rfl⟩:=Zu hl;simp[utL]at ht |-;obtain⟨h0,h1,h2,h3,h4,h5⟩:=ht;obtain⟨fc,fa,fb⟩:=Jck (by decide) hk;refine(KW hF hc c M0 vals _ u 1 fc (Prod.ext h2 h1) hv hu).bind λv u' g1 g2 g3=>?_
   split
   ·exact KW hF hc b M0 vals _ u' t fb (Prod.ext (h5.trans h0) h4) hv g2
   ·exact KW hF hc a M0 vals _ u' t fa (Prod.ext h0 h3) hv g2
  ·
   have hl:l.length=2:=har;obtain⟨a,b,rfl⟩:=KD hl;simp[utL]at ht |-;obtain⟨h1,h2,h3⟩:=ht;obtain⟨fa,fb⟩:=KJ hk;simp at fb;have ha:ofN fs M0 (utN a)=((ofN fs M0 (utN a)).1,[]):=Prod.ext rfl h2;have hb:ofN fs (M0++[(ofN fs M0 (utN a)).1]) (utN b)=(t,[]):=Prod.ext h1 h3;refine(KW hF hc a M0 vals _ u (ofN fs M0 (utN a)).1 fa ha hv hu).bind λv u' g1 g2 g3=>?_
   exact KW hF hc b (M0++[(ofN fs M0 (utN a)).1]) (vals++[v]) _ u' t (by rw[List.length_append];exact fb) hb (hv.snoc g3) g2
  ·
   simp at ht hn |-;obtain⟨f,hf'⟩:=Jft hn.1 hn.2;rw[hf']at ht;simp at ht;obtain⟨rfl,h1,h2⟩:=ht;have h1':(utL l).length=f.params.length:=h1;rw[h1']at h2;simp at h2;have hty:=Jcj h1' h2;refine(Zv hF hc l M0 vals (Qad-1) u f.params 20 0 (by decide) hk hty hv hu).bind λvs u' g1 g2 g3=>?_
   exact hc n vs u' f hn.1 hf' g3 g2
def Zv{fs:List Qau}{F:Qav}{call:Int->List Int->Nat->RN Int}(hF:Qbs F=true)(hc:QiR fs call):
  ∀(l:List Exp)(M0 vals:List Int)(Qad u:Nat)(ts:List Int)(k:Int)(i:Nat),k≠19->QaD (QbH fs) M0.length Qad k i l=true->TyL fs M0 ts (utL l)->Qel M0 vals->u<=10000->QfV (Qel ts) u (evL call F vals u l)
 |[],M0,vals,Qad,u,ts,k,i,hk,hf,ht,hv,hu=>by
  rw[utL]at ht;rw[evL]
  cases ts with
  |nil=>exact⟨le_refl _,hu,Qel.nil⟩
  |cons t ts=>exact ht.elim
 |a::l,M0,vals,Qad,u,ts,k,i,hk,hf,ht,hv,hu=>by
  rw[utL]at ht;rw[evL];rw[QaD]at hf;simp only[Bool.and_eq_true]at hf;rw[if_neg λh=>hk h.1]at hf
  cases ts with
  |nil=>exact ht.elim
  |cons t ts=>
   refine(KW hF hc a M0 vals Qad u t hf.1 ht.1 hv hu).bind λv u' g1 g2 g3=>?_
   refine(Zv hF hc l M0 vals Qad u' ts k (i+1) hk hf.2 ht.2 hv g2).bind λvs u2 k1 k2 k3=>?_
   exact⟨le_refl _,k2,Qel.cons g3 k3⟩
end
def Jfu{s:By}(h:(QaA s).isSome=true):s.length<=1000000:=by
 unfold QaA at h;split at h
 ·rename_i hm;simp only[mem_cons,not_mem_nil,or_false]at hm
  rcases hm with rfl|rfl|rfl|rfl|rfl|rfl|rfl|rfl<;>decide
 ·split at h
  ·rename_i hm;simp only[mem_cons,not_mem_nil,or_false]at hm
   rcases hm with rfl|rfl<;>decide
  ·cases h
def Jcl{nf M0:Nat}{k n:Int}{s:By}(h:Qab nf M0 k n s=true):s.length<=1000000:=by
 unfold Qab at h;simp only[Bool.and_eq_true,decide_eq_true_eq]at h;have hs:=h.1.1.2;split at hs
 ·exact Jfu hs
 split at hs
 ·unfold QbM at hs;simp only[Bool.and_eq_true,decide_eq_true_eq]at hs;omega
 ·simp at hs;subst hs;simp
mutual
def VJ{pa:List Nat}:∀(e:Exp)(M0 Qad:Nat),QaC pa M0 Qad e=true->QeI pa.length M0 (utN e)/\WfN (utN e)
 |.mk k n s l,M0,Qad,h=>by
  obtain⟨_,hf,ha,hl⟩:=J6 h;have H8:=Jcl hf;have hlen:=JR l
  by_cases N2:k=19
  ·subst N2;obtain⟨a,b,rfl⟩:=KD (show l.length=2 from ha);obtain⟨fa,fb⟩:=KJ hl;obtain⟨a1,a2⟩:=VJ a _ _ fa;obtain⟨b1,b2⟩:=VJ b _ _ fb;rw[utN,utL,utL,utL];simp at b1;refine⟨?_,wf2 (by decide) H8 a2 b2⟩;unfold QeI;exact⟨λh=>absurd h (by decide),λh=>absurd h (by decide),a1,b1⟩
  ·obtain⟨q1,q2⟩:=JcZ l M0 (Qad-1) k 0 N2 hl;rw[utN];unfold Qab at hf;simp only[Bool.and_eq_true,decide_eq_true_eq]at hf;have hn:=hf.1.1.1;refine⟨Jae (λh=>?_) (λh=>?_) N2 q1,KV.2 ⟨λh=>absurd h N2,λh=>?_,λh=>?_,H8,q2⟩⟩
   ·subst h;simp at hn;exact hn
   ·subst h;simp at hn;exact hn
   ·subst h;rw[hlen];exact ha
   ·subst h;rw[hlen];exact ha
def JcZ{pa:List Nat}:∀(l:List Exp)(M0 Qad:Nat)(k:Int)(i:Nat),k≠19->QaD pa M0 Qad k i l=true->QeH pa.length M0 (utL l)/\WfL (utL l)
 |[],M0,Qad,k,i,hk,h=>by
  rw[utL];unfold QeH;exact⟨trivial,K5⟩
 |a::l,M0,Qad,k,i,hk,h=>by
  rw[QaD]at h;simp only[Bool.and_eq_true]at h;rw[if_neg λh=>hk h.1]at h;obtain⟨a1,a2⟩:=VJ a _ _ h.1;obtain⟨b1,b2⟩:=JcZ l _ _ _ _ hk h.2;rw[utL];unfold QeH;exact⟨⟨a1,b1⟩,JN.2 ⟨a2,b2⟩⟩
end
def In(W:World)(b:Nat):Prop:=b<W.heap.size
def XAt.up{w W:World}{e:Exp}{c:Array Value}(h:XAt w (In w) e c)(hb:Below w.heap.size w W):XAt W (In W) e c:=
 XAt.keep (λb hP=>hb.block b hP) (λb hP=>Nat.lt_of_lt_of_le hP hb.size) _ _ h
structure UnI(w:World)(rs bx lo:Nat)(k n:Int)(s:By)(W:World)(l:List An)(V:Value):Prop where
 own:W.ownsRow lo 119 5 V l.length (Qdx l)
 nil:l=[]->V=Nl
 ats:∀a∈l,a.At W
 fts:∀b∈Qaf l,lo<=b/\b<W.heap.size
 dis:∀g,V.ownBlock=some g->g∉Qaf l
 box:W.heap[bx]?=some (.cells #[Iv k,Iv n,Sv s,Iv 0,V] 119 (0,0))
 res:W.heap[rs]?=some (.cells #[Iv 0,Iv 0,Em,Iv 0,Nl] 119 (0,0))
 bel:Below w.heap.size w W
 low:w.heap.size<=rs/\rs<bx/\bx<lo/\lo<=W.heap.size
section
variable {w:World}{rs bx lo:Nat}{k n:Int}{s:By}{W W':World}{l:List An}{V:Value}
def UnI.up(h:UnI w rs bx lo k n s W l V)(hb:Below W.heap.size W W'):UnI w rs bx lo k n s W' l V:=by
 obtain⟨l1,l2,l3,l4⟩:=h.low;have hc:=Chg.of_below hb []
 exact⟨Jx h.own hc zp,h.nil,λa ha=>JaM (h.ats a ha) hb,λb hm=>⟨(h.fts b hm).1,Nat.lt_of_lt_of_le (h.fts b hm).2 hb.size⟩,h.dis,(hb.block _ (Jb h.box)).trans h.box,(hb.block _ (Jb h.res)).trans h.res,
  ⟨hb.os.trans h.bel.os,hb.tape.trans h.bel.tape,hb.output.trans h.bel.output,le_trans h.bel.size hb.size,λq hq=>(hb.block q (Nat.lt_of_lt_of_le hq h.bel.size)).trans (h.bel.block q hq)⟩,l1,l2,l3,le_trans l4 hb.size⟩
def UnI.step{w1 w6 w7:World}{b:An}{V':Value}{X:Obj}(h:UnI w rs bx lo k n s w1 l V)(hb:Below w1.heap.size w1 w6)(X6:b.At w6)(jD:∀q∈foot b,w1.heap.size<=q/\q<w6.heap.size)
  (hown:w7.ownsRow lo 119 5 V' (l++[b]).length (Qdx (l++[b]))) (hgr:(w6.alloc X).grownBy w7 V.ownBlock) (T2:V'.ownBlock=V.ownBlock\/V'.ownBlock=some (w6.alloc X).heap.size):
  UnI w rs bx lo k n s (w7.setCell ⟨bx,4,none⟩ V') (l++[b]) V'/\w7.heap[bx]?=some (.cells #[Iv k,Iv n,Sv s,Iv 0,V] 119 (0,0)):=by
 have h6:=h.up hb;obtain⟨l1,l2,l3,l4⟩:=h6.low;have hrow:∀g,V.ownBlock=some g->lo<=g/\g<w1.heap.size:=λg hg=>h.own.lt g hg
 have O3:=JK hgr;have j3:w7.heap[bx]?=some (.cells #[Iv k,Iv n,Sv s,Iv 0,V] 119 (0,0)):=O3.heap_some (λhm=>by have:=(hrow bx (by simpa using hm)).1;omega) h6.box;have hst:Chg [bx] w7 (w7.setCell ⟨bx,4,none⟩ V'):=(Chg.refl _ _).setCell (.inl (by simp:bx∈[bx])) (p:=⟨bx,4,none⟩) V';have M4:∀q,q<w6.heap.size->V.ownBlock≠some q->q≠bx->(w7.setCell ⟨bx,4,none⟩ V').heap[q]?=w6.heap[q]?:=λq hq hn hne=>(hst.block q (Nat.lt_of_lt_of_le hq O3.size) (by simpa using hne)).trans (O3.block q hq (by simpa using hn))
 have hsz:w6.heap.size<=(w7.setCell ⟨bx,4,none⟩ V').heap.size:=le_trans O3.size hst.size;have yA:=hb.size
 have Y4:∀q∈Qaf (l++[b]),lo<=q/\q<w6.heap.size:=by
  intro q hq;rw[K1]at hq
  rcases List.mem_append.1 hq with hq|hq
  ·exact h6.fts q hq
  ·have h1:=jD q hq;have:=h.low;exact⟨by omega,h1.2⟩
 have xA:∀q∈Qaf (l++[b]),V.ownBlock≠some q:=by
  intro q hq e;rw[K1]at hq
  rcases List.mem_append.1 hq with hq|hq
  ·exact h.dis q e hq
  ·have h1:=(hrow q e).2;have h2:=(jD q hq).1;omega
 refine⟨⟨Jx hown hst zq,λe=>by simp at e,λa ha=>?_,λq hq=>?_,λg hg hm=>?_,?_,?_,?_,l1,l2,l3,le_trans l4 hsz⟩,j3⟩
 ·have zA:a.At w6:=by
   rcases List.mem_append.1 ha with ha'|ha'
   ·exact h6.ats a ha'
   ·obtain rfl:a=b:=by simpa using ha'
    exact X6
  exact JE a zA λq hq=>M4 q (Y4 q (Jz ha q hq)).2 (xA q (Jz ha q hq)) (zt ((Y4 q (Jz ha q hq)).1))
 ·have:=Y4 q hq;omega
 ·have h1:=Y4 g hm
  rcases T2 with e|e
  ·exact xA g hm (e.symm.trans hg)
  ·rw[e]at hg;simp at hg;omega
 ·exact JC j3 4 V'
 ·exact(M4 _ (Jb h6.res) (λe1=>by have h1:=(hrow _ e1).1;omega) zo).trans h6.res
 ·have uA:w.heap.size<=w6.heap.size:=h6.bel.size;exact Qnz
def UtP(w:World)(x:Exp)(e:Ending)(w':World):Prop:=∃a:An,e=.returned (.agg (Qaa a))/\a.nd=utN x/\a.At w'/\(∀b∈foot a,w.heap.size<=b/\b<w'.heap.size)/\Below w.heap.size w w'
def UnI.fin{L:List Exp}(h:UnI w rs bx lo k n s W l V)(hl:ndL l=utL L):UtP w (.mk k n s L) (.returned (.agg #[Iv k,Iv n,Sv s,Iv 0,V])) (put5 W rs (Iv k) (Iv n) (Sv s) (Iv 0) V):=by
 obtain⟨l1,l2,l3,l4⟩:=h.low;have hst:=J5 (S:=[rs]) (W:=W) (Iv k) (Iv n) (Sv s) (Iv 0) V (by simp:rs∈[rs]);have hsz:=hst.size;have G7:Below w.heap.size w (put5 W rs (Iv k) (Iv n) (Sv s) (Iv 0) V):=((((h.bel.setCell l1 _).setCell l1 _).setCell l1 _).setCell l1 _).setCell l1 _;have xA:∀g c,(An.mk k n s 0 g c l).nd=utN (.mk k n s L):=λg c=>by unfold An.nd;rw[utN,hl]
 by_cases D7:l=[]
 ·subst D7;obtain rfl:=h.nil rfl;refine⟨.mk k n s 0 0 0 [],rfl,xA 0 0,?_,?_,G7⟩
  ·unfold An.At AtL;exact⟨λh=>absurd rfl h,trivial⟩
  ·intro b hb;rw[Kt,if_pos rfl]at hb
   cases hb
 ·rcases h.own.2 with⟨_,e⟩|⟨g,c,cur,rfl,hg,I9,hn,hm,hs,ht⟩
  ·exact absurd (List.eq_nil_of_length_eq_zero e) D7
  have hlt:=Jb I9;have hrow:=hst.heap_some (k:=g) zq I9;refine⟨.mk k n s 0 g c l,?_,xA g c,?_,?_,G7⟩
  ·show _=Ending.returned (.agg #[_,_,_,_,Qaw g c l])
   unfold Qaw;rw[if_neg D7]
  ·unfold An.At;refine⟨λ_ j=>Jc hrow j,Kp l 0 (λj u hu=>?_) λa ha=>?_⟩
   ·rw[Nat.zero_mul,Nat.zero_add,Ja hrow];rw[<-ht,List.getElem?_take]at hu;split at hu
    ·simpa using hu
    ·cases hu
   ·exact JE a (h.ats a ha) λb hb=>by
     have:=h.fts b (Jz ha b hb);exact hst.block b this.2 zq
  ·intro b hb;rw[Kt,if_neg D7]at hb
   rcases List.mem_cons.1 hb with rfl|hb
   ·omega
   ·have:=h.fts b hb;omega
end
def Jjc(l:List Exp)(a:Exp):utL (l++[a])=utL l++[utN a]:=by
 induction l with
 |nil=>simp[utL]
 |cons x r ih=>simp[utL,ih]
def Jfv(l:List Exp):utL l=l.map utN:=by
 induction l with
 |nil=>rw[utL];rfl
 |cons a l ih=>rw[utL,ih];rfl
def KE{l:List Exp}{y:Exp}(h:y∈l):siz (utN y)<=Qaz (utL l):=JcJ (by rw[Jfv];exact List.mem_map.2 ⟨y,h,rfl⟩)
def Jfw(l:List Exp):l.length<=Qaz (utL l):=by have:=JcK (utL l);rw[JR]at this;exact this
def QbC(w:World)(ad:Option Addr)(l:List Exp):Prop:=l≠[]->∃b o,ad=some ⟨b,o,none⟩/\b<w.heap.size/\∀i e,l[i]?=some e->∃d,XAt w (In w) e d/\∀j u,d[j]?=some u->w.cell? ⟨b,o+i*4+j,none⟩=some u
def QbC.at'{w W:World}{ad:Option Addr}{l:List Exp}(h:QbC w ad l)(hb:Below w.heap.size w W){i:Nat}{y:Exp}(hi:l[i]?=some y):
  ∃b o da dc,ad=some ⟨b,o,none⟩/\XAt W (In W) y #[Iv y.kind,Iv y.num,.string (bs y.name),.slice da y.kids.length dc]/\W.cell? ⟨b,o+i*4,none⟩=some (Iv y.kind)/\
   W.cell? ⟨b,o+i*4+1,none⟩=some (Iv y.num)/\W.cell? ⟨b,o+i*4+2,none⟩=some (.string (bs y.name))/\W.cell? ⟨b,o+i*4+3,none⟩=some (.slice da y.kids.length dc):=by
 obtain⟨b,o,h1,h2,h3⟩:=h (List.ne_nil_of_mem (List.mem_of_getElem? hi));obtain⟨d,h4,h5⟩:=h3 i y hi;obtain⟨da,dc,rfl,_⟩:=h4.form;have hc:∀j u,_->W.cell? ⟨b,o+i*4+j,none⟩=some u:=λj u hu=>(World.cell?_of_block (a:=⟨b,o+i*4+j,none⟩) (hb.block b h2)).trans (h5 j u hu)
 exact⟨b,o,da,dc,h1,h4.up hb,hc 0 _ rfl,hc 1 _ rfl,hc 2 _ rfl,hc 3 _ rfl⟩
def XAt.kids{w:World}{k n:Int}{s:By}{l:List Exp}{c:Array Value}(h:XAt w (In w) (.mk k n s l) c):∃ad cc,c=#[Iv k,Iv n,Sv s,.slice ad l.length cc]/\l.length<=cc/\QbC w ad l:=by
 obtain⟨ad,cc,h1,h2,h3⟩:=h.kid;exact⟨ad,cc,h1,h2,h3⟩
def Qmr{P:Prop}(h:P:=by
  try simp only[Act.put,ZA,ZB,ZC]
  refine ZS 7 rfl (λK hK=>?_);have U0:=P2.o;have b3:=Ja U0 4;have f3:=Jc U0 4;have R8:=Jb U0;simp only[ZD,ZE,ZF]at b3;go_simp;clear b3 U0 f3 R8 P2;refine hK.out _ _ trivial (λhH=>?_);clear hK K
  try simp only[Act.put,ZA,ZB,ZC]
  refine wpAnyH_done (by kernel_rfl) ?_ _;have I3:Hi (Below w.heap.size w (w7.setCell ⟨bx,4,none⟩ (.slice a7 m7 c7))):=D2.o.bel;go_wp2;go_roundg (l.length-(i+1))
  case measure=>have:=HG.o;omega
  case rel=>exact⟨i+1,by omega,by go_num,⟨Q++[yb],_,by rw[KL,q9.o];exact O5.o,by rw[List.length_append,HKL.o];rfl,D2.o⟩,I3⟩):P:=h
def Jcm(n:Nat)(IH:∀(y:Exp)(d:Array Value)(W:World),siz (utN y)<=n->XAt W (In W) y d->Calls prog 96 #[.agg d] W (UtP W y))(k nn:Int)(s:By)(l:List Exp)(ad:Option Addr)(cc:Nat)(w:World)(hn:Qaz (utL l)<=n)(hb:n<=100000000)(hK:QbC w ad l):
  Calls prog 96 #[.agg #[Iv k,Iv nn,Sv s,.slice ad l.length cc]] w (UtP w (.mk k nn s l)):=by
 obtain⟨R,hR⟩:∃R,UtP w (.mk k nn s l)=R:=⟨_,rfl⟩
 rw[hR];have HR:Hi (R=UtP w (.mk k nn s l)):=hR.symm;have pA:Below w.heap.size w (((w.alloc (.cells #[Iv k,Iv nn,Sv s,.slice ad l.length cc] 50)).alloc (.cells #[Iv 0,Iv 0,Em,Iv 0,Nl] 119)).alloc (.cells #[Iv k,Iv nn,Sv s,Iv 0,Nl] 119)):=((zzb.alloc zzl _).alloc zp _).alloc zq _
 have nA:Hi (UnI w (w.heap.size+1) (w.heap.size+1+1) (w.heap.size+1+1+1) k nn s (((w.alloc (.cells #[Iv k,Iv nn,Sv s,.slice ad l.length cc] 50)).alloc (.cells #[Iv 0,Iv 0,Em,Iv 0,Nl] 119)).alloc (.cells #[Iv k,Iv nn,Sv s,Iv 0,Nl] 119)) [] Nl):=by
  have e1:=zzw (w.alloc (.cells #[Iv k,Iv nn,Sv s,.slice ad l.length cc] 50)) (.cells #[Iv 0,Iv 0,Em,Iv 0,Nl] 119);have e2:=zzw ((w.alloc (.cells #[Iv k,Iv nn,Sv s,.slice ad l.length cc] 50)).alloc (.cells #[Iv 0,Iv 0,Em,Iv 0,Nl] 119)) (.cells #[Iv k,Iv nn,Sv s,Iv 0,Nl] 119);simp only[World.size_alloc]at e1 e2;exact⟨World.ownsRow_nil _ _ _ _,λ_=>rfl,by simp,by simp[Qaf],by simp[Qaf],e2,Jf e1,pA,by omega,by omega,by omega,by simp⟩
 have A2:Hi ((((w.alloc (.cells #[Iv k,Iv nn,Sv s,.slice ad l.length cc] 50)).alloc (.cells #[Iv 0,Iv 0,Em,Iv 0,Nl] 119)).alloc (.cells #[Iv k,Iv nn,Sv s,Iv 0,Nl] 119)).heap[w.heap.size]?=some (.cells #[Iv k,Iv nn,Sv s,.slice ad l.length cc] 50 (0,0))):=Jf (Jf (zzw _ _));have B0:=Zh hK;have jA:=Zh IH;have tA:l.length<=100000000:=by have:=Jfw l;omega
 have j4:=Zh hn;clear hR pA IH hK hn;go_enter func96,ntmps96;go_wp2_with fail;generalize World.alloc (World.alloc (World.alloc w _) _) _=w1 at*;generalize w.heap.size+1+1+1=lo at*;generalize w.heap.size+1+1=bx at*;generalize w.heap.size+1=rs at*;have xB:Hi (w.heap.size<w1.heap.size):=Jb A2.o;have n4:=Ja A2.o 3;simp only[zW]at n4;go_wp2_with fail;clear n4;go_loopg [16] l.length λg v16 wr=>∃i:Nat,g+i=l.length/\v16=Iv i/\Hi (∃Q V,ndL Q=utL (l.take i)/\Q.length=i/\UnI w rs bx lo k nn s wr Q V)/\Hi (Below w.heap.size w wr)
 case atStart=>exact⟨0,rfl,rfl,⟨[],_,by simp[ndL,utL],rfl,nA.o⟩,nA.o.bel⟩
 case round=>
 clear nA A2;obtain⟨wl,rfl⟩:=zG wr
 obtain⟨i,hg,rfl,aA,G1⟩:=hrel;obtain⟨Q,V,hA,kA,qA⟩:=aA.o;clear aA;have aA:=qA;clear qA;obtain⟨va,vn,vc,rfl⟩:=Ji aA.own
 by_cases hi:i<l.length
 ·have hil:(i:Int)<(l.length:Int):=zo
  obtain⟨y,hy⟩:∃y,l[i]?=some y:=⟨l[i],getElem?_eq_getElem hi⟩
  have hmem:=List.mem_of_getElem? hy;obtain⟨b,o,da,dc,sA,hxy,c0,c1,c2,c3⟩:=B0.o.at' G1.o hy;have wk:=zI i;have I0:Below wl.heap.size wl (wl.alloc (.cells #[Iv y.kind,Iv y.num,.string (bs y.name),.slice da y.kids.length dc] 50)):=zzb.alloc zzl _;have zA:=Zh (aA.up I0);have gA:=Zh (hxy.up I0);have S0:=Zh (zzw wl (.cells #[Iv y.kind,Iv y.num,.string (bs y.name),.slice da y.kids.length dc] 50));have O5:Hi (ndL Q++[utN y]=utL (l.take (i+1))):=by rw[Hi,hA,List.take_add_one,hy];show _=utL (_++[y]);rw[Jjc]
  have iA:Hi (Q.length<=100000000):=by rw[Hi];omega
  have mA:Hi (siz (utN y)<=n):=by have:=KE hmem;have:=j4.o;rw[Hi];omega
  have HKL:=Zh kA;have HG:=Zh hg;subst sA;clear I0 aA hy hmem hg hxy G1 hA kA;go_upto_region 5 with fail;clear c0 c1 c2 c3;generalize World.alloc wl _=wk0 at*;generalize wl.heap.size=cb at*;refine wp_region_held_drew (S:=λ_=>True) zk (trivial) λhH=>?_;have hD:Below wk0.heap.size wk0 wk0.drew:=(Below.refl wk0.heap.size wk0).drew;replace zA:=Zh (zA.o.up hD);replace gA:=Zh (gA.o.up hD);replace S0:=Zh ((hD.block _ (Jb S0.o)).trans S0.o);clear hD;generalize wk0.drew=wk1 at*;refine ZT (i:=0) (v:=?vT1_0) rfl (Or.inl ⟨by rfl,?yT1_0⟩) ?_
  case yT1_0=>exact ZyQ
  try simp only[zX]
  refine ZR (rs:=[1,2]) (AllReadyH.cons rfl (λK hK=>?_) (AllReadyH.cons rfl (λK hK=>?_) AllReadyH.nil))
  ·have U0:=zA.o.box;have b3:=Ja U0 4;simp only[zW]at b3;go_simp;clear b3 U0;refine zU hK trivial λhH=>?_;clear hK K
   try simp only[zX]
   refine ZS 2 rfl λK hK=>?_;have U0:=S0.o;have p0:=Ja U0 0;have p1:=Ja U0 1;have p2:=Ja U0 2;have p3:=Ja U0 3;simp only[zW]at p0 p1 p2 p3;go_simp;clear p0 p1 p2 p3 U0;refine zU hK trivial λhH=>?_;clear hK K
   try simp only[zX]
   refine ZS 3 rfl λK hK=>?_;have ci:=jA.o y _ _ mA.o gA.o
   (go_simp;go_at_call 96;refine ci.mono ?_;intro e w6 h6)
   clear ci;obtain⟨yb,rfl,bA,xA,yA,L2⟩:=h6;obtain⟨ca,cn,cm,uA⟩:=Jg yb;have q9:=Zh bA;have cA:=Zh L2;have eA:=Zh uA;have dA:=Zh xA;have H6:=Zh yA;replace S0:=Zh ((L2.block _ (Jb S0.o)).trans S0.o);have vA:=Zh (zA.o.up L2);have HOW:Hi ((w6.alloc (.cells (Qaa yb) 119)).ownsRow lo 119 5 (.slice va vn vc) Q.length (Qdx Q)):=vA.o.own.alloc _;have P3:Hi ((w6.alloc (.cells (Qaa yb) 119)).heap[w6.heap.size]?=some (.cells (Qaa yb) 119 (0,0))):=zzw _ _;have A1:lo<=(w6.alloc (.cells (Qaa yb) 119)).heap.size:=by have:=vA.o.low;rw[World.size_alloc];omega
   have P2:=Zh vA.o.box;rw[uA]at HOW A1 |-;clear bA xA yA L2 uA;refine zU hK trivial λhH=>?_;clear hK K
   try simp only[zX]
   refine ZS 4 rfl λK hK=>?_;go_simp;refine zU hK trivial λhH=>?_;replace P2:Hi ((w6.alloc (.cells #[Iv yb.kind,Iv yb.num,.string (bs yb.name),Iv yb.off,.slice ca cn cm] 119)).heap[bx]?=some (.cells #[Iv k,Iv nn,Sv s,Iv 0,.slice va vn vc] 119 (0,0))):=Jf P2.o;clear hK K
   try simp only[zX]
   refine ZS 5 rfl λK hK=>?_
   (refine J9 (w6.alloc (.cells #[Iv yb.kind,Iv yb.num,.string (bs yb.name),Iv yb.off,.slice ca cn cm] 119)) zr (.tmp 21) (.tmp 24) zr lo (.slice va vn vc) Q yb zr HOW.o w6.heap.size zr (by rw[<-eA.o];exact P3.o) iA.o A1 ?_;intro v7 w7 H0 N1 Q1)
   obtain⟨a7,m7,c7,rfl⟩:=Ji H0;have hst:=UnI.step (V':=.slice a7 m7 c7) zA.o cA.o dA.o H6.o H0 N1 Q1;replace P2:=Zh hst.2;have D2:=Zh hst.1;clear H0 N1 Q1 hst HOW P3 A1;refine zU hK trivial λhH=>?_;clear hK K
   try simp only[zX]
   refine ZT (i:=6) (v:=?vT6_6) rfl (Or.inl ⟨by rfl,?yT6_6⟩) ?_
   case yT6_6=>exact ZyQ
   exact Qmr
  ·have U0:=S0.o;have p0:=Ja U0 0;have p1:=Ja U0 1;have p2:=Ja U0 2;have p3:=Ja U0 3;simp only[zW]at p0 p1 p2 p3;go_simp;clear p0 p1 p2 p3 U0;refine zU hK trivial λhH=>?_;clear hK K
   try simp only[zX]
   refine ZR (rs:=[1,3]) (AllReadyH.cons rfl (λK hK=>?_) (AllReadyH.cons rfl (λK hK=>?_) AllReadyH.nil))
   ·have U0:=zA.o.box;have b3:=Ja U0 4;simp only[zW]at b3;go_simp;clear b3 U0;refine zU hK trivial λhH=>?_;clear hK K
    try simp only[zX]
    refine ZS 3 rfl λK hK=>?_;have ci:=jA.o y _ _ mA.o gA.o
    (go_simp;go_at_call 96;refine ci.mono ?_;intro e w6 h6)
    clear ci;obtain⟨yb,rfl,bA,xA,yA,L2⟩:=h6;obtain⟨ca,cn,cm,uA⟩:=Jg yb;have q9:=Zh bA;have cA:=Zh L2;have eA:=Zh uA;have dA:=Zh xA;have H6:=Zh yA;replace S0:=Zh ((L2.block _ (Jb S0.o)).trans S0.o);have vA:=Zh (zA.o.up L2);have HOW:Hi ((w6.alloc (.cells (Qaa yb) 119)).ownsRow lo 119 5 (.slice va vn vc) Q.length (Qdx Q)):=vA.o.own.alloc _;have P3:Hi ((w6.alloc (.cells (Qaa yb) 119)).heap[w6.heap.size]?=some (.cells (Qaa yb) 119 (0,0))):=zzw _ _;have A1:lo<=(w6.alloc (.cells (Qaa yb) 119)).heap.size:=by have:=vA.o.low;rw[World.size_alloc];omega
    have P2:=Zh vA.o.box;rw[uA]at HOW A1 |-;clear bA xA yA L2 uA;refine zU hK trivial λhH=>?_;clear hK K
    try simp only[zX]
    refine ZS 4 rfl λK hK=>?_;go_simp;refine zU hK trivial λhH=>?_;replace P2:Hi ((w6.alloc (.cells #[Iv yb.kind,Iv yb.num,.string (bs yb.name),Iv yb.off,.slice ca cn cm] 119)).heap[bx]?=some (.cells #[Iv k,Iv nn,Sv s,Iv 0,.slice va vn vc] 119 (0,0))):=Jf P2.o;clear hK K
    try simp only[zX]
    refine ZS 5 rfl λK hK=>?_
    (refine J9 (w6.alloc (.cells #[Iv yb.kind,Iv yb.num,.string (bs yb.name),Iv yb.off,.slice ca cn cm] 119)) zr (.tmp 21) (.tmp 24) zr lo (.slice va vn vc) Q yb zr HOW.o w6.heap.size zr (by rw[<-eA.o];exact P3.o) iA.o A1 ?_;intro v7 w7 H0 N1 Q1)
    obtain⟨a7,m7,c7,rfl⟩:=Ji H0;have hst:=UnI.step (V':=.slice a7 m7 c7) zA.o cA.o dA.o H6.o H0 N1 Q1;replace P2:=Zh hst.2;have D2:=Zh hst.1;clear H0 N1 Q1 hst HOW P3 A1;refine zU hK trivial λhH=>?_;clear hK K
    try simp only[zX]
    refine ZT (i:=6) (v:=?vT12_6) rfl (Or.inl ⟨by rfl,?yT12_6⟩) ?_
    case yT12_6=>exact ZyQ
    exact Qmr
   ·have ci:=jA.o y _ _ mA.o gA.o
    (go_simp;go_at_call 96;refine ci.mono ?_;intro e w6 h6)
    clear ci;obtain⟨yb,rfl,bA,xA,yA,L2⟩:=h6;obtain⟨ca,cn,cm,uA⟩:=Jg yb;have q9:=Zh bA;have cA:=Zh L2;have eA:=Zh uA;have dA:=Zh xA;have H6:=Zh yA;replace S0:=Zh ((L2.block _ (Jb S0.o)).trans S0.o);have vA:=Zh (zA.o.up L2);have HOW:Hi ((w6.alloc (.cells (Qaa yb) 119)).ownsRow lo 119 5 (.slice va vn vc) Q.length (Qdx Q)):=vA.o.own.alloc _;have P3:Hi ((w6.alloc (.cells (Qaa yb) 119)).heap[w6.heap.size]?=some (.cells (Qaa yb) 119 (0,0))):=zzw _ _;have A1:lo<=(w6.alloc (.cells (Qaa yb) 119)).heap.size:=by have:=vA.o.low;rw[World.size_alloc];omega
    have P2:=Zh vA.o.box;rw[uA]at HOW A1 |-;clear bA xA yA L2 uA;refine zU hK trivial λhH=>?_;clear hK K
    try simp only[zX]
    refine ZR (rs:=[1,4]) (AllReadyH.cons rfl (λK hK=>?_) (AllReadyH.cons rfl (λK hK=>?_) AllReadyH.nil))
    ·have U0:=P2.o;have b3:=Ja U0 4;simp only[zW]at b3;go_simp;clear b3 U0;refine zU hK trivial λhH=>?_;clear hK K
     try simp only[zX]
     refine ZS 4 rfl λK hK=>?_;go_simp;refine zU hK trivial λhH=>?_;replace P2:Hi ((w6.alloc (.cells #[Iv yb.kind,Iv yb.num,.string (bs yb.name),Iv yb.off,.slice ca cn cm] 119)).heap[bx]?=some (.cells #[Iv k,Iv nn,Sv s,Iv 0,.slice va vn vc] 119 (0,0))):=Jf P2.o;clear hK K
     try simp only[zX]
     refine ZS 5 rfl λK hK=>?_
     (refine J9 (w6.alloc (.cells #[Iv yb.kind,Iv yb.num,.string (bs yb.name),Iv yb.off,.slice ca cn cm] 119)) zr (.tmp 21) (.tmp 24) zr lo (.slice va vn vc) Q yb zr HOW.o w6.heap.size zr (by rw[<-eA.o];exact P3.o) iA.o A1 ?_;intro v7 w7 H0 N1 Q1)
     obtain⟨a7,m7,c7,rfl⟩:=Ji H0;have hst:=UnI.step (V':=.slice a7 m7 c7) zA.o cA.o dA.o H6.o H0 N1 Q1;replace P2:=Zh hst.2;have D2:=Zh hst.1;clear H0 N1 Q1 hst HOW P3 A1;refine zU hK trivial λhH=>?_;clear hK K
     try simp only[zX]
     refine ZT (i:=6) (v:=?vT17_6) rfl (Or.inl ⟨by rfl,?yT17_6⟩) ?_
     case yT17_6=>exact ZyQ
     exact Qmr
    ·go_simp;refine zU hK trivial λhH=>?_;replace P2:Hi ((w6.alloc (.cells #[Iv yb.kind,Iv yb.num,.string (bs yb.name),Iv yb.off,.slice ca cn cm] 119)).heap[bx]?=some (.cells #[Iv k,Iv nn,Sv s,Iv 0,.slice va vn vc] 119 (0,0))):=Jf P2.o;clear hK K
     try simp only[zX]
     refine ZS 1 rfl λK hK=>?_;have U0:=P2.o;have b3:=Ja U0 4;simp only[zW]at b3;go_simp;clear b3 U0;refine zU hK trivial λhH=>?_;clear hK K
     try simp only[zX]
     refine ZS 5 rfl λK hK=>?_
     (refine J9 (w6.alloc (.cells #[Iv yb.kind,Iv yb.num,.string (bs yb.name),Iv yb.off,.slice ca cn cm] 119)) zr (.tmp 21) (.tmp 24) zr lo (.slice va vn vc) Q yb zr HOW.o w6.heap.size zr (by rw[<-eA.o];exact P3.o) iA.o A1 ?_;intro v7 w7 H0 N1 Q1)
     obtain⟨a7,m7,c7,rfl⟩:=Ji H0;have hst:=UnI.step (V':=.slice a7 m7 c7) zA.o cA.o dA.o H6.o H0 N1 Q1;replace P2:=Zh hst.2;have D2:=Zh hst.1;clear H0 N1 Q1 hst HOW P3 A1;refine zU hK trivial λhH=>?_;clear hK K
     try simp only[zX]
     refine ZT (i:=6) (v:=?vT21_6) rfl (Or.inl ⟨by rfl,?yT21_6⟩) ?_
     case yT21_6=>exact ZyQ
     exact Qmr
 ·have hil:¬(i:Int)<(l.length:Int):=zo
  obtain rfl:i=l.length:=zo
  rw[List.take_length]at hA;have rA:=Zh hA;have zA:=Zh aA;have U0:=aA.box;have Q0:=aA.res;have b0:=Ja U0 0;have b1:=Ja U0 1;have b2:=Ja U0 2;have b3:=Ja U0 3;have b4:=Ja U0 4;have z0:=Ja Q0 0;have z1:=Ja Q0 1;have z2:=Ja Q0 2;have z3:=Ja Q0 3;have z4:=Ja Q0 4;simp only[zW]at b0 b1 b2 b3 b4 z0 z1 z2 z3 z4;have y0:=Jc Q0 0;have y1:=Jc Q0 1;have y2:=Jc Q0 2;have y3:=Jc Q0 3;have y4:=Jc Q0 4;clear hi hg aA U0 Q0 hA kA;go_wp2;refine bodyPost_ret (v:=.agg #[Iv k,Iv nn,Sv s,Iv 0,.slice va vn vc]) (results_cell_row rfl _ _ rs 119 _ (0,0) _ rfl (QcM _ _ _ _ _ zA.o.res) underlying119 rfl Qaq) rfl ?_;rw[HR.o];exact zA.o.fin rA.o
def V0:∀n,n<=100000000->∀(y:Exp)(d:Array Value)(W:World),siz (utN y)<=n->XAt W (In W) y d->Calls prog 96 #[.agg d] W (UtP W y)
 |0,_,y,d,W,h,_=>by have:=KN (utN y);omega
 |n+1,hn,.mk k nn s l,d,W,h,hx=>by
  rw[utN,JA]at h;obtain⟨ad,cc,rfl,_,hK⟩:=hx.kids;exact Jcm n (V0 n zo) k nn s l ad cc W zo zo hK
end Go.Proofs.YtncanmdgdflnpaaGreatDoor


