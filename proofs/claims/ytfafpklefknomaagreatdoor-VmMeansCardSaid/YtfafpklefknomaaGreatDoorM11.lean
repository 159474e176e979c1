import Derived.Deep.OwnRows
import Derived.ChangeMaps4
import Derived.MapKept
import Derived.Test.YtfafpklefknomaaGreatDoorM06
import Derived.Test.YtfafpklefknomaaGreatDoorM08
import Derived.Test.YtfafpklefknomaaGreatDoorM09
import Derived.Test.YtfafpklefknomaaGreatDoorM10
import Derived.Test.YtfafpklefknomaaGreatDoorM03
open List(append_eq_nil_iff getElem?_eq_getElem map_map mem_of_getElem?)
open Nat(add_zero le_refl one_mul zero_mul)
namespace Go.Proofs.YtfafpklefknomaaGreatDoor
open _root_.Go.Proofs.Tryz
set_option linter.all false
set_option maxRecDepth 100000
set_option maxHeartbeats 32000000
def TkB(t:Tok):Prop:=(0<=t.n/\t.n<=1125899906842624)/\(t.kind=2->QcD t.text=true)
def JcX:∀(f:Nat)(l w:By),Qbt f l=some w->w.all (λc=>decide (32<=c.toNat)&&decide (c.toNat<=126)&&c !=34&&c !=92)=true
 |0,l,w,h=>by cases h
 |f+1,[],w,h=>by cases h
 |f+1,c::r,w,h=>by
  rw[Qbt]at h;split at h
  ·injection h with h;subst h;rfl
  ·rename_i hc;split at h
   ·cases h
   ·rename_i hd
    cases hr:Qbt f r with
    |none=>rw[hr]at h;cases h
    |some v=>
     rw[hr]at h;injection h with h;subst h;have ih:=JcX f r v hr;simp only[not_or]at hd;rw[List.all_cons,ih];simp[hc,hd.2.2];omega
def zBc{P:Prop}(h:P:=by
  injection h with h;injection h with h1 h2;subst h1;simp at hk):P:=h
def JkH{l:By}{t:Tok}{n:Nat}(h:QcH l=some (t,n)):TkB t:=by
 have hf:=Zx h;refine⟨⟨hf.2.2.2.1,hf.2.2.2.2.1⟩,λhk=>?_⟩
 cases l with
 |nil=>cases h
 |cons c r=>
  simp only[QcH]at h;split at h
  ·split at h
   ·exact zBc
   ·cases h
  ·split at h
   ·cases hp:Qbm (QaS (c::r)) 0 1125899906842624 with
    |none=>rw[hp]at h;cases h
    |some m=>
     rw[hp]at h;exact zBc
   ·split at h
    ·cases hp:Qbt 25 r with
     |none=>rw[hp]at h;cases h
     |some w=>
      rw[hp]at h;injection h with h;injection h with h1 h2;subst h1;have h3:=JcX _ _ _ hp;have h4:=(VN _ _ _ hp).1;unfold QcD;rw[h3];simp;omega
    ·split at h
     ·cases h
     ·exact zBc
def JnX:∀(l:By)(k:Nat)(ts:List Tok),sc k l=.ok ts->∀t∈ts,TkB t:=by
 refine Jbn (P:=λk l=>∀ts,sc k l=.ok ts->∀t∈ts,TkB t) ?_ ?_ ?_ ?_
 ·intro k ts h;rw[JeC]at h;injection h with h;subst h;intro t ht;obtain rfl:t=_:=by simpa using ht
  exact⟨⟨by simp,by simp⟩,λh=>by simp at h⟩
 ·intro k c r hs ih ts h;rw[Jjo k r hs]at h;exact ih ts h
 ·intro k c r hs ht ts h;rw[Jbl k r hs ht]at h
  cases h
 ·intro k c r t n hs ht h1 hn ih ts h;rw[Jbm k r hs ht]at h;obtain⟨rs,hr,rfl⟩:=Jdy h;intro x hx
  rcases List.mem_cons.1 hx with rfl|hx
  ·have h4:TkB t:=JkH ht;exact h4
  ·exact ih rs hr x hx
def Tk(r:List Tok):Prop:=∀t∈r,TkB t
variable{r r':List Tok}
def Tk.tail(h:Tk r):Tk r.tail:=λt ht=>h t (List.mem_of_mem_tail ht)
def Tk.hd(h:Tk r):TkB (hd r):=by
 cases r with
 |nil=>exact⟨⟨by decide,by decide⟩,λh=>absurd h zp⟩
 |cons a l=>exact h a zq
variable{k o v:Int}
def Kn{s:By}(hs:Tk r)(h:acc k s r=some r'):Tk r':=by
 unfold acc at h;split at h
 ·injection h with h;subst h;exact hs.tail
 ·cases h
def JR{s:By}{u:Unit}(hs:Tk r)(h:Qar k s r=.ok u r'):Tk r':=by
 unfold Qar at h;split at h
 ·rename_i r1 h1;injection h with h0 h;subst h;exact Kn hs h1
 ·cases h
def YF{nm:By×Int}(hs:Tk r)(h:Qbb r=.ok nm r'):Tk r'/\Qbr nm.1=true:=by
 unfold Qbb at h;split at h
 ·rename_i hc;injection h with h0 h;subst h h0;exact⟨hs.tail,hc.2⟩
 ·cases h
def Jfv{s:By}(hs:Tk r)(h:Qct r=.ok s r'):Tk r'/\QcD s=true:=by
 unfold Qct at h;split at h
 ·rename_i hc;injection h with h0 h;subst h h0;exact⟨hs.tail,hs.hd.2 hc⟩
 ·cases h
def Jba{s:By}(hs:Tk r)(h:QaL r=.ok s r'):Tk r'/\QcD s=true:=by
 unfold QaL at h;obtain⟨_,r1,h1,h⟩:=Je h;obtain⟨_,r2,h2,h⟩:=Je h;obtain⟨_,r3,h3,h⟩:=Je h;injection h with h0 h;subst h h0;have s1:=JR hs h1;obtain⟨s2,g2⟩:=Jfv s1 h2;exact⟨JR s2 h3,g2⟩
def Jit{t:Int}(hs:Tk r)(h:Qdu r=.ok t r'):Tk r'/\QbY t=true:=by
 unfold Qdu at h;split at h
 ·rename_i r1 h1;injection h with h0 h;subst h h0;exact⟨Kn hs h1,rfl⟩
 ·split at h
  ·rename_i r1 h1;injection h with h0 h;subst h h0;exact⟨Kn hs h1,rfl⟩
  ·cases h
def Jiu{t:Int}(hs:Tk r)(h:Qdg r=.ok t r'):Tk r'/\QdR t=true:=by
 unfold Qdg at h
 repeat' split at h
 all_goals first
  |(rename_i r1 h1;injection h with h0 h;subst h h0;exact⟨Kn hs h1,rfl⟩)
  |cases h
def ar0(k:Int):Nat:=if k<=5 then 0 else if k=6\/k=7 then 1 else if k=18 then 3 else 2
def PrF(k n:Int)(s:By)(m:Nat):Prop:=0<=k/\k<21/\(k=0->0<=n/\n<=1125899906842624)/\(k=1->n=0\/n=1)/\(k≠0->k≠1->n=0)/\(k=3->(QaU s).isSome=true)/\
 (k=4\/k=5->QcD s=true)/\(k≠2->k≠3->k≠4->k≠5->k≠19->k≠20->s=[])/\(k≠20->m=ar0 k)
mutual
def PrN:Nd->Prop
 |.mk k n s o l=>PrF k n s l.length/\PrL l
def PrL:List Nd->Prop
 |[]=>True
 |a::l=>PrN a/\PrL l
end
def Vt{n:Int}{s:By}{l:List Nd}:PrN (.mk k n s o l)↔PrF k n s l.length/\PrL l:=by rw[PrN]
def Kd{a:Nd}{l:List Nd}:PrL (a::l)↔PrN a/\PrL l:=by rw[PrL]
def KJ:PrL []:=by unfold PrL;trivial
def Jiv{l:List Nd}{a:Nd}(h:PrL l)(ha:PrN a):PrL (l++[a]):=by
 induction l with
 |nil=>exact Kd.2 ⟨ha,KJ⟩
 |cons x r ih=>
  have:=Kd.1 h;exact Kd.2 ⟨this.1,ih this.2⟩
def JmG{a:Nd}(h:PrN a)(o:Int):PrN (.mk a.kind a.num a.name o a.kids):=by cases a;rw[Vt]at *;exact h
def Jiw(h:6<=k/\k<=18):PrF k 0 [] (ar0 k):=⟨by omega,by omega,λh=>by omega,λh=>by omega,λ_ _=>rfl,λh=>by omega,λh=>by omega,λ_ _ _ _ _ _=>rfl,λ_=>rfl⟩
def pr1{a:Nd}(hk:k=6\/k=7)(ha:PrN a):PrN (.mk k 0 [] o [a]):=by
 have h:=Jiw (k:=k) zo;unfold ar0 at h;rw[if_neg zo,if_pos hk]at h;exact Vt.2 ⟨h,Kd.2 ⟨ha,KJ⟩⟩
def pr2{a b:Nd}(hk:8<=k/\k<=17)(ha:PrN a)(hb:PrN b):PrN (.mk k 0 [] o [a,b]):=by
 have h:=Jiw (k:=k) zo;unfold ar0 at h;rw[if_neg zo,if_neg zo,if_neg zo]at h;exact Vt.2 ⟨h,Kd.2 ⟨ha,Kd.2 ⟨hb,KJ⟩⟩⟩
def pr3{a b c:Nd}(ha:PrN a)(hb:PrN b)(hc:PrN c):PrN (.mk 18 0 [] o [a,b,c]):=
 Vt.2 ⟨Jiw (k:=18) zp,Kd.2 ⟨ha,Kd.2 ⟨hb,Kd.2 ⟨hc,KJ⟩⟩⟩⟩
def QiW{s:By}{a b:Nd}(ha:PrN a)(hb:PrN b):PrN (.mk 19 0 s o [a,b]):=
 Vt.2 ⟨⟨by decide,by decide,λh=>absurd h zp,λh=>absurd h zp,λ_ _=>rfl,λh=>absurd h zp,λh=>absurd h zp,λ_ _ _ _ h=>absurd rfl h,λ_=>rfl⟩,Kd.2 ⟨ha,Kd.2 ⟨hb,KJ⟩⟩⟩
def Qgf{s:By}{l:List Nd}(hl:PrL l):PrN (.mk 20 0 s o l):=
 Vt.2 ⟨⟨by decide,by decide,λh=>absurd h zp,λh=>absurd h zp,λ_ _=>rfl,λh=>absurd h zp,λh=>absurd h zp,λ_ _ _ _ _ h=>absurd rfl h,λh=>absurd rfl h⟩,hl⟩
def QiV{s:By}:PrN (.mk 2 0 s o []):=
 Vt.2 ⟨⟨by decide,by decide,λh=>absurd h zp,λh=>absurd h zp,λ_ _=>rfl,λh=>absurd h zp,λh=>absurd h zp,λh=>absurd rfl h,λ_=>rfl⟩,KJ⟩
def QiX{n:Int}(h:0<=n/\n<=1125899906842624):PrN (.mk 0 n [] o []):=
 Vt.2 ⟨⟨by decide,by decide,λ_=>h,λh=>absurd h zp,λh=>absurd rfl h,λh=>absurd h zp,λh=>absurd h zp,λ_ _ _ _ _ _=>rfl,λ_=>rfl⟩,KJ⟩
def Qgg{n:Int}(h:n=0\/n=1):PrN (.mk 1 n [] o []):=
 Vt.2 ⟨⟨by decide,by decide,λh=>absurd h zp,λ_=>h,λ_ h=>absurd rfl h,λh=>absurd h zp,λh=>absurd h zp,λ_ _ _ _ _ _=>rfl,λ_=>rfl⟩,KJ⟩
def Qif{s:By}(h:(QaU s).isSome=true):PrN (.mk 3 0 s o []):=
 Vt.2 ⟨⟨by decide,by decide,λh=>absurd h zp,λh=>absurd h zp,λ_ _=>rfl,λ_=>h,λh=>absurd h zp,λ_ h=>absurd rfl h,λ_=>rfl⟩,KJ⟩
def Qge{s:By}(hk:k=4\/k=5)(h:QcD s=true):PrN (.mk k 0 s o []):=
 Vt.2 ⟨⟨by omega,by omega,λh=>by omega,λh=>by omega,λ_ _=>rfl,λh=>by omega,λ_=>h,λ_ _ h1 h2=>by omega,λ_=>by unfold ar0;rw[if_pos zo];rfl⟩,KJ⟩
def JmH{lv:Nat}{t:Tok}(h:opK lv t=some k):8<=k/\k<=17:=by
 exact QgZ
def JkI{t:Tok}(h:Qeh t=some k):8<=k/\k<=17:=by
 exact Qha
def JmI{t:Tok}{a b:Nd}(hk:8<=k/\k<=17)(ha:PrN a)(hb:PrN b):PrN (QdV t k a b):=by
 unfold QdV;split
 ·exact pr2 hk hb ha
 ·split
  ·exact pr1 (.inr rfl) (pr2 hk ha hb)
  ·exact pr2 hk ha hb
def QkM:Md->Prop
 |.loop _ _ a=>PrN a
 |.args _ _ l=>PrL l
 |_=>True
def KV:∀(f:Nat)(md:Md)(r r':List Tok)(a:Nd),Tk r->pM f md r=.ok a r'->QkM md->PrN a/\Tk r'
 |0,md,r,r',a,hs,h,he=>by unfold pM at h;cases h
 |f+1,.expr,r,r',a,hs,h,he=>by
  rw[pM]at h;split at h
  ·rename_i r1 h1;obtain⟨_,r2,h2,h⟩:=Je h;obtain⟨_,r3,h3,h⟩:=Je h;obtain⟨_,r4,h4,h⟩:=Je h;obtain⟨_,r5,h5,h⟩:=Je h;obtain⟨_,r6,h6,h⟩:=Je h;injection h with h0 h;subst h h0;have s1:=Kn hs h1;obtain⟨s2,g2⟩:=YF s1 h2;have s3:=JR s2 h3;obtain⟨g4,s4⟩:=KV f _ _ _ _ s3 h4 trivial;have s5:=JR s4 h5;obtain⟨g6,s6⟩:=KV f _ _ _ _ s5 h6 trivial;exact⟨QiW g4 g6,s6⟩
  ·split at h
   ·rename_i r1 h1;obtain⟨_,r2,h2,h⟩:=Je h;obtain⟨_,r3,h3,h⟩:=Je h;obtain⟨_,r4,h4,h⟩:=Je h;obtain⟨_,r5,h5,h⟩:=Je h;obtain⟨_,r6,h6,h⟩:=Je h;injection h with h0 h;subst h h0;have s1:=Kn hs h1;obtain⟨g2,s2⟩:=KV f _ _ _ _ s1 h2 trivial;have s3:=JR s2 h3;obtain⟨g4,s4⟩:=KV f _ _ _ _ s3 h4 trivial;have s5:=JR s4 h5;obtain⟨g6,s6⟩:=KV f _ _ _ _ s5 h6 trivial;exact⟨pr3 g2 g4 g6,s6⟩
   ·exact KV f _ _ _ _ hs h trivial
 |f+1,.level lv,r,r',a,hs,h,he=>by
  rw[pM]at h;split at h
  ·split at h
   ·rename_i r1 h1;obtain⟨_,r2,h2,h⟩:=Je h;injection h with h0 h;subst h h0;obtain⟨g2,s2⟩:=KV f _ _ _ _ (Kn hs h1) h2 trivial;exact⟨pr1 (.inr rfl) g2,s2⟩
   ·exact KV f _ _ _ _ hs h trivial
  ·split at h
   ·split at h
    ·rename_i r1 h1;obtain⟨_,r2,h2,h⟩:=Je h;injection h with h0 h;subst h h0;obtain⟨g2,s2⟩:=KV f _ _ _ _ (Kn hs h1) h2 trivial;exact⟨pr1 (.inl rfl) g2,s2⟩
    ·exact KV f _ _ _ _ hs h trivial
   ·obtain⟨_,r1,h1,h⟩:=Je h;obtain⟨g1,s1⟩:=KV f _ _ _ _ hs h1 trivial;exact KV f _ _ _ _ s1 h g1
 |f+1,.loop lv o b,r,r',a,hs,h,he=>by
  rw[pM]at h;split at h
  ·injection h with h0 h;subst h h0;exact⟨he,hs⟩
  ·rename_i k hk;obtain⟨_,r1,h1,h⟩:=Je h;obtain⟨g1,s1⟩:=KV f _ _ _ _ hs.tail h1 trivial;exact KV f _ _ _ _ s1 h (show PrN _ from pr2 (JmH hk) he g1)
 |f+1,.cmp,r,r',a,hs,h,he=>by
  rw[pM]at h;obtain⟨x,r1,h1,h⟩:=Je h;obtain⟨g1,s1⟩:=KV f _ _ _ _ hs h1 trivial;split at h
  ·injection h with h0 h;subst h h0;exact⟨g1,s1⟩
  ·rename_i k hk;obtain⟨y,r2,h2,h⟩:=Je h;obtain⟨g2,s2⟩:=KV f _ _ _ _ s1.tail h2 trivial;injection h with h0 h;subst h h0;exact⟨JmI (JkI hk) g1 g2,s2⟩
 |f+1,.prim,r,r',a,hs,h,he=>by
  rw[pM]at h;split at h
  ·injection h with h0 h;subst h h0;exact⟨QiX hs.hd.1,hs.tail⟩
  split at h
  ·rename_i r1 h1;obtain⟨x,r2,h2,h⟩:=Je h;obtain⟨_,r3,h3,h⟩:=Je h;injection h with h0 h;subst h h0;obtain⟨g2,s2⟩:=KV f _ _ _ _ (Kn hs h1) h2 trivial;exact⟨JmG g2 _,JR s2 h3⟩
  split at h
  ·rename_i r1 h1;injection h with h0 h;subst h h0;exact⟨Qgg (.inl rfl),Kn hs h1⟩
  split at h
  ·rename_i r1 h1;injection h with h0 h;subst h h0;exact⟨Qgg (.inr rfl),Kn hs h1⟩
  split at h
  ·rename_i r1 h1;obtain⟨_,r2,h2,h⟩:=Je h;injection h with h0 h;subst h h0;obtain⟨s2,g2⟩:=Jba (Kn hs h1) h2;exact⟨Qge (.inl rfl) g2,s2⟩
  split at h
  ·rename_i r1 h1;obtain⟨_,r2,h2,h⟩:=Je h;injection h with h0 h;subst h h0;obtain⟨s2,g2⟩:=Jba (Kn hs h1) h2;exact⟨Qge (.inr rfl) g2,s2⟩
  split at h
  ·rename_i hc;injection h with h0 h;subst h h0;exact⟨Qif hc.1,hs.tail⟩
  ·exact KV f _ _ _ _ hs h trivial
 |f+1,.named,r,r',a,hs,h,he=>by
  rw[pM]at h;obtain⟨nm,r1,h1,h⟩:=Je h;obtain⟨s1,g1⟩:=YF hs h1;split at h
  ·injection h with h0 h;subst h h0;exact⟨QiV,s1⟩
  ·rename_i r2 h2;split at h
   ·rename_i r3 h3;injection h with h0 h;subst h h0;exact⟨Qgf KJ,Kn (Kn s1 h2) h3⟩
   ·exact KV f _ _ _ _ (Kn s1 h2) h (show PrL _ from KJ)
 |f+1,.args nm o l,r,r',a,hs,h,he=>by
  have xA:PrL l:=he;rw[pM]at h;obtain⟨x,r1,h1,h⟩:=Je h;obtain⟨g1,s1⟩:=KV f _ _ _ _ hs h1 trivial;split at h
  ·rename_i r2 h2;exact KV f _ _ _ _ (Kn s1 h2) h (show PrL _ from Jiv xA g1)
  ·obtain⟨_,r2,h2,h⟩:=Je h;injection h with h0 h;subst h h0;exact⟨Qgf (Jiv xA g1),JR s1 h2⟩
structure QgS(f:FnS):Prop where
 body:PrN f.body
 name:Qbr f.name.1=true
 types:f.types.all QbY=true
 result:QbY f.result=true
 len:f.params.length=f.types.length
structure Qiq(c:ClS):Prop where
 cond:PrN c.cond
 action:QdR c.action=true
 reason:QcD c.reason=true
def Jbb:∀(f:Nat)(ps:List (By×Int))(ts:List Int)(r r':List Tok) a,Tk r->ts.all QbY=true->ps.length=ts.length->QaQ f ps ts r=.ok a r'->Tk r'/\a.2.all QbY=true/\a.1.length=a.2.length
 |0,_,_,_,_,_,_,_,_,h=>by cases h
 |f+1,ps,ts,r,r',a,hs,ht,hl,h=>by
  rw[QaQ]at h;obtain⟨_,r1,h1,h⟩:=Je h;obtain⟨_,r2,h2,h⟩:=Je h;obtain⟨t,r3,h3,h⟩:=Je h;obtain⟨s3,g3⟩:=Jit (JR (YF hs h1).1 h2) h3;have D8:(ts++[t]).all QbY=true:=by simp only[List.all_append,ht,List.all_cons,g3,List.all_nil,Bool.and_self]
  split at h
  ·rename_i r4 h4;exact Jbb f _ _ _ _ _ (Kn s3 h4) D8 (by simp[hl]) h
  ·obtain⟨_,r4,h4,h⟩:=Je h;injection h with h0 h;subst h h0;exact⟨JR s3 h4,D8,by simp[hl]⟩
variable{f m i kb ui p z:Nat}
def JmJ{x:FnS}(hs:Tk r)(h:Qeg f r=.ok x r'):QgS x/\Tk r':=by
 unfold Qeg at h;obtain⟨nm,r1,h1,h⟩:=Je h;obtain⟨_,r2,h2,h⟩:=Je h;obtain⟨pt,r3,h3,h⟩:=Je h;obtain⟨_,r4,h4,h⟩:=Je h;obtain⟨_,r5,h5,h⟩:=Je h;obtain⟨_,r6,h6,h⟩:=Je h;obtain⟨_,r7,h7,h⟩:=Je h;injection h with h0 h;subst h h0;obtain⟨s1,g1⟩:=YF hs h1;have s2:=JR s1 h2
 have s3:Tk r3/\pt.2.all QbY=true/\pt.1.length=pt.2.length:=by
  split at h3
  ·rename_i r9 h9;injection h3 with h0 h3;subst h3 h0;exact⟨Kn s2 h9,rfl,rfl⟩
  ·exact Jbb _ _ _ _ _ _ s2 rfl rfl h3
 obtain⟨s5,g5⟩:=Jit (JR s3.1 h4) h5;obtain⟨g7,s7⟩:=KV _ _ _ _ _ (JR s5 h6) h7 trivial;exact⟨⟨g7,g1,s3.2.1,g5,s3.2.2⟩,s7⟩
def Jfw(g:Nat):∀(f:Nat)(l:List FnS)(r r':List Tok) a,Tk r->(∀x∈l,QgS x)->QcF g f l r=.ok a r'->(∀x∈a,QgS x)/\Tk r'
 |0,_,_,_,_,_,_,h=>by cases h
 |f+1,l,r,r',a,hs,hl,h=>by
  rw[QcF]at h;split at h
  ·rename_i r1 h1;obtain⟨x,r2,h2,h⟩:=Je h;obtain⟨g1,g2⟩:=JmJ (Kn hs h1) h2
   exact Jfw g f _ _ _ _ g2 (by
    intro y hy
    rcases List.mem_append.1 hy with hy|hy
    ·exact hl y hy
    ·obtain rfl:y=x:=by simpa using hy
     exact g1) h
  ·injection h with h0 h;subst h h0;exact⟨hl,hs⟩
def Jao(g:Nat):∀(f:Nat)(l:List ClS)(r r':List Tok) a,Tk r->(∀x∈l,Qiq x)->QaP g f l r=.ok a r'->(∀x∈a,Qiq x)/\Tk r'
 |0,_,_,_,_,_,_,h=>by cases h
 |f+1,l,r,r',a,hs,hl,h=>by
  rw[QaP]at h;split at h
  ·rename_i r1 h1;obtain⟨x,r2,h2,h⟩:=Je h;obtain⟨_,r3,h3,h⟩:=Je h;obtain⟨ac,r4,h4,h⟩:=Je h;obtain⟨tx,r5,h5,h⟩:=Je h;obtain⟨g1,s2⟩:=KV _ _ _ _ _ (Kn hs h1) h2 trivial;obtain⟨s4,g4⟩:=Jiu (JR s2 h3) h4;obtain⟨s5,g5⟩:=Jfv s4 h5
   exact Jao g f _ _ _ _ s5 (by
    intro y hy
    rcases List.mem_append.1 hy with hy|hy
    ·exact hl y hy
    ·obtain rfl:y=_:=by simpa using hy
     exact⟨g1,g4,g5⟩) h
  ·injection h with h0 h;subst h h0;exact⟨hl,hs⟩
def Jix{s:Src}(hs:Tk r)(h:QdU f r=.ok s r'):(∀x∈s.funcs,QgS x)/\(∀x∈s.clauses,Qiq x)/\QdR s.action=true:=by
 unfold QdU at h;obtain⟨fs,r1,h1,h⟩:=Je h;obtain⟨cs,r2,h2,h⟩:=Je h;obtain⟨_,r3,h3,h⟩:=Je h;obtain⟨_,r4,h4,h⟩:=Je h;obtain⟨g1,s1⟩:=Jfw _ _ _ _ _ _ hs zq h1;obtain⟨g2,s2⟩:=Jao _ _ _ _ _ _ s1 zq h2;obtain⟨s4,g4⟩:=Jiu (JR s2 h3) h4;split at h
 ·injection h with h0 h;subst h0;exact⟨g1,g2,g4⟩
 ·cases h
def JbQ(a:Exp):(utN a).off=0:=by cases a;rw[utN];rfl
def QcU(fs:List QaN)(M0:List Int)(t:Int)(a:Nd)(l:List Nd):Qbp fs M0 t (a::l)=(ofN fs M0 a).2++(if (ofN fs M0 a).1≠t then [a.off] else [])++Qbp fs M0 t l:=by rw[Qbp]
def Jap(fs:List QaN)(M0:List Int)(b:Bool)(ps:List Int)(a:Nd)(l:List Nd):QcX fs M0 b ps (a::l)=(ofN fs M0 a).2++(if b=true/\(ofN fs M0 a).1≠ps.headD 0 then [a.off] else [])++QcX fs M0 b ps.tail l:=by rw[QcX]
def VI(l:List Nd):(QaJ l).length=l.length:=by
 induction l with
 |nil=>rw[QaJ];rfl
 |cons a l ih=>rw[QaJ,List.length_cons,ih,List.length_cons]
def z0(l:List Int):List Int:=l.map λ_=>0
def Jbc(a b:List Int):z0 (a++b)=z0 a++z0 b:=by simp[z0]
def Jiy(c:Prop)[Decidable c](x:Int):z0 (if c then [x] else [])=if c then [0] else []:=by split<;>rfl
mutual
def V3(fs:List QaN):∀(M0:List Int)(a:Nd),ofN fs M0 (utN (Qab a))=((ofN fs M0 a).1,z0 (ofN fs M0 a).2)
 |M0,.mk k n s o l=>by
  have hN:=λt=>Jfx fs M0 t l
  have hA:=λb ps=>Jiz fs M0 b ps l
  have hlen:(utL (QaJ l)).length=l.length:=by rw[Jz,VI]
  rw[Qab,utN,Zd,Zd]
  by_cases h1:k=1\/k=5
  ·rw[if_pos h1,if_pos h1];rfl
  rw[if_neg h1,if_neg h1]
  by_cases h2:k=2
  ·rw[if_pos h2,if_pos h2];rfl
  rw[if_neg h2,if_neg h2]
  by_cases h3:k=3
  ·rw[if_pos h3,if_pos h3];rfl
  rw[if_neg h3,if_neg h3]
  by_cases h4:k=6\/(8<=k/\k<=12)
  ·rw[if_pos h4,if_pos h4,hN]
  rw[if_neg h4,if_neg h4]
  by_cases h5:k=13\/k=14
  ·rw[if_pos h5,if_pos h5,hN]
  rw[if_neg h5,if_neg h5]
  by_cases h6:k=15
  ·rw[if_pos h6,if_pos h6]
   match l with
   |[]=>rfl
   |[a]=>rfl
   |[a,b]=>
    have ea:=V3 fs M0 a;have eb:=V3 fs M0 b;simp only[QaJ,utL,ea,eb,Jbc,Jiy,JbQ]
   |a::b::c::r=>rfl
  rw[if_neg h6,if_neg h6]
  by_cases h7:k=7\/k=16\/k=17
  ·rw[if_pos h7,if_pos h7,hN]
  rw[if_neg h7,if_neg h7]
  by_cases h8:k=18
  ·rw[if_pos h8,if_pos h8]
   match l with
   |[]=>rfl
   |[a]=>rfl
   |[a,b]=>rfl
   |[c,a,b]=>
    have ec:=V3 fs M0 c;have ea:=V3 fs M0 a;have eb:=V3 fs M0 b;simp only[QaJ,utL,ec,ea,eb,Jbc,Jiy,JbQ]
   |a::b::c::d::r=>rfl
  rw[if_neg h8,if_neg h8]
  by_cases h9:k=19
  ·rw[if_pos h9,if_pos h9]
   match l with
   |[]=>rfl
   |[a]=>rfl
   |[a,b]=>
    have ea:=V3 fs M0 a;have eb:=λv=>V3 fs v b
    simp only[QaJ,utL,ea,eb,Jbc]
   |a::b::c::r=>rfl
  rw[if_neg h9,if_neg h9]
  by_cases C2:k=20
  ·rw[if_pos C2,if_pos C2];simp only[hlen,hA,Jbc,Jiy]
  rw[if_neg C2,if_neg C2];rfl
def Jfx(fs:List QaN):∀(M0:List Int)(t:Int)(l:List Nd),Qbp fs M0 t (utL (QaJ l))=z0 (Qbp fs M0 t l)
 |M0,t,[]=>by rw[QaJ,utL,Qbp];rfl
 |M0,t,a::l=>by
  rw[QaJ,utL,QcU,QcU,V3 fs M0 a,Jfx fs M0 t l,JbQ];simp only[Jbc,Jiy]
def Jiz(fs:List QaN):∀(M0:List Int)(b:Bool)(ps:List Int)(l:List Nd),QcX fs M0 b ps (utL (QaJ l))=z0 (QcX fs M0 b ps l)
 |M0,b,ps,[]=>by rw[QaJ,utL,QcX];rfl
 |M0,b,ps,a::l=>by
  rw[QaJ,utL,Jap,Jap,V3 fs M0 a,Jiz fs M0 b ps.tail l,JbQ];simp only[Jbc,Jiy]
end
variable{fs:List QaN}
def JiA{M0:List Int}{t:Int}{a:Nd}(h:QcT fs M0 t a=[]):QcT fs M0 t (utN (Qab a))=[]:=by
 have h1:=V9 h;unfold QcT;rw[V3,h1];simp[z0]
def VZ{fs:List QaN}{M0:List Int}{t:Int}:∀{l:List Nd},Qbp fs M0 t l=[]->∀a∈l,(ofN fs M0 a).2=[]
 |[],_,a,ha=>by cases ha
 |x::l,h,a,ha=>by
  rw[QcU]at h;simp only[append_eq_nil_iff]at h
  rcases List.mem_cons.1 ha with rfl|ha
  ·exact h.1.1
  ·exact VZ h.2 a ha
def JcY{fs:List QaN}{M0:List Int}{b:Bool}:∀{l:List Nd}{ps:List Int},QcX fs M0 b ps l=[]->∀a∈l,(ofN fs M0 a).2=[]
 |[],_,_,a,ha=>by cases ha
 |x::l,ps,h,a,ha=>by
  rw[Jap]at h;simp only[append_eq_nil_iff]at h
  rcases List.mem_cons.1 ha with rfl|ha
  ·exact h.1.1
  ·exact JcY h.2 a ha
def Jem{M0:List Int}{n:Int}{s:By}{l:List Nd}(h:(ofN fs M0 (.mk k n s o l)).2=[])(M3:k≠19)(hk:0<=k/\k<21)(hl:k≠20->l.length=ar0 k):∀a∈l,(ofN fs M0 a).2=[]:=by
 by_cases h5:k<=5
 ·have:=hl zo;unfold ar0 at this;rw[if_pos h5]at this;obtain rfl:=List.eq_nil_of_length_eq_zero this;intro a ha
  cases ha
 rw[Zd,if_neg zo,if_neg zo,if_neg zo]at h
 by_cases h4:k=6\/(8<=k/\k<=12)
 ·rw[if_pos h4]at h;exact VZ h
 rw[if_neg h4]at h
 by_cases h6:k=13\/k=14
 ·rw[if_pos h6]at h;exact VZ h
 rw[if_neg h6]at h
 by_cases h7:k=15
 ·subst h7;rw[if_pos rfl]at h
  match l,hl zp,h with
  |[a,b],_,h=>
   simp only[append_eq_nil_iff]at h;intro x hx;simp at hx
   rcases hx with rfl|rfl
   ·exact h.1.1
   ·exact h.1.2
 rw[if_neg h7]at h
 by_cases h8:k=7\/k=16\/k=17
 ·rw[if_pos h8]at h;exact VZ h
 rw[if_neg h8]at h
 by_cases h9:k=18
 ·subst h9;rw[if_pos rfl]at h
  match l,hl zp,h with
  |[c,a,b],_,h=>
   simp only[append_eq_nil_iff]at h;intro x hx;simp at hx
   rcases hx with rfl|rfl|rfl
   ·exact h.1.1.1.1
   ·exact h.1.1.2
   ·exact h.1.2
 rw[if_neg h9,if_neg M3,if_pos zo]at h;simp only[append_eq_nil_iff]at h;exact JcY h.2
def JmK(k n:Int)(s:By)(o:Int)(l:List Nd):Qag (.mk k n s o l)=QbL l+1:=by rw[Qag]
def Y2(a:Nd)(l:List Nd):QbL (a::l)=max (Qag a) (QbL l):=by rw[QbL]
def Ye(fs M0:List By):∀l,(QbS fs M0 l).1.length=l.length
 |[]=>by rw[QbS]
 |a::l=>by rw[QbS];simp only[List.length_cons,Ye fs M0 l]
def JnY{pa:List Nat}{n:Int}(hk:0<=k/\k<21)(h:k≠20):QaM pa k n=ar0 k:=by
 unfold QaM ar0
 by_cases h5:k<=5
 ·rw[if_pos zo,if_pos h5]
 ·rw[if_neg zo,if_neg h5];split
  ·rfl
  ·split
   ·rfl
   ·rfl
def JiB{nf M0:Nat}{n:Int}{s:By}(h:PrF k n s m)(h2:k≠2)(M3:k≠19)(T3:k≠20):Qam nf M0 k n s=true:=by
 obtain⟨a1,a2,a3,a4,a5,a6,a7,a8,_⟩:=h;unfold Qam;simp only[Bool.and_eq_true];refine⟨⟨⟨?_,?_⟩,by simpa using a1⟩,by simpa using a2⟩
 ·by_cases h0:k=0
  ·rw[if_pos h0];have:=a3 h0;simp;omega
  rw[if_neg h0]
  by_cases h1:k=1
  ·rw[if_pos h1];have:=a4 h1;simp;omega
  rw[if_neg h1,if_neg h2,if_neg M3,if_neg T3,a5 h0 h1];rfl
 ·by_cases h3:k=3
  ·rw[if_pos h3];exact a6 h3
  rw[if_neg h3]
  by_cases h4:k=4\/k=5
  ·rw[if_pos h4];exact a7 h4
  rw[if_neg h4,a8 h2 h3 (λh=>h4 (.inl h)) (λh=>h4 (.inr h)) M3 T3];rfl
mutual
def YG{fs:List By}{sg:List QaN}(I8:fs.length=sg.length):∀(a:Nd)(M0:List By)(ty:List Int)(m:Nat),PrN a->(QcQ fs M0 a).2=[]->(ofN sg ty (QcQ fs M0 a).1).2=[]->Qag a<=m->QaK (QbP sg) M0.length m (Qab (QcQ fs M0 a).1)=true
 |.mk k n s o l,M0,ty,m,hp,hr,ht,hn=>by
  rw[Vt]at hp;obtain⟨hf,hl⟩:=hp;obtain⟨a1,a2,a3,a4,a5,a6,a7,a8,a9⟩:=hf;rw[JmK]at hn;rw[Vx]at hr ht |-
  by_cases h2:k=2
  ·subst h2;rw[if_pos rfl]at hr ht |-;obtain rfl:l=[]:=List.eq_nil_of_length_eq_zero (a9 (by decide));simp only[append_eq_nil_iff]at hr;have hx:=(Yr s _ M0 rfl).2;have hlt:¬QaY M0 s<0:=λhc=>by rw[if_pos hc]at hr;exact absurd hr.1 (by simp)
   rw[QbS,Qab,QaJ];unfold QaK Qam QaM;simp[QaB];omega
  rw[if_neg h2]at hr ht |-
  by_cases T3:k=20
  ·subst T3;rw[if_pos rfl]at hr ht |-;simp only[append_eq_nil_iff]at hr
   cases hx:Qal fs s with
   |none=>rw[hx]at hr;simp at hr
   |some q=>
    have hlt:=JaP hx;rw[hx]at ht;have hk:=Jem ht (by decide) (by decide) λh=>absurd rfl h;rw[Zd,if_neg (by decide),if_neg (by decide),if_neg (by decide),if_neg (by decide),if_neg (by decide),if_neg (by decide),if_neg (by decide),if_neg (by decide),if_neg (by decide),if_pos rfl]at ht;simp only[append_eq_nil_iff]at ht
    have hlen:(QbS fs M0 l).1.length=(sg.getD q ⟨[],0⟩).params.length:=by
     have:=ht.1;split at this
     ·cases this
     ·rename_i hc;exact Classical.not_not.1 hc
    have G7:=Jaq I8 l M0 (m-1) 20 0 (by decide) hl hr.2 (λa ha=>⟨ty,hk a ha⟩) (by omega)
    have U5:(QbP sg).getD q 0=(sg.getD q ⟨[],0⟩).params.length:=by
     unfold QbP;simp only[List.getD_eq_getElem?_getD,List.getElem?_map]
     cases sg[q]?<;>rfl
    rw[Qab];rw[QaK,G7]
    have hfl:Qam (QbP sg).length M0.length 20 ((Option.getD (some q) 0:Nat):Int) []=true:=by
     unfold Qam;rw[K5];simp;omega
    have har:QaM (QbP sg) 20 ((Option.getD (some q) 0:Nat):Int)=(QbS fs M0 l).1.length:=by
     unfold QaM;simp only[Option.getD_some,Int.toNat_natCast];rw[if_neg (by decide),if_neg (by decide),if_neg (by decide),if_pos trivial,U5,hlen]
    rw[hfl,har,VI];simp;omega
  rw[if_neg T3]at hr ht |-
  by_cases M3:k=19
  ·subst M3;rw[if_pos rfl]at hr ht |-
   match l,a9 (by decide),hl,hr,ht,hn with
   |[a,b],_,hl,hr,ht,hn=>
    rw[Kd,Kd]at hl;simp only[append_eq_nil_iff]at hr;rw[Y2,Y2]at hn;simp only at ht |-;rw[Zd,if_neg (by decide),if_neg (by decide),if_neg (by decide),if_neg (by decide),if_neg (by decide),if_neg (by decide),if_neg (by decide),if_neg (by decide),if_pos rfl]at ht;simp only[append_eq_nil_iff]at ht;have fa:=YG I8 a M0 ty (m-1) hl.1 hr.1 ht.1 (by omega);have fb:=YG I8 b (M0++[s]) _ (m-1) hl.2.1 hr.2 ht.2 (by omega);rw[List.length_append,List.length_singleton]at fb;rw[Qab,QaJ,QaJ,QaJ,QaK,QaB,QaB,QaB]
    have hfl:Qam (QbP sg).length M0.length 19 (M0.length:Int) []=true:=by
     unfold Qam;simp
    rw[hfl];simp[fa,fb,QaM];omega
  rw[if_neg M3]at hr ht |-;have hk:=Jem ht M3 ⟨a1,a2⟩ (λh=>by rw[Ye];exact a9 h);have G7:=Jaq I8 l M0 (m-1) k 0 M3 hl hr (λa ha=>⟨ty,hk a ha⟩) (by omega);rw[Qab,QaK,G7,JiB ⟨a1,a2,a3,a4,a5,a6,a7,a8,a9⟩ h2 M3 T3,JnY ⟨a1,a2⟩ T3,VI,Ye,a9 T3];simp;omega
def Jaq{fs:List By}{sg:List QaN}(I8:fs.length=sg.length):∀(l:List Nd)(M0:List By)(m:Nat)(k:Int)(i:Nat),k≠19->PrL l->(QbS fs M0 l).2=[]->(∀a∈(QbS fs M0 l).1,∃ty,(ofN sg ty a).2=[])->QbL l<=m->QaB (QbP sg) M0.length m k i (QaJ (QbS fs M0 l).1)=true
 |[],M0,m,k,i,hk,hp,hr,ht,hn=>by rw[QbS,QaJ,QaB]
 |a::l,M0,m,k,i,hk,hp,hr,ht,hn=>by
  rw[Kd]at hp;rw[QbS]at hr ht |-;simp only[append_eq_nil_iff]at hr;rw[Y2]at hn;obtain⟨ty,h1⟩:=ht _ (List.mem_cons_self);have fa:=YG I8 a M0 ty m hp.1 hr.1 h1 (by omega);have fl:=Jaq I8 l M0 m k (i+1) hk hp.2 hr.2 (λx hx=>ht x (List.mem_cons_of_mem _ hx)) (by omega);simp only;rw[QaJ,QaB,if_neg λh=>hk h.1,fa,fl];rfl
end
def Jgp{l:List (By×Int)}{seen:List By}:Qdk l seen=[]->∀{fs:List FnM},fs.map (·.name)=l.map (·.1)->(∀f∈fs,Qbr f.name=true/\QbY f.result=true/\f.params.all QbY=true)->QbU seen fs=true:=by
 induction l generalizing seen with
 |nil=>
  intro _ fs hm _;obtain rfl:fs=[]:=by simpa using hm
  rfl
 |cons a l ih=>
  intro h fs hm hf;obtain⟨s,o⟩:=a;rw[Qdk]at h;simp only[append_eq_nil_iff]at h
  cases fs with
  |nil=>simp at hm
  |cons f fs=>
   simp only[List.map_cons,List.cons.injEq]at hm;obtain⟨e1,e2⟩:=hm;obtain⟨g1,g2,g3⟩:=hf f zq;have xA:s∉seen:=λhc=>by rw[if_pos hc]at h;exact absurd h.1 zq
   rw[QbU,g1,g2,g3,e1];rw[ih h.2 e2 λx hx=>hf x (List.mem_cons_of_mem _ hx)];simp[xA]
def Jgq{s:Src}(h:QbN s=none):∀a∈s.roots,Qag a<=40:=by
 unfold QbN at h;simp only[Option.map_eq_none_iff,List.find?_eq_none,decide_eq_true_eq]at h;intro a ha;have:=h a ha;omega
def JiC{s:Src}(h1:∀x∈s.funcs,QgS x)(h2:∀x∈s.clauses,Qiq x)(h3:QdR s.action=true)(hl:QbN s=none)(hr:(Qae s).2=[])(hc:QbH (Qae s).1=[]):Qat (QaE (Qae s).1)=true:=by
 have xA:=Jgq hl;unfold Src.roots at xA;unfold Qae at hr hc |-;simp only[append_eq_nil_iff,List.flatten_eq_nil_iff]at hr;obtain⟨⟨e0,e1⟩,e2⟩:=hr;unfold QbH at hc;simp only[append_eq_nil_iff,List.flatten_eq_nil_iff,List.mem_map,map_map]at hc;obtain⟨c1,c2⟩:=hc;obtain⟨fs,vA⟩:=yt (s.funcs.map (·.name.1))
 obtain⟨sg,uA⟩:=yt ((s.funcs.map λf=>(⟨f.types,f.result⟩:QaN)))
 have yA:(List.map ((λf:FnS=>(⟨f.types,f.result⟩:QaN))∘(λx=>x.1)∘resF fs) s.funcs)=sg:=by rw[<-uA];rfl
 rw[vA]at e1 e2 c1 c2 |-;have zA:fs.length=sg.length:=by rw[<-vA,<-uA];simp
 have aA:QbP sg=s.funcs.map λf=>f.types.length:=by rw[<-uA];unfold QbP;rw[map_map];rfl
 have F:∀f∈s.funcs,QaK (QbP sg) f.types.length 40 (Qab (resF fs f).1.body)=true/\QcT sg f.types f.result (utN (Qab (resF fs f).1.body))=[]:=by
  intro f hf;have hp:=h1 f hf;have r1:=e1 _ (List.mem_map.2 ⟨resF fs f,List.mem_map.2 ⟨f,hf,rfl⟩,rfl⟩);have t1:=c1 _ ⟨f,hf,rfl⟩;simp only[Function.comp,yA]at t1;unfold resF at r1 t1 |-;simp only[append_eq_nil_iff]at r1;simp only at t1 |-;have nf:=xA f.body (List.mem_append_left _ (List.mem_map.2 ⟨f,hf,rfl⟩));have ty:=V9 t1;have:=YG zA f.body (f.params.map (·.1)) f.types 40 hp.body r1.2 (by rw[ty]) nf;rw[List.length_map,hp.len]at this;exact⟨this,JiA t1⟩
 have C:∀c∈s.clauses,QaK (QbP sg) 0 40 (Qab (resC fs c).1.cond)=true/\QcT sg [] 1 (utN (Qab (resC fs c).1.cond))=[]:=by
  intro c hc;have hp:=h2 c hc;have r1:=e2 _ (List.mem_map.2 ⟨resC fs c,List.mem_map.2 ⟨c,hc,rfl⟩,rfl⟩);have t1:=c2 _ ⟨c,hc,rfl⟩;simp only[Function.comp,yA]at t1;unfold resC at r1 t1 |-;simp only at r1 t1 |-;have nf:=xA c.cond (List.mem_append_right _ (List.mem_map.2 ⟨c,hc,rfl⟩));have ty:=V9 t1;exact⟨YG zA c.cond [] [] 40 hp.cond r1 (by rw[ty]) nf,JiA t1⟩
 unfold Qat QaE Qbq Qbz Qah.sigs Qah.pa QgH;simp only[map_map,Bool.and_eq_true,List.all_map,List.all_eq_true,Function.comp,beq_iff_eq];have g1:(List.map ((λx:FnM=>x.params.length)∘(λf:FnS=>(⟨f.name.1,f.types,f.result,Qab f.body⟩:FnM))∘(λx=>x.1)∘resF fs) s.funcs)=QbP sg:=by rw[aA];rfl
 have g2:(List.map ((λf:FnM=>(⟨f.params,f.result⟩:QaN))∘(λf:FnS=>(⟨f.name.1,f.types,f.result,Qab f.body⟩:FnM))∘(λx=>x.1)∘resF fs) s.funcs)=sg:=by rw[<-uA];rfl
 refine⟨⟨⟨⟨?_,λc hc=>⟨(h2 c hc).action,(h2 c hc).reason⟩⟩,h3⟩,?_⟩,?_⟩
 ·refine Jgp e0 ?_ ?_
  ·simp only[map_map];rfl
  ·intro f hf;simp only[List.mem_map,Function.comp]at hf;obtain⟨g,hg,rfl⟩:=hf;exact⟨(h1 g hg).name,(h1 g hg).result,(h1 g hg).types⟩
 ·exact⟨λf hf=>by rw[g1];exact(F f hf).1,λc hc=>by rw[g1];exact(C c hc).1⟩
 ·exact⟨λf hf=>by rw[g2];exact(F f hf).2,λc hc=>by rw[g2];exact(C c hc).2⟩
def JcZ:Qat QaR=true:=zt
def Jda{T:List Tok}(hT:Tk T){r:Qah}(h:Qcc f T=some (r,0,o)):Qat r=true:=by
 unfold Qcc at h
 cases hs:QdU f T with
 |out=>rw[hs]at h;cases h
 |bad o=>rw[hs]at h;simp at h
 |ok s r'=>
  rw[hs]at h;simp only at h
  cases hl:QbN s with
  |some o=>rw[hl]at h;simp at h
  |none=>
   rw[hl]at h;simp only at h
   cases hr:QaZ (Qae s).2 with
   |some o=>rw[hr]at h;simp at h
   |none=>
    rw[hr]at h;simp only at h
    cases hc:QaZ (QbH (Qae s).1) with
    |some o=>rw[hc]at h;simp at h
    |none=>
     rw[hc]at h;simp only[Option.some.injEq,Prod.mk.injEq]at h;rw[<-h.1];obtain⟨g1,g2,g3⟩:=Jix hT hs;exact JiC g1 g2 g3 hl (YT hr) (YT hc)
def opE(k:Int)(l:List Exp):Exp:=.mk k 0 [] l
def Qkp(a:Exp):Exp:=opE 7 [a]
def RN.bind_val{α β:Type}(a:α)(u:Nat)(f:α->Nat->RN β):(RN.val a u).bind f=f a u:=rfl
def RN.bind_fault{α β:Type}(e:Int)(u:Nat)(f:α->Nat->RN β):(RN.fault e u:RN α).bind f=.fault e u:=rfl
def Jgr(h:VOk 1 v):v=0\/v=1:=by
 rcases h with⟨h,_⟩|⟨_,h⟩
 ·exact absurd h zp
 ·exact h
def JiD{n:Int}{s:By}{l:List Nd}{t:Int}(hk:k=7\/k=16\/k=17)(h:ofN fs [] (.mk k n s o l)=(t,[])):∀a∈l,ofN fs [] a=(1,[]):=by
 rw[Zd]at h;(iterate 6 rw[if_neg zo]at h);rw[if_pos hk]at h;simp only[Prod.mk.injEq]at h;have h2:=J9 h.2;clear h
 induction l with
 |nil=>intro a ha;cases ha
 |cons x r ih=>
  intro a ha;rw[List.length_cons,List.replicate_succ]at h2
  rcases List.mem_cons.1 ha with rfl|ha
  ·exact h2.1
  ·exact ih h2.2 a ha
def ty1{t:Int}{a:Exp}(h:ofN fs [] (utN (Qkp a))=(t,[])):ofN fs [] (utN a)=(1,[]):=by
 unfold Qkp opE at h;rw[utN,utL,utL]at h;exact JiD (.inl rfl) h _ zq
open Go.ChangeShapes Go.WideShapes Go.ChangeAt Go.RowKit Go.Lib
variable{w w1:World}
def QeF.at0{ad:Option Addr}{l:List Exp}(h:QeF w ad l)(hne:l≠[]):∃b o,ad=some ⟨b,o,none⟩/\b<w.heap.size/\∀i y,l[i]?=some y->∃dy cy,
  XAt w (In w) y (zg y.kind y.num y.name dy y.kids.length cy)/\∀W,Bel w W->W.cell? ⟨b,o+i*4,none⟩=some (Iv y.kind)/\W.cell? ⟨b,o+i*4+1,none⟩=some (Iv y.num)/\W.cell? ⟨b,o+i*4+2,none⟩=some (Sv y.name)/\W.cell? ⟨b,o+i*4+3,none⟩=some (.slice dy y.kids.length cy):=by
 obtain⟨b,o,h1,h2,h3⟩:=h hne;refine⟨b,o,h1,h2,λi y hi=>?_⟩;obtain⟨d,h4,h5⟩:=h3 i y hi;obtain⟨da,dc,rfl,_⟩:=h4.form;refine⟨da,dc,h4,λW hW=>?_⟩;have hc:∀j u,_->W.cell? ⟨b,o+i*4+j,none⟩=some u:=λj u hu=>(hW.cell (p:=⟨b,o+i*4+j,none⟩) h2).trans (h5 j u hu)
 exact⟨hc 0 _ rfl,hc 1 _ rfl,hc 2 _ rfl,hc 3 _ rfl⟩
def Jdb{pa:List Nat}{M0 Qag:Nat}{k:Int}(hk:k≠19):∀{l:List Exp}{i:Nat},QaB pa M0 Qag k i l=true->∀y∈l,QaK pa M0 Qag y=true
 |[],i,h,y,hy=>by cases hy
 |a::l,i,h,y,hy=>by
  rw[QaB,if_neg λh=>hk h.1]at h;simp only[Bool.and_eq_true]at h
  rcases List.mem_cons.1 hy with rfl|hy
  ·exact h.1
  ·exact Jdb hk h.2 y hy
def evK(K:Qbw)(d:Nat)(M0:List Int)(u:Nat)(e:Exp):RN Int:=evN (Qcb K.r.funcs K.F d) K.F M0 u e
structure EvH(K:Qbw)(c:Nat)(e:Exp)(cs:Array Value)(vars types:List Int)(vv:Value)(Qag:Nat)(t:Int)(W:World)(u:Nat):Prop where
 nm:NmN e
 sz:vars.length+siz (utN e)<=900000000
 x:XAt K.w0 (In K.w0) e cs
 fit:QaK (QbP K.r.sigs) types.length Qag e=true
 ty:ofN K.r.sigs types (utN e)=(t,[])
 vs:QdC types vars
 us:u<=10000
 at':Qcw K W u c
 ints:Qbo W K.p vv vars
def Qfl(K:Qbw)(c d n:Nat):Prop:=∀(e:Exp)(cs:Array Value)(M0 U0:List Int)(vv:Value)(Qag:Nat)(t:Int)(W:World)(u:Nat),siz (utN e)<=n->EvH K c e cs M0 U0 vv Qag t W u->
 Calls prog 44 #[Pt K.p,.agg cs,vv] W (EvP K W c (evK K d M0 u e))
def EvH.ok{K:Qbw}(hk:K.Ok){c:Nat}{e:Exp}{cs:Array Value}{M0 U0:List Int}{vv:Value}{Qag:Nat}{t:Int}{W:World}{u:Nat}(h:EvH K c e cs M0 U0 vv Qag t W u)(d:Nat):Qev (VOk t) u (evK K d M0 u e):=
 KA hk.facts (YB hk.tr hk.ty hk.facts d) e U0 M0 Qag u t h.fit h.ty h.vs h.us
def EvP.back{K:Qbw}{W W':World}{c:Nat}{x:RN Int}{e:Ending}{w':World}(hc:Chg [K.p] W W')(h:EvP K W' c x e w'):EvP K W c x e w':=by
 cases x with
 |val v u=>exact⟨h.1,h.2.1,hc.trans h.2.2⟩
 |fault er u=>exact⟨h.1,h.2.1,hc.trans h.2.2⟩
def Jlp{pa:List Nat}{M0 Qag:Nat}{n:Int}{s:By}{l:List Exp}(h:QaK pa M0 Qag (.mk k n s l)=true):(0<=k/\k<21)/\(k≠20->l.length=ar0 k):=by
 obtain⟨_,hf,ha,_⟩:=JI h
 have hk:0<=k/\k<21:=by
  unfold Qam at hf;simp only[Bool.and_eq_true,decide_eq_true_eq]at hf;exact⟨hf.1.2,hf.2⟩
 exact⟨hk,λT3=>by rw[ha,JnY hk T3]⟩
variable{y:Exp}
def EvH.kid{K:Qbw}{c:Nat}{nn:Int}{s:By}{l:List Exp}{cs:Array Value}{M0 U0:List Int}{vv:Value}{Qag:Nat}{t:Int}{W:World}{u:Nat}(h:EvH K c (.mk k nn s l) cs M0 U0 vv Qag t W u)(M3:k≠19)(hi:l[i]?=some y)
  {d:Array Value} (hx:XAt K.w0 (In K.w0) y d) {W':World} {u':Nat} (hm:Qcw K W' u' c) (hc:Chg [K.p] W W') (hu:u'<=10000):EvH K c y d M0 U0 vv (Qag-1) (ofN K.r.sigs U0 (utN y)).1 W' u':=by
 have hmem:=List.mem_of_getElem? hi;have T4:=h.nm;unfold NmN at T4;have hsz:=h.sz;rw[utN,JD]at hsz;have hs:=K6 hmem;obtain⟨_,_,_,hl⟩:=JI h.fit;obtain⟨hk,xA⟩:=Jlp h.fit;have yA:=h.ty;rw[utN]at yA;have zA:=Jem (fs:=K.r.sigs) (M0:=U0) (by rw[yA]) M3 hk (λT3=>by rw[Jz];exact xA T3) (utN y) (by rw[JhM];exact List.mem_map.2 ⟨y,hmem,rfl⟩);exact⟨JhR T4.2 y hmem,by omega,hx,Jdb M3 hl y hmem,Prod.ext rfl zA,h.vs,hu,hm,h.ints.chg hc⟩
section
variable {K:Qbw}{c:Nat}{nn:Int}{s:By}{a b:Exp}{cs:Array Value}{M0 U0:List Int}{vv:Value}{Qag:Nat}{t:Int}{W:World}{u:Nat}(h:EvH K c (.mk 19 nn s [a,b]) cs M0 U0 vv Qag t W u)
include K c nn s a b cs M0 U0 vv Qag t W u h
theorem EvH.let1
  {d:Array Value} (hx:XAt K.w0 (In K.w0) a d) {W':World} {u':Nat} (hm:Qcw K W' u' c) (hc:Chg [K.p] W W') (hu:u'<=10000):EvH K c a d M0 U0 vv (Qag-1) (ofN K.r.sigs U0 (utN a)).1 W' u':=by
 have T4:=h.nm;unfold NmN NmL at T4;have hsz:=h.sz;rw[utN,JD,utL,Ju]at hsz;obtain⟨_,_,_,hl⟩:=JI h.fit;have yA:=Kb hl;have xA:=h.ty;rw[utN,utL,utL,utL,Zd]at xA;simp at xA;exact⟨T4.2.1,by omega,hx,yA.1,Prod.ext rfl xA.2.1,h.vs,hu,hm,h.ints.chg hc⟩
theorem EvH.let2
  {d:Array Value} (hx:XAt K.w0 (In K.w0) b d) {W':World} {u':Nat} {v:Int} {vv':Value} (hm:Qcw K W' u' c) (hv:VOk (ofN K.r.sigs U0 (utN a)).1 v) (hi:Qbo W' K.p vv' (M0++[v])) (hu:u'<=10000):
  EvH K c b d (M0++[v]) (U0++[(ofN K.r.sigs U0 (utN a)).1]) vv' (Qag-1) t W' u':=by
 have T4:=h.nm;unfold NmN NmL NmL at T4;have hsz:=h.sz;rw[utN,JD,utL,utL,Ju,Ju]at hsz;obtain⟨_,_,_,hl⟩:=JI h.fit;have yA:=Kb hl;have xA:=h.ty;rw[utN,utL,utL,utL,Zd]at xA;simp at xA;have hp:=Vh (utN a);refine⟨T4.2.2.1,by rw[List.length_append,List.length_singleton];omega,hx,?_,?_,QdC.snoc h.vs hv,hu,hm,hi⟩
 ·rw[List.length_append,List.length_singleton];simpa using yA.2
 ·exact Prod.ext xA.1 xA.2.2
end
def Qbo.form'{W:World}{rb:Nat}{v:Value}{l:List Int}(h:Qbo W rb v l):∃a c,v=.slice a l.length c:=by
 rcases h with⟨e1,_,_,e2⟩|⟨g,o,cc,e,_⟩
 ·exact⟨_,_,by rw[e1,e2];rfl⟩
 ·exact⟨_,_,e⟩
section
variable (K:Qbw)(d:Nat)(M0:List Int)(u:Nat)
include K d M0 u
theorem JmL(nn:Int)(s:By)(a b:Exp):evK K d M0 u (.mk 16 nn s [a,b])=(evK K d M0 u a).bind λv u'=>if v=0 then .val 0 u' else evK K d M0 u' b:=by
 unfold evK;rw[J5];simp
theorem JnZ(nn:Int)(s:By)(a b:Exp):evK K d M0 u (.mk 17 nn s [a,b])=(evK K d M0 u a).bind λv u'=>if v=0 then evK K d M0 u' b else .val 1 u':=by
 unfold evK;rw[J5];simp
theorem Joa(nn:Int)(s:By)(z a b:Exp):evK K d M0 u (.mk 18 nn s [z,a,b])=(evK K d M0 u z).bind λv u'=>if v=0 then evK K d M0 u' b else evK K d M0 u' a:=by
 unfold evK;rw[J5];simp
theorem JmM(nn:Int)(s:By)(a b:Exp):evK K d M0 u (.mk 19 nn s [a,b])=(evK K d M0 u a).bind λv u'=>evK K d (M0++[v]) u' b:=by
 unfold evK;rw[J5];simp
def Qeq(l:List Exp):RN (List Int):=evL (Qcb K.r.funcs K.F d) K.F M0 u l
theorem Jdc(a:Exp)(l:List Exp):Qeq K d M0 u (a::l)=(evK K d M0 u a).bind λv u'=>(Qeq K d M0 u' l).bind λvs u''=>.val (v::vs) u'':=by
 unfold Qeq evK;rw[evL]
theorem JkJ:Qeq K d M0 u []=.val [] u:=by
 unfold Qeq;rw[evL]
theorem JkK(nn:Int)(s:By)(l:List Exp):evK K d M0 u (.mk 20 nn s l)=(Qeq K d M0 u l).bind λvs u'=>Qcb K.r.funcs K.F d nn vs u':=by
 unfold evK Qeq;rw[J5];simp
theorem JkL(k nn:Int)(s:By)(l:List Exp)(hk:6<=k/\k<=15):evK K d M0 u (.mk k nn s l)=(Qeq K d M0 u l).bind λvs u'=>Qax k (vs.getD 0 0) (vs.getD 1 0) u':=by
 unfold evK Qeq;rw[J5];(iterate 9 rw[if_neg zo])
 congr 1
 funext vs u'
 rw[if_neg zo]
end
def Qfp{P:Prop}(h:P:=by
  intro W' hW;have hh:=hW.heap_some (by simp;exact N3.o) A0.o
  refine⟨?_,?_,?_,?_⟩<;>(rw[Ja hh];rfl)):P:=h
def Qjs{P:Prop}(h:P:=by
  have O2:Hi (∀W',Chg [K.p] w1 W'->Bel K.w0 W'):=λW' hW=>Qfb N5.o.bel hk.num hW
  obtain⟨b0,b1,b2,b3⟩:=FF.o _ (Chg.refl _ _);go_wp2;go_ret;rw[<-HX.o]
  exact⟨rfl,N5.o,Q3.o⟩):P:=h
section
variable (K:Qbw)(hk:K.Ok)(c d n:Nat)(IH:Qfl K c d n)(nn:Int)(s:By)(l:List Exp)(cs:Array Value)(M0 U0:List Int)(vv:Value)(Qag:Nat)(t:Int)(W:World)(u:Nat)(hn:Qbd (utL l)<=n)
include K hk c d n IH nn s l cs M0 U0 vv Qag t W u hn
theorem JmN(h:EvH K c (.mk 0 nn s l) cs M0 U0 vv Qag t W u):
  Calls prog 44 #[Pt K.p,.agg cs,vv] W (EvP K W c (evK K d M0 u (.mk 0 nn s l))):=by
 obtain⟨ad,cc,rfl,xA,hK⟩:=h.x.kids;obtain⟨va,vc,rfl⟩:=h.ints.form';obtain⟨X,hX⟩:=yt (evK K d M0 u (.mk 0 nn s l))
 rw[hX];have hE:evK K d M0 u (.mk 0 nn s l)=.val nn u:=by unfold evK;rw[J5];simp
 rw[hE]at hX;have HX:=Zh hX;have L1:yr W (W.alloc (.cells (zg 0 nn s ad l.length cc) 37)):=zO.alloc zP _;have N5:=Zh (h.at'.up L1);have Q3:Hi (Chg [K.p] W (W.alloc (.cells (zg 0 nn s ad l.length cc) 37))):=Chg.of_below L1 [K.p];have A0:=Zh (zQ W (.cells (zg 0 nn s ad l.length cc) 37));have N3:Hi (W.heap.size≠K.p):=by have:=h.at'.lt;unfold Hi;omega
 have HH:=Zh h;have yA:=Zh hK;have zA:=Zh IH;have HN:=Zh hn;clear L1 h hK hX IH hn;go_enter func44,ntmps44;go_upto_region 1 with fail;generalize World.alloc W _=w1 at*;generalize W.heap.size=eb at*
 have FF:Hi (∀W',Chg [K.p] w1 W'->yX W' eb (Iv 0) (Iv nn) (Sv s) (.slice ad l.length cc)):=by
  exact Qfp
 exact Qjs
theorem JkM(h:EvH K c (.mk 1 nn s l) cs M0 U0 vv Qag t W u):
  Calls prog 44 #[Pt K.p,.agg cs,vv] W (EvP K W c (evK K d M0 u (.mk 1 nn s l))):=by
 obtain⟨ad,cc,rfl,xA,hK⟩:=h.x.kids;obtain⟨va,vc,rfl⟩:=h.ints.form';obtain⟨X,hX⟩:=yt (evK K d M0 u (.mk 1 nn s l))
 rw[hX];have hE:evK K d M0 u (.mk 1 nn s l)=.val nn u:=by unfold evK;rw[J5];simp
 rw[hE]at hX;have HX:=Zh hX;have L1:yr W (W.alloc (.cells (zg 1 nn s ad l.length cc) 37)):=zO.alloc zP _;have N5:=Zh (h.at'.up L1);have Q3:Hi (Chg [K.p] W (W.alloc (.cells (zg 1 nn s ad l.length cc) 37))):=Chg.of_below L1 [K.p];have A0:=Zh (zQ W (.cells (zg 1 nn s ad l.length cc) 37));have N3:Hi (W.heap.size≠K.p):=by have:=h.at'.lt;unfold Hi;omega
 have HH:=Zh h;have yA:=Zh hK;have zA:=Zh IH;have HN:=Zh hn;clear L1 h hK hX IH hn;go_enter func44,ntmps44;go_upto_region 1 with fail;generalize World.alloc W _=w1 at*;generalize W.heap.size=eb at*
 have FF:Hi (∀W',Chg [K.p] w1 W'->yX W' eb (Iv 1) (Iv nn) (Sv s) (.slice ad l.length cc)):=by
  exact Qfp
 exact Qjs
theorem JmO(h:EvH K c (.mk 2 nn s l) cs M0 U0 vv Qag t W u):
  Calls prog 44 #[Pt K.p,.agg cs,vv] W (EvP K W c (evK K d M0 u (.mk 2 nn s l))):=by
 obtain⟨ad,cc,rfl,zA,hK⟩:=h.x.kids;obtain⟨va,vc,rfl⟩:=h.ints.form';obtain⟨X,hX⟩:=yt (evK K d M0 u (.mk 2 nn s l))
 rw[hX];have hE:evK K d M0 u (.mk 2 nn s l)=.val (M0.getD nn.toNat 0) u:=by unfold evK;rw[J5];simp
 rw[hE]at hX;have HX:=Zh hX;have L1:yr W (W.alloc (.cells (zg 2 nn s ad l.length cc) 37)):=zO.alloc zP _;have N5:=Zh (h.at'.up L1);have Q3:Hi (Chg [K.p] W (W.alloc (.cells (zg 2 nn s ad l.length cc) 37))):=Chg.of_below L1 [K.p];have A0:=Zh (zQ W (.cells (zg 2 nn s ad l.length cc) 37));have N3:Hi (W.heap.size≠K.p):=by have:=h.at'.lt;unfold Hi;omega
 have HH:=Zh h;have uA:=Zh hK;have vA:=Zh IH;have HN:=Zh hn;clear L1 h hK hX IH hn;go_enter func44,ntmps44;go_upto_region 1 with fail;generalize World.alloc W _=w1 at*;generalize W.heap.size=eb at*
 have FF:Hi (∀W',Chg [K.p] w1 W'->yX W' eb (Iv 2) (Iv nn) (Sv s) (.slice ad l.length cc)):=by
  exact Qfp
 have O2:Hi (∀W',Chg [K.p] w1 W'->Bel K.w0 W'):=λW' hW=>Qfb N5.o.bel hk.num hW
 obtain⟨b0,b1,b2,b3⟩:=FF.o _ (Chg.refl _ _)
 have hnn:0<=nn/\nn<(M0.length:Int):=by
  obtain⟨_,hf,_,_⟩:=JI HH.o.fit;unfold Qam at hf;simp at hf;have:=HH.o.vs.1;exact⟨hf.1.1,by omega⟩
 obtain⟨i,rfl⟩:∃i:Nat,nn=i:=⟨nn.toNat,by omega⟩
 have hil:(i:Int)<(M0.length:Int):=hnn.2;have hi:i<M0.length:=zo;obtain⟨v,hv⟩:∃v,M0[i]?=some v:=⟨M0[i],List.getElem?_eq_getElem hi⟩
 have xA:=HX.o;rw[Int.toNat_natCast,List.getD_eq_getElem?_getD,hv,Option.getD_some]at xA;have L3:=Zh xA
 obtain⟨g,og,yA,aA⟩:∃g og,va=some ⟨g,og,none⟩/\w1.cell? ⟨g,og+i,none⟩=some (Iv v):=by
  rcases HH.o.ints.chg Q3.o with⟨e1,e2⟩|⟨g,og,cc',e,_,_,_,hc⟩
  ·rw[e1]at hi;simp at hi
  ·injection e with e1 e2 e3;exact⟨g,og,e1,hc i v hv⟩
 clear xA hv hnn;subst yA;go_wp2;go_ret;rw[<-L3.o];exact⟨rfl,N5.o,Q3.o⟩
end
def Qjy{P:Prop}(h:P:=by
  go_wp2_with fail;refine cf.mono ?_;rintro e w2 ⟨rfl,I0⟩;have A7:=Zh (Q3.o.trans (Chg.of_below I0 [K.p]));have oC:=Zh (N5.o.up I0);clear I0;clear cf b0 b1 b2 b3;go_wp2;go_ret;rw[<-HX.o]
  exact⟨rfl,oC.o,A7.o⟩):P:=h
section
variable (K:Qbw)(hk:K.Ok)(c d n:Nat)(IH:Qfl K c d n)(nn:Int)(s:By)(l:List Exp)(cs:Array Value)(M0 U0:List Int)(vv:Value)(Qag:Nat)(t:Int)(W:World)(u:Nat)(hn:Qbd (utL l)<=n)
include K hk c d n IH nn s l cs M0 U0 vv Qag t W u hn
theorem JkN(h:EvH K c (.mk 3 nn s l) cs M0 U0 vv Qag t W u):
  Calls prog 44 #[Pt K.p,.agg cs,vv] W (EvP K W c (evK K d M0 u (.mk 3 nn s l))):=by
 obtain⟨ad,cc,rfl,xA,hK⟩:=h.x.kids;obtain⟨va,vc,rfl⟩:=h.ints.form';obtain⟨X,hX⟩:=yt (evK K d M0 u (.mk 3 nn s l))
 rw[hX];have hE:evK K d M0 u (.mk 3 nn s l)=.val (QcM K.F s) u:=by unfold evK;rw[J5];simp
 rw[hE]at hX;have HX:=Zh hX;have L1:yr W (W.alloc (.cells (zg 3 nn s ad l.length cc) 37)):=zO.alloc zP _;have N5:=Zh (h.at'.up L1);have Q3:Hi (Chg [K.p] W (W.alloc (.cells (zg 3 nn s ad l.length cc) 37))):=Chg.of_below L1 [K.p];have A0:=Zh (zQ W (.cells (zg 3 nn s ad l.length cc) 37));have N3:Hi (W.heap.size≠K.p):=by have:=h.at'.lt;unfold Hi;omega
 have HH:=Zh h;have yA:=Zh hK;have zA:=Zh IH;have HN:=Zh hn;clear L1 h hK hX IH hn;go_enter func44,ntmps44;go_upto_region 1 with fail;generalize World.alloc W _=w1 at*;generalize W.heap.size=eb at*
 have FF:Hi (∀W',Chg [K.p] w1 W'->yX W' eb (Iv 3) (Iv nn) (Sv s) (.slice ad l.length cc)):=by
  exact Qfp
 have O2:Hi (∀W',Chg [K.p] w1 W'->Bel K.w0 W'):=λW' hW=>Qfb N5.o.bel hk.num hW
 obtain⟨b0,b1,b2,b3⟩:=FF.o _ (Chg.refl _ _);have cf:=Jim K hk w1 u c N5.o s;exact Qjy
theorem JiE(h:EvH K c (.mk 4 nn s l) cs M0 U0 vv Qag t W u):
  Calls prog 44 #[Pt K.p,.agg cs,vv] W (EvP K W c (evK K d M0 u (.mk 4 nn s l))):=by
 obtain⟨ad,cc,rfl,xA,hK⟩:=h.x.kids;obtain⟨va,vc,rfl⟩:=h.ints.form';obtain⟨X,hX⟩:=yt (evK K d M0 u (.mk 4 nn s l))
 rw[hX];have hE:evK K d M0 u (.mk 4 nn s l)=.val (Qcm K.F.labels s) u:=by unfold evK;rw[J5];simp
 rw[hE]at hX;have HX:=Zh hX;have L1:yr W (W.alloc (.cells (zg 4 nn s ad l.length cc) 37)):=zO.alloc zP _;have N5:=Zh (h.at'.up L1);have Q3:Hi (Chg [K.p] W (W.alloc (.cells (zg 4 nn s ad l.length cc) 37))):=Chg.of_below L1 [K.p];have A0:=Zh (zQ W (.cells (zg 4 nn s ad l.length cc) 37));have N3:Hi (W.heap.size≠K.p):=by have:=h.at'.lt;unfold Hi;omega
 have HH:=Zh h;have yA:=Zh hK;have zA:=Zh IH;have HN:=Zh hn;clear L1 h hK hX IH hn;go_enter func44,ntmps44;go_upto_region 1 with fail;generalize World.alloc W _=w1 at*;generalize W.heap.size=eb at*
 have FF:Hi (∀W',Chg [K.p] w1 W'->yX W' eb (Iv 4) (Iv nn) (Sv s) (.slice ad l.length cc)):=by
  exact Qfp
 have O2:Hi (∀W',Chg [K.p] w1 W'->Bel K.w0 W'):=λW' hW=>Qfb N5.o.bel hk.num hW
 obtain⟨b0,b1,b2,b3⟩:=FF.o _ (Chg.refl _ _);have cf:=Jgl K hk w1 u c N5.o s;exact Qjy
theorem JkO(h:EvH K c (.mk 5 nn s l) cs M0 U0 vv Qag t W u):
  Calls prog 44 #[Pt K.p,.agg cs,vv] W (EvP K W c (evK K d M0 u (.mk 5 nn s l))):=by
 obtain⟨ad,cc,rfl,xA,hK⟩:=h.x.kids;obtain⟨va,vc,rfl⟩:=h.ints.form';obtain⟨X,hX⟩:=yt (evK K d M0 u (.mk 5 nn s l))
 rw[hX];have hE:evK K d M0 u (.mk 5 nn s l)=.val (QcZ K.F.words s) u:=by unfold evK;rw[J5];simp
 rw[hE]at hX;have HX:=Zh hX;have L1:yr W (W.alloc (.cells (zg 5 nn s ad l.length cc) 37)):=zO.alloc zP _;have N5:=Zh (h.at'.up L1);have Q3:Hi (Chg [K.p] W (W.alloc (.cells (zg 5 nn s ad l.length cc) 37))):=Chg.of_below L1 [K.p];have A0:=Zh (zQ W (.cells (zg 5 nn s ad l.length cc) 37));have N3:Hi (W.heap.size≠K.p):=by have:=h.at'.lt;unfold Hi;omega
 have HH:=Zh h;have yA:=Zh hK;have zA:=Zh IH;have HN:=Zh hn;clear L1 h hK hX IH hn;go_enter func44,ntmps44;go_upto_region 1 with fail;generalize World.alloc W _=w1 at*;generalize W.heap.size=eb at*
 have FF:Hi (∀W',Chg [K.p] w1 W'->yX W' eb (Iv 5) (Iv nn) (Sv s) (.slice ad l.length cc)):=by
  exact Qfp
 have O2:Hi (∀W',Chg [K.p] w1 W'->Bel K.w0 W'):=λW' hW=>Qfb N5.o.bel hk.num hW
 obtain⟨b0,b1,b2,b3⟩:=FF.o _ (Chg.refl _ _);have cf:=Jio K hk w1 u c N5.o s;go_wp2_with fail;refine cf.mono ?_;rintro e w2 ⟨rfl,rfl⟩;have A7:=Q3;have oC:=N5;clear cf b0 b1 b2 b3;go_wp2;go_ret;rw[<-HX.o];exact⟨rfl,oC.o,A7.o⟩
end
def Qiv{P:Prop}(h:P:=by
  rintro e w6 ⟨rfl,j7,O1⟩;refine⟨rfl,?_⟩;rw[HX.o,hy,RN.bind_fault]
  exact⟨rfl,j7,Q3.o.trans O1⟩):P:=h
def Qjv{P:Prop}(h:P:=by
  rintro e w9 ⟨rfl,W8,O6⟩;have HZ:=Zh hz;have fC:=Zh W8;have RB:=Zh O6;clear hz W8 O6;go_wp2;go_ret;rw[HX.o,HY.o,RN.bind_val,if_neg HV.o,HZ.o]
  exact⟨rfl,fC.o,Q3.o.trans (Chg.trans G6.o RB.o)⟩):P:=h
def QhO{P:Prop}(h:P:=by
  rintro e w9 ⟨rfl,W8,O6⟩;refine⟨rfl,?_⟩;rw[HX.o,HY.o,RN.bind_val,if_neg HV.o,hz]
  exact⟨rfl,W8,Q3.o.trans (Chg.trans G6.o O6)⟩):P:=h
def JmP(K:Qbw)(hk:K.Ok)(c d n:Nat)(IH:Qfl K c d n)(nn:Int)(s:By)(a b:Exp)(cs:Array Value)(M0 U0:List Int)(vv:Value)(Qag:Nat)(t:Int)(W:World)(u:Nat)(hn:Qbd (utL [a,b])<=n)(h:EvH K c (.mk 16 nn s [a,b]) cs M0 U0 vv Qag t W u):
  Calls prog 44 #[Pt K.p,.agg cs,vv] W (EvP K W c (evK K d M0 u (.mk 16 nn s [a,b]))):=by
 obtain⟨ad,cc,rfl,sA,hK⟩:=h.x.kids;obtain⟨va,vc,rfl⟩:=h.ints.form';obtain⟨X,hX⟩:=yt (evK K d M0 u (.mk 16 nn s [a,b]))
 rw[hX];rw[JmL]at hX;have cA:=hX.symm;clear hX;have hX:=cA;clear cA;have HX:=Zh hX;have L1:yr W (W.alloc (.cells (yp 16 nn s (.slice ad [a,b].length cc)) 37)):=zO.alloc zP _;have N5:=Zh (h.at'.up L1);have Q3:Hi (Chg [K.p] W (W.alloc (.cells (yp 16 nn s (.slice ad [a,b].length cc)) 37))):=Chg.of_below L1 [K.p];have A0:=Zh (zQ W (.cells (yp 16 nn s (.slice ad [a,b].length cc)) 37));have N3:Hi (W.heap.size≠K.p):=by have:=h.at'.lt;unfold Hi;omega
 have HH:=Zh h;have mA:=Zh hK;have uA:=Zh IH;have HN:=Zh hn;clear L1 h hK hX IH hn;go_enter func44,ntmps44;go_upto_region 1 with fail;generalize World.alloc W _=w1 at*;generalize W.heap.size=eb at*
 have FF:Hi (∀W',Chg [K.p] w1 W'->yX W' eb (Iv 16) (Iv nn) (Sv s) (.slice ad [a,b].length cc)):=by
  exact Qfp
 have O2:Hi (∀W',Chg [K.p] w1 W'->Bel K.w0 W'):=λW' hW=>Qfb N5.o.bel hk.num hW
 obtain⟨b0,b1,b2,b3⟩:=FF.o _ (Chg.refl _ _);obtain⟨kb,o,qA,Q7,xA⟩:=mA.o.at0 zq;obtain⟨da,ca,pA,dA⟩:=xA 0 a rfl;have kA:=Zh pA;have hA:=Zh dA;obtain⟨db,cb,nA,gA⟩:=xA 1 b rfl;have jA:=Zh nA;have XD:=Zh gA;clear xA;subst qA;have yA:=HH.o.kid zp (i:=0) (y:=a) rfl kA.o N5.o (Q3.o.trans (Chg.refl _ _)) HH.o.us;have aA:=Zh (yA.ok hk d);have ci:=uA.o a _ M0 U0 _ _ _ w1 u (zv HN.o (K6 (l:=[a,b]) (y:=a) zq)) yA;clear yA;obtain⟨k0,k1,k2,k3⟩:=hA.o _ (O2.o _ ((Chg.refl _ _)));simp only[zero_mul,add_zero,one_mul,Nat.reduceMul]at k0 k1 k2 k3;go_wp2_with fail;refine ci.mono ?_;clear ci k0 k1 k2 k3 b0 b1 b2 b3
 cases hy:evK K d M0 u a with
 |fault er u6=>
  exact Qiv
 |val v u6=>
  rintro e w6 ⟨rfl,j7,O1⟩;have bA:=aA.o;rw[hy]at bA;obtain⟨iA,zA,_⟩:=bA;have HY:=Zh hy;have vA:=Zh j7;have G6:=Zh O1;have eA:=Zh zA;clear hy j7 O1 iA zA aA;obtain⟨b0,b1,b2,b3⟩:=FF.o _ G6.o
  by_cases hv:v=0
  ·subst hv;clear b0 b1 b2 b3;go_wp2;go_ret;rw[HX.o,HY.o,RN.bind_val,if_pos rfl];exact⟨rfl,vA.o,Q3.o.trans G6.o⟩
  ·have HV:=Zh hv;have e0:(v==0)=false:=zM hv;have e1:(v !=0)=true:=by rw[bne,e0];rfl
   clear hv;have d9:=HH.o.kid zp (i:=1) (y:=b) rfl jA.o vA.o (Q3.o.trans G6.o) eA.o;have rA:=Zh (d9.ok hk d);have ci:=uA.o b _ M0 U0 _ _ _ w6 u6 (zv HN.o (K6 (l:=[a,b]) (y:=b) zq)) d9;clear d9;obtain⟨k0,k1,k2,k3⟩:=XD.o _ (O2.o _ (G6.o));simp only[zero_mul,add_zero,one_mul,Nat.reduceMul]at k0 k1 k2 k3;go_wp2_with fail;refine ci.mono ?_;clear ci k0 k1 k2 k3 b0 b1 b2 b3
   cases hz:evK K d M0 u6 b with
   |fault er u9=>
    exact QhO
   |val v9 u9=>
    exact Qjv
def QjY{P:Prop}(h:P:=by
  clear d9;obtain⟨k0,k1,k2,k3⟩:=XD.o _ (O2.o _ (G6.o));simp only[Nat.zero_mul,Nat.add_zero,Nat.one_mul,Nat.reduceMul]at k0 k1 k2 k3;go_wp2_with fail;refine ci.mono ?_;clear ci k0 k1 k2 k3 b0 b1 b2 b3
  cases hz:evK K d M0 u6 b with
  |fault er u9=>
   rintro e w9 ⟨rfl,W8,O6⟩;refine⟨rfl,?_⟩;rw[HX.o,HY.o,RN.bind_val,if_pos rfl,hz];exact⟨rfl,W8,Q3.o.trans (Chg.trans G6.o O6)⟩
  |val v9 u9=>
   rintro e w9 ⟨rfl,W8,O6⟩;have HZ:=Zh hz;have fC:=Zh W8;have RB:=Zh O6;clear hz W8 O6;go_wp2;go_ret;rw[HX.o,HY.o,RN.bind_val,if_pos rfl,HZ.o]
   exact⟨rfl,fC.o,Q3.o.trans (Chg.trans G6.o RB.o)⟩):P:=h
section
variable (K:Qbw)(hk:K.Ok)(c d n:Nat)(IH:Qfl K c d n)(nn:Int)(s:By)
include K hk c d n IH nn s
theorem Job(a b:Exp)(cs:Array Value)(M0 U0:List Int)(vv:Value)(Qag:Nat)(t:Int)(W:World)(u:Nat)(hn:Qbd (utL [a,b])<=n)(h:EvH K c (.mk 17 nn s [a,b]) cs M0 U0 vv Qag t W u):
  Calls prog 44 #[Pt K.p,.agg cs,vv] W (EvP K W c (evK K d M0 u (.mk 17 nn s [a,b]))):=by
 obtain⟨ad,cc,rfl,sA,hK⟩:=h.x.kids;obtain⟨va,vc,rfl⟩:=h.ints.form';obtain⟨X,hX⟩:=yt (evK K d M0 u (.mk 17 nn s [a,b]))
 rw[hX];rw[JnZ]at hX;have cA:=hX.symm;clear hX;have hX:=cA;clear cA;have HX:=Zh hX;have L1:yr W (W.alloc (.cells (yp 17 nn s (.slice ad [a,b].length cc)) 37)):=zO.alloc zP _;have N5:=Zh (h.at'.up L1);have Q3:Hi (Chg [K.p] W (W.alloc (.cells (yp 17 nn s (.slice ad [a,b].length cc)) 37))):=Chg.of_below L1 [K.p];have A0:=Zh (zQ W (.cells (yp 17 nn s (.slice ad [a,b].length cc)) 37));have N3:Hi (W.heap.size≠K.p):=by have:=h.at'.lt;unfold Hi;omega
 have HH:=Zh h;have mA:=Zh hK;have uA:=Zh IH;have HN:=Zh hn;clear L1 h hK hX IH hn;go_enter func44,ntmps44;go_upto_region 1 with fail;generalize World.alloc W _=w1 at*;generalize W.heap.size=eb at*
 have FF:Hi (∀W',Chg [K.p] w1 W'->yX W' eb (Iv 17) (Iv nn) (Sv s) (.slice ad [a,b].length cc)):=by
  exact Qfp
 have O2:Hi (∀W',Chg [K.p] w1 W'->Bel K.w0 W'):=λW' hW=>Qfb N5.o.bel hk.num hW
 obtain⟨b0,b1,b2,b3⟩:=FF.o _ (Chg.refl _ _);obtain⟨kb,o,qA,Q7,xA⟩:=mA.o.at0 zq;obtain⟨da,ca,pA,dA⟩:=xA 0 a rfl;have kA:=Zh pA;have hA:=Zh dA;obtain⟨db,cb,nA,gA⟩:=xA 1 b rfl;have jA:=Zh nA;have XD:=Zh gA;clear xA;subst qA;have yA:=HH.o.kid zp (i:=0) (y:=a) rfl kA.o N5.o (Q3.o.trans (Chg.refl _ _)) HH.o.us;have aA:=Zh (yA.ok hk d);have ci:=uA.o a _ M0 U0 _ _ _ w1 u (zv HN.o (K6 (l:=[a,b]) (y:=a) zq)) yA;clear yA;obtain⟨k0,k1,k2,k3⟩:=hA.o _ (O2.o _ ((Chg.refl _ _)));simp only[zero_mul,add_zero,one_mul,Nat.reduceMul]at k0 k1 k2 k3;go_wp2_with fail;refine ci.mono ?_;clear ci k0 k1 k2 k3 b0 b1 b2 b3
 cases hy:evK K d M0 u a with
 |fault er u6=>
  exact Qiv
 |val v u6=>
  rintro e w6 ⟨rfl,j7,O1⟩;have bA:=aA.o;rw[hy]at bA;obtain⟨iA,zA,_⟩:=bA;have HY:=Zh hy;have vA:=Zh j7;have G6:=Zh O1;have eA:=Zh zA;clear hy j7 O1 iA zA aA;obtain⟨b0,b1,b2,b3⟩:=FF.o _ G6.o
  by_cases hv:v=0
  ·subst hv;have d9:=HH.o.kid zp (i:=1) (y:=b) rfl jA.o vA.o (Q3.o.trans G6.o) eA.o;have rA:=Zh (d9.ok hk d);have ci:=uA.o b _ M0 U0 _ _ _ w6 u6 (zv HN.o (K6 (l:=[a,b]) (y:=b) zq)) d9;exact QjY
  ·have HV:=Zh hv;have e0:(v==0)=false:=zM hv;have e1:(v !=0)=true:=by rw[bne,e0];rfl
   clear hv;clear b0 b1 b2 b3;go_wp2;go_ret;rw[HX.o,HY.o,RN.bind_val,if_neg HV.o];exact⟨rfl,vA.o,Q3.o.trans G6.o⟩
theorem Joc(z a b:Exp)(cs:Array Value)(M0 U0:List Int)(vv:Value)(Qag:Nat)(t:Int)(W:World)(u:Nat)(hn:Qbd (utL [z,a,b])<=n)(h:EvH K c (.mk 18 nn s [z,a,b]) cs M0 U0 vv Qag t W u):
  Calls prog 44 #[Pt K.p,.agg cs,vv] W (EvP K W c (evK K d M0 u (.mk 18 nn s [z,a,b]))):=by
 obtain⟨ad,cc,rfl,uB,hK⟩:=h.x.kids;obtain⟨va,vc,rfl⟩:=h.ints.form';obtain⟨X,hX⟩:=yt (evK K d M0 u (.mk 18 nn s [z,a,b]))
 rw[hX];rw[Joa]at hX;have eA:=hX.symm;clear hX;have hX:=eA;clear eA;have HX:=Zh hX;have L1:yr W (W.alloc (.cells (yp 18 nn s (.slice ad [z,a,b].length cc)) 37)):=zO.alloc zP _;have N5:=Zh (h.at'.up L1);have Q3:Hi (Chg [K.p] W (W.alloc (.cells (yp 18 nn s (.slice ad [z,a,b].length cc)) 37))):=Chg.of_below L1 [K.p];have A0:=Zh (zQ W (.cells (yp 18 nn s (.slice ad [z,a,b].length cc)) 37));have N3:Hi (W.heap.size≠K.p):=by have:=h.at'.lt;unfold Hi;omega
 have HH:=Zh h;have rA:=Zh hK;have zA:=Zh IH;have HN:=Zh hn;clear L1 h hK hX IH hn;go_enter func44,ntmps44;go_upto_region 1 with fail;generalize World.alloc W _=w1 at*;generalize W.heap.size=eb at*
 have FF:Hi (∀W',Chg [K.p] w1 W'->yX W' eb (Iv 18) (Iv nn) (Sv s) (.slice ad [z,a,b].length cc)):=by
  exact Qfp
 have O2:Hi (∀W',Chg [K.p] w1 W'->Bel K.w0 W'):=λW' hW=>Qfb N5.o.bel hk.num hW
 obtain⟨b0,b1,b2,b3⟩:=FF.o _ (Chg.refl _ _);obtain⟨kb,o,yB,Q7,xA⟩:=rA.o.at0 zq;obtain⟨dz,cz,nA,sA⟩:=xA 0 z rfl;have mA:=Zh nA;have hA:=Zh sA;obtain⟨da,ca,xB,gA⟩:=xA 1 a rfl;have qA:=Zh xB;have jA:=Zh gA;obtain⟨db,cb,tA,iA⟩:=xA 2 b rfl;have pA:=Zh tA;have XD:=Zh iA;clear xA;subst yB;have yA:=HH.o.kid zp (i:=0) (y:=z) rfl mA.o N5.o (Q3.o.trans (Chg.refl _ _)) HH.o.us;have bA:=Zh (yA.ok hk d);have ci:=zA.o z _ M0 U0 _ _ _ w1 u (zv HN.o (K6 (l:=[z,a,b]) (y:=z) zq)) yA;clear yA;obtain⟨k0,k1,k2,k3⟩:=hA.o _ (O2.o _ ((Chg.refl _ _)));simp only[zero_mul,add_zero,one_mul,Nat.reduceMul]at k0 k1 k2 k3;go_wp2_with fail;refine ci.mono ?_;clear ci k0 k1 k2 k3 b0 b1 b2 b3
 cases hy:evK K d M0 u z with
 |fault er u6=>
  exact Qiv
 |val v u6=>
  rintro e w6 ⟨rfl,j7,O1⟩;have dA:=bA.o;rw[hy]at dA;obtain⟨kA,aA,_⟩:=dA;have HY:=Zh hy;have cA:=Zh j7;have G6:=Zh O1;have vA:=Zh aA;clear hy j7 O1 kA aA bA;obtain⟨b0,b1,b2,b3⟩:=FF.o _ G6.o
  by_cases hv:v=0
  ·subst hv;have d9:=HH.o.kid zp (i:=2) (y:=b) rfl pA.o cA.o (Q3.o.trans G6.o) vA.o;have zB:=Zh (d9.ok hk d);have ci:=zA.o b _ M0 U0 _ _ _ w6 u6 (zv HN.o (K6 (l:=[z,a,b]) (y:=b) zq)) d9;exact QjY
  ·have HV:=Zh hv;have e0:(v==0)=false:=zM hv;have e1:(v !=0)=true:=by rw[bne,e0];rfl
   clear hv;have uA:=HH.o.kid zp (i:=1) (y:=a) rfl qA.o cA.o (Q3.o.trans G6.o) vA.o;have vB:=Zh (uA.ok hk d);have ci:=zA.o a _ M0 U0 _ _ _ w6 u6 (zv HN.o (K6 (l:=[z,a,b]) (y:=a) zq)) uA;clear uA;obtain⟨k0,k1,k2,k3⟩:=jA.o _ (O2.o _ (G6.o));simp only[zero_mul,add_zero,one_mul,Nat.reduceMul]at k0 k1 k2 k3;go_wp2_with fail;refine ci.mono ?_;clear ci k0 k1 k2 k3 b0 b1 b2 b3
   cases hz:evK K d M0 u6 a with
   |fault er u9=>
    exact QhO
   |val v9 u9=>
    exact Qjv
theorem JmQ(a b:Exp)(cs:Array Value)(M0 U0:List Int)(vv:Value)(Qag:Nat)(t:Int)(W:World)(u:Nat)(hn:Qbd (utL [a,b])<=n)(h:EvH K c (.mk 19 nn s [a,b]) cs M0 U0 vv Qag t W u):
  Calls prog 44 #[Pt K.p,.agg cs,vv] W (EvP K W c (evK K d M0 u (.mk 19 nn s [a,b]))):=by
 obtain⟨ad,cc,rfl,nB,hK⟩:=h.x.kids;obtain⟨va,vc,rfl⟩:=h.ints.form';obtain⟨X,hX⟩:=yt (evK K d M0 u (.mk 19 nn s [a,b]))
 rw[hX];rw[JmM]at hX;have rA:=hX.symm;clear hX;have hX:=rA;clear rA;have HX:=Zh hX;have L1:yr W (W.alloc (.cells (yp 19 nn s (.slice ad [a,b].length cc)) 37)):=zO.alloc zP _;have N5:=Zh (h.at'.up L1);have Q3:Hi (Chg [K.p] W (W.alloc (.cells (yp 19 nn s (.slice ad [a,b].length cc)) 37))):=Chg.of_below L1 [K.p];have A0:=Zh (zQ W (.cells (yp 19 nn s (.slice ad [a,b].length cc)) 37));have N3:Hi (W.heap.size≠K.p):=by have:=h.at'.lt;unfold Hi;omega
 have HH:=Zh h;have hB:=Zh hK;have jA:=Zh IH;have HN:=Zh hn;clear L1 h hK hX IH hn;go_enter func44,ntmps44;go_upto_region 1 with fail;generalize World.alloc W _=w1 at*;generalize W.heap.size=eb at*
 have FF:Hi (∀W',Chg [K.p] w1 W'->yX W' eb (Iv 19) (Iv nn) (Sv s) (.slice ad [a,b].length cc)):=by
  exact Qfp
 have O2:Hi (∀W',Chg [K.p] w1 W'->Bel K.w0 W'):=λW' hW=>Qfb N5.o.bel hk.num hW
 obtain⟨b0,b1,b2,b3⟩:=FF.o _ (Chg.refl _ _);obtain⟨kb,o,bB,Q7,cA⟩:=hB.o.at0 zq;obtain⟨da,ca,mB,tA⟩:=cA 0 a rfl;have uB:=Zh mB;have yB:=Zh tA;obtain⟨db,cb,vB,dB⟩:=cA 1 b rfl;have gB:=Zh vB;have XD:=Zh dB;clear cA;subst bB;have dA:=HH.o.let1 uB.o N5.o (Q3.o.trans (Chg.refl _ _)) HH.o.us;have pA:=Zh (dA.ok hk d);have ci:=jA.o a _ M0 U0 _ _ _ w1 u (zv HN.o (K6 (l:=[a,b]) (y:=a) zq)) dA;clear dA;obtain⟨k0,k1,k2,k3⟩:=yB.o _ (O2.o _ ((Chg.refl _ _)));simp only[zero_mul,add_zero,one_mul,Nat.reduceMul]at k0 k1 k2 k3;go_wp2_with fail;refine ci.mono ?_;clear ci k0 k1 k2 k3 b0 b1 b2 b3
 cases hy:evK K d M0 u a with
 |fault er u6=>
  exact Qiv
 |val v u6=>
  rintro e w6 ⟨rfl,j7,O1⟩;have qA:=pA.o;rw[hy]at qA;obtain⟨eB,hA,mA⟩:=qA;have HY:=Zh hy;have kA:=Zh j7;have G6:=Zh O1;have xB:=Zh hA;have aB:=Zh mA;clear hy j7 O1 eB hA mA pA
  obtain⟨sv,pB,bA⟩:∃sv,(∀W:World,(Instr.slice 29 (.slice va M0.length vc) none (some (Iv M0.length)) (some (Iv M0.length))).run prog W=.ok sv W)/\((M0=[]/\∃ad,sv=.slice ad 0 0)\/∃g o,sv=.slice (some ⟨g,o,none⟩) M0.length M0.length/\∀W',Chg [K.p] w1 W'->∀i n,M0[i]?=some n->W'.cell? ⟨g,o+i,none⟩=some (Iv n)):=by
   have jB:=HH.o.ints.chg Q3.o
   rcases jB with⟨e1,ad0,cc0,e2⟩|⟨g,o,vc',e,h2,h3,_,h5⟩
   ·subst e1;injection e2 with e4 e5 e6;obtain⟨zB,hz⟩:=Z4 va vc w1;exact⟨_,hz,.inl ⟨rfl,zB,rfl⟩⟩
   ·injection e with e4 e5 e6;subst e4 e6;exact⟨_,Z3 g o M0.length _ h2,.inr ⟨g,o,rfl,λW' hb i n hi=>hb.cell_some (p:=⟨g,o+i,none⟩) (by simpa using h3) (h5 i n hi)⟩⟩
  have l8:=Zh bA;have kB:∃a m c',sv=.slice a m c':=by rcases bA with⟨_,_,rfl⟩|⟨_,_,rfl,_⟩<;>exact⟨_,_,_,rfl⟩
  obtain⟨sa,sm,sc,rfl⟩:=kB;have hvl:M0.length<=1000000000:=by have:=HH.o.sz;omega
  have iB:=Zh hvl;clear bA hvl
  have F6:Hi (∀W',Chg [K.p] w1 W'->W'.cell? ⟨eb,3,none⟩=some (.slice (some ⟨kb,o,none⟩) [a,b].length cc)/\W'.cell? ⟨kb,o+4,none⟩=some (Iv b.kind)/\W'.cell? ⟨kb,o+4+1,none⟩=some (Iv b.num)/\W'.cell? ⟨kb,o+4+2,none⟩=some (Sv b.name)/\W'.cell? ⟨kb,o+4+3,none⟩=some (.slice db b.kids.length cb)):=by
   intro W' hW;obtain⟨b0,b1,b2,b3⟩:=FF.o _ hW;obtain⟨k0,k1,k2,k3⟩:=XD.o _ (O2.o _ hW);simp only[one_mul]at k0 k1 k2 k3;exact⟨b3,k0,k1,k2,k3⟩
  go_upto_region 27 with fail;have nA:Chg [K.p] w1 w6.drew:=G6.o.trans (Chg.of_below (Below.refl w6.heap.size w6).drew [K.p]);have iA:=Zh kA.o.drew;have aA:=Zh nA;clear nA kA G6;refine wp_region_held_drew (S:=(λW'=>Chg [K.p] w1 W'/\W'.cell? ⟨eb,3,none⟩=some (.slice (some ⟨kb,o,none⟩) [a,b].length cc)/\W'.cell? ⟨kb,o+4,none⟩=some (Iv b.kind)/\W'.cell? ⟨kb,o+4+1,none⟩=some (Iv b.num)/\W'.cell? ⟨kb,o+4+2,none⟩=some (Sv b.name)/\W'.cell? ⟨kb,o+4+3,none⟩=some (.slice db b.kids.length cb))) zk (⟨aA.o,F6.o _ aA.o⟩) λhH=>?_;generalize w6.drew=w7 at*;refine zK 0 ?_
  refine zK 1 ?_;refine zK 2 ?_;refine zK 3 ?_;refine zK 4 ?_;refine zK 5 ?_;refine zK 6 ?_;refine zK 7 ?_;refine zK 8 ?_;refine zK 9 ?_;refine zK 10 ?_;refine zK 11 ?_;try simp only[zX]
  refine ZR (rs:=[12]) (AllReadyH.cons rfl (λK9 hK=>?_) AllReadyH.nil);have L5:yr w7 (w7.alloc (.cells #[Iv v] 3)):=zO.alloc zP _;have sA:Chg [K.p] w1 (w7.alloc (.cells #[Iv v] 3)):=aA.o.trans (Chg.of_below L5 [K.p]);have uA:=Zh sA;have eA:=Zh (iA.o.up L5);have R3:=Zh (zQ w7 (.cells #[Iv v] 3));clear L5 sA;go_simp;refine zU hK (⟨uA.o,F6.o _ uA.o⟩) λhH=>?_;clear hK K9
  try simp only[zX]
  refine ZR (rs:=[13]) (AllReadyH.cons rfl (λK9 hK=>?_) AllReadyH.nil);have vA:(M0=[]/\∃ad,(Value.slice sa sm sc)=.slice ad 0 0)\/∃g o,(Value.slice sa sm sc)=.slice (some ⟨g,o,none⟩) M0.length M0.length/\∀i n,M0[i]?=some n->(w7.alloc (.cells #[Iv v] 3)).cell? ⟨g,o+i,none⟩=some (Value.int .i64 n):=l8.o.imp id λ⟨g,o,h1,h2⟩=>⟨g,o,h1,h2 _ uA.o⟩
  (refine JQ (w7.alloc (.cells #[Iv v] 3)) zt (.tmp 120) (.tmp 122) zt M0 _ vA zt w7.heap.size v zt R3.o iB.o K.p eA.o.lt ?_;intro w9 cc9 EH rG)
  have RB:=Zh (uA.o.trans (Chg.of_below rG [K.p]));have fC:=Zh (eA.o.up rG);have cB:=Zh EH;generalize (w7.alloc (.cells #[Iv v] 3)).heap.size=g9 at*;clear vA EH rG R3 uA eA l8 aA iA;refine zU hK (⟨RB.o,F6.o _ RB.o⟩) λhH=>?_;clear hK K9
  try simp only[zX]
  refine ZR (rs:=[14]) (AllReadyH.cons rfl (λK9 hK=>?_) AllReadyH.nil);have d9:=HH.o.let2 gB.o fC.o aB.o cB.o xB.o;have cn:=jA.o b _ _ _ _ _ _ w9 u6 (zv HN.o (K6 (l:=[a,b]) (y:=b) zq)) d9;clear d9
  (go_simp;go_at_call 44;refine cn.mono ?_;intro e w10 C2)
  clear cn
  cases hz:evK K d (M0++[v]) u6 b with
  |fault er u9=>
   rw[hz]at C2;obtain⟨rfl,yA,xA⟩:=C2;refine⟨rfl,?_⟩;rw[HX.o,HY.o,RN.bind_val,hz];exact⟨rfl,yA,Q3.o.trans (RB.o.trans xA)⟩
  |val v9 u9=>
   rw[hz]at C2;obtain⟨rfl,yA,xA⟩:=C2;have HZ:=Zh hz;have gA:=Zh yA;have zA:=Zh (RB.o.trans xA);clear hz yA xA;refine zU hK (⟨zA.o,F6.o _ zA.o⟩) λhH=>?_;clear hK K9
   try simp only[zX]
   refine zK 15 ?_;try simp only[zX]
   refine wpAnyH_done zk ?_ _;clear hH;go_wp2;go_ret;rw[HX.o,HY.o,RN.bind_val,HZ.o];exact⟨rfl,gA.o,Q3.o.trans zA.o⟩
end
variable{t:Int}
def VOk.wf(h:VOk t v):Qbc v:=by
 unfold Qbc
 rcases h with⟨_,h1,h2⟩|⟨_,h|h⟩<;>omega
def JiF(k:Int)(hk:6<=k/\k<=15)(vs:List Int)(av:Value)(p:Nat)(w:World)(hi:Qbo w p av vs)(hl:vs.length=ar0 k)(hw:∀v∈vs,Qbc v)(h7:k=7->vs.getD 0 0=0\/vs.getD 0 0=1)(u:Nat):
  Calls prog 107 #[Iv k,av] w (Qed w (Qax k (vs.getD 0 0) (vs.getD 1 0) u)):=by
 have yA:1<=vs.length:=by
  rw[hl];unfold ar0;rw[if_neg zo];split
  ·omega
  ·split<;>omega
 rcases hi with⟨e1,_⟩|⟨g,o,cc,SB,_,_,_,hc⟩
 ·rw[e1]at yA;simp at yA
 have ha:vs[0]?=some (vs.getD 0 0):=by
  rw[List.getD_eq_getElem?_getD,getElem?_eq_getElem zo];rfl
 have c0:=hc 0 _ ha;rw[Nat.add_zero]at c0;have xA:=hw _ (mem_of_getElem? ha)
 by_cases h6:k=6
 ·subst h6;exact JmA av g o _ cc _ _ w SB yA c0 xA u
 by_cases h7':k=7
 ·subst h7';exact JmB av g o _ cc _ _ w SB yA c0 (h7 rfl) u
 have h2:2<=vs.length:=by rw[hl];unfold ar0;rw[if_neg zo,if_neg zo,if_neg zo];omega
 have hb:vs[1]?=some (vs.getD 1 0):=by
  rw[List.getD_eq_getElem?_getD,getElem?_eq_getElem zo];rfl
 have c1:=hc 1 _ hb;have zA:=hw _ (mem_of_getElem? hb);have uA:k=8\/k=9\/k=10\/k=11\/k=12\/k=13\/k=14\/k=15:=zo
 rcases uA with rfl|rfl|rfl|rfl|rfl|rfl|rfl|rfl
 ·exact Jmy av g o _ cc _ _ w SB h2 c0 c1 xA zA u
 ·exact Jmz av g o _ cc _ _ w SB h2 c0 c1 xA zA u
 ·exact Jkz av g o _ cc _ _ w SB h2 c0 c1 xA zA u
 ·exact JkA av g o _ cc _ _ w SB h2 c0 c1 xA zA u
 ·exact JkB av g o _ cc _ _ w SB h2 c0 c1 xA zA u
 ·exact JkC av g o _ cc _ _ w SB h2 c0 c1 xA zA u
 ·exact JkD av g o _ cc _ _ w SB h2 c0 c1 xA zA u
 ·exact JkE av g o _ cc _ _ w SB h2 c0 c1 xA zA u
def Qeu(K:Qbw)(c d:Nat):Prop:=∀(n:Int)(args:List Int)(av:Value)(f:QaN)(W:World)(u:Nat),0<=n->K.r.sigs[n.toNat]?=some f->QdC f.params args->u<=10000->Qcw K W u c->Qbo W K.p av args->
 Calls prog 106 #[Pt K.p,Iv n,av] W (EvP K W c (Qcb K.r.funcs K.F d n args u))
variable{K:Qbw}{W:World}{u c d:Nat}
def Qcw.setO(hk:K.Ok)(h:Qcw K W u c){b:Nat}(hb:b≠K.p)(h0:K.w0.heap.size<=b)(j:Nat)(v:Value):Qcw K (W.setCell ⟨b,j,none⟩ v) u c:=
 ⟨Ji h.self (by simpa using hb.symm) _,Below.setCell h.bel h0 _⟩
structure LpI(K:Qbw)(c d:Nat)(vars types:List Int)(u:Nat)(l:List Exp)(w1:World)(kb:Nat)(i:Nat)(vs:List Int)(ui:Nat)(W:World):Prop where
 mr:Qcw K W ui c
 chg:Chg [K.p] w1 W
 row:∃A:Array Value,W.heap[kb]?=some (.cells A 3 (0,0))/\A.size=l.length/\∀(j:Nat)(v:Int),vs[j]?=some v->A[j]?=some (Value.int .i64 v)
 ev:Qeq K d vars u l=(Qeq K d vars ui (l.drop i)).bind λws u''=>.val (vs++ws) u''
 len:vs.length=i
 ok:∀(j:Nat)(v:Int)(y:Exp),vs[j]?=some v->l[j]?=some y->VOk (ofN K.r.sigs types (utN y)).1 v
 us:ui<=10000
variable{l:List Exp}{M0 U0 vs:List Int}
def LpI.ints(h:LpI K c d M0 U0 u l w1 kb l.length vs ui W)(hb:kb≠K.p):Qbo W K.p (.slice (some ⟨kb,0,none⟩) l.length l.length) vs:=by
 obtain⟨A,h1,h2,h3⟩:=h.row;refine .inr ⟨kb,0,l.length,by rw[h.len],by rw[h.len];exact le_refl _,hb,Jb h1,λj v hj=>?_⟩;rw[Nat.zero_add,Ja h1];exact h3 j v hj
def LpI.step(hk:K.Ok){w5 w6:World}(h:LpI K c d M0 U0 u l w1 kb i vs ui W)(h5:yr W w5)(hy:l[i]?=some y){u6:Nat}
  (he:evK K d M0 ui y=.val v u6) (hv:VOk (ofN K.r.sigs U0 (utN y)).1 v) (hu:u6<=10000) (hm:Qcw K w6 u6 c) (hc:Chg [K.p] w5 w6) (hb:kb≠K.p) (L1:w1.heap.size<=kb) (lC:K.w0.heap.size<=kb):
  LpI K c d M0 U0 u l w1 kb (i+1) (vs++[v]) u6 (w6.setCell ⟨kb,i,none⟩ (Iv v)):=by
 obtain⟨A,g1,g2,g3⟩:=h.row;have hi:i<l.length:=(List.getElem?_eq_some_iff.1 hy).1;have yA:l[i]=y:=(List.getElem?_eq_some_iff.1 hy).2;have h6:w6.heap[kb]?=some (.cells A 3 (0,0)):=hc.heap_some (by simpa using hb) ((h5.block _ (Jb g1)).trans g1);refine⟨hm.setO hk hb lC _ _,((h.chg.trans (Chg.of_below h5 [K.p])).trans hc).setCell (.inr L1) _,⟨A.setIfInBounds i (Iv v),?_,by simpa using g2,λj x hj=>?_⟩,?_,by rw[List.length_append,h.len];rfl,λj x z hj hz=>?_,hu⟩
 ·rw[Jm h6]
 ·by_cases GA:j<vs.length
  ·rw[List.getElem?_append_left GA]at hj;have:=h.len;rw[Array.getElem?_setIfInBounds_ne zo];exact g3 j x hj
  ·have hlt:=(List.getElem?_eq_some_iff.1 hj).1;rw[List.length_append,List.length_singleton]at hlt;have xA:j=i:=by have:=h.len;omega
   subst xA;rw[List.getElem?_append_right zo,h.len,Nat.sub_self]at hj;obtain rfl:v=x:=by simpa using hj
   rw[Array.getElem?_setIfInBounds_self_of_lt (by rw[g2];exact hi)]
 ·rw[h.ev,List.drop_eq_getElem_cons hi,yA,Jdc,he];simp only[RN.bind_val]
  cases Qeq K d M0 u6 (l.drop (i+1)) with
  |fault er u9=>rfl
  |val ws u9=>simp[RN.bind_val]
 ·by_cases GA:j<vs.length
  ·rw[List.getElem?_append_left GA]at hj;exact h.ok j x z hj hz
  ·have hlt:=(List.getElem?_eq_some_iff.1 hj).1;rw[List.length_append,List.length_singleton]at hlt;have xA:j=i:=by have:=h.len;omega
   subst xA;rw[List.getElem?_append_right zo,h.len,Nat.sub_self]at hj;obtain rfl:v=x:=by simpa using hj
   rw[hy]at hz;obtain rfl:=Option.some.inj hz;exact hv
def LpI.fault(h:LpI K c d M0 U0 u l w1 kb i vs ui W)(hy:l[i]?=some y){er:Int}{u6:Nat}(he:evK K d M0 ui y=.fault er u6):Qeq K d M0 u l=.fault er u6:=by
 have hi:i<l.length:=(List.getElem?_eq_some_iff.1 hy).1;have xA:l[i]=y:=(List.getElem?_eq_some_iff.1 hy).2;rw[h.ev,List.drop_eq_getElem_cons hi,xA,Jdc,he];rfl
def LpI.fin(h:LpI K c d M0 U0 u l w1 kb l.length vs ui W):Qeq K d M0 u l=.val vs ui:=by
 rw[h.ev,List.drop_length,JkJ,RN.bind_val,List.append_nil]
def QdZ(n:Nat)(hn:n<=1000000000)(W:World):(Instr.makeSlice 29 (Iv (n:Int)) (Iv (n:Int))).run prog W=.ok (.slice (some ⟨W.heap.size,0,none⟩) n n) (W.alloc (.cells (madeCells #[Iv 0] n) 3)):=
 run_make_row' 29 3 (Iv 0) 8 underlying29 QeQ rfl .i64 .i64 n zo zo W
def Jgs{nn:Int}{s:By}(h:ofN fs U0 (utN (.mk k nn s l))=(t,[]))(h7:k=7):∀y∈l,(ofN fs U0 (utN y)).1=1:=by
 subst h7;rw[utN,Zd]at h;simp at h;have h2:=J9 h.2;clear h
 induction l with
 |nil=>intro y hy;cases hy
 |cons a l ih=>
  intro y hy;rw[utL,List.length_cons,List.replicate_succ]at h2
  rcases List.mem_cons.1 hy with rfl|hy
  ·rw[h2.1]
  ·exact ih h2.2 y hy
def Jgt{nn:Int}{s:By}(h:ofN fs U0 (utN (.mk 20 nn s l))=(t,[])):l.length=(fs.getD nn.toNat ⟨[],0⟩).params.length/\∀(j:Nat)(y:Exp)(p:Int),l[j]?=some y->(fs.getD nn.toNat ⟨[],0⟩).params[j]?=some p->(ofN fs U0 (utN y)).1=p:=by
 obtain⟨f,hf⟩:=yt (fs.getD nn.toNat ⟨[],0⟩)
 rw[utN,Zd,if_neg zp,if_neg zp,if_neg zp,if_neg zp,if_neg zp,if_neg zp,if_neg zp,if_neg zp,if_neg zp,if_pos rfl]at h;simp only[hf,Prod.mk.injEq,List.append_eq_nil_iff]at h;rw[hf];obtain⟨_,h1,h2⟩:=h;rw[Jz]at h1 h2;generalize f.params=ps at*
 have h1':l.length=ps.length:=by
  split at h1
  ·cases h1
  ·rename_i hc;exact Classical.not_not.1 hc
 refine⟨h1',?_⟩;have h2':QcX fs U0 true ps (utL l)=[]:=by rw[<-h2,h1',beq_self_eq_true]
 have h3:=JbE (by rw[Jz];exact h1') h2';clear h1 h1' h2 h2'
 induction l generalizing ps with
 |nil=>intro j y p hj;simp at hj
 |cons a l ih=>
  intro j y p hj hp;rw[utL]at h3
  cases ps with
  |nil=>exact h3.elim
  |cons q ps=>
   cases j with
   |zero=>
    obtain rfl:a=y:=by simpa using hj
    obtain rfl:q=p:=by simpa using hp
    rw[h3.1]
   |succ j=>exact ih ps h3.2 j y p (by simpa using hj) (by simpa using hp)
def RN.used{α:Type}:RN α->Nat
 |.fault _ u=>u
 |.val _ u=>u
def JmR{a b:Int}:(Qax k a b u).used=u:=by
 unfold Qax
 repeat' split
 all_goals rfl
def Jar(K:Qbw)(hk:K.Ok)(c d n:Nat)(IH:Qfl K c d n)(FH:Qeu K c d)(k nn:Int)(s:By)(l:List Exp)(cs:Array Value)(M0 U0:List Int)(vv:Value)(Qag:Nat)(t:Int)(W:World)(u:Nat)(hn:Qbd (utL l)<=n)(h:EvH K c (.mk k nn s l) cs M0 U0 vv Qag t W u)
  (hkk:(6<=k/\k<=15)\/k=20):
  Calls prog 44 #[Pt K.p,.agg cs,vv] W (EvP K W c (evK K d M0 u (.mk k nn s l))):=by
 obtain⟨ad,cc,rfl,xC,hK⟩:=h.x.kids;obtain⟨va,vc,rfl⟩:=h.ints.form';obtain⟨X,hX⟩:=yt (evK K d M0 u (.mk k nn s l))
 rw[hX];have vA:(6<=k/\k<=15)->X=(Qeq K d M0 u l).bind λvs u'=>Qax k (vs.getD 0 0) (vs.getD 1 0) u':=λh=>by rw[<-hX,JkL _ _ _ _ _ _ _ _ h]
 have aA:k=20->X=(Qeq K d M0 u l).bind λvs u'=>Qcb K.r.funcs K.F d nn vs u':=λh=>by rw[<-hX,h,JkK]
 have HX:=Zh hX;have L1:yr W (W.alloc (.cells (zg k nn s ad l.length cc) 37)):=zO.alloc zP _;have N5:=Zh (h.at'.up L1);have Q3:Hi (Chg [K.p] W (W.alloc (.cells (zg k nn s ad l.length cc) 37))):=Chg.of_below L1 [K.p];have A0:=Zh (zQ W (.cells (zg k nn s ad l.length cc) 37));have N3:Hi (W.heap.size≠K.p):=by have:=h.at'.lt;unfold Hi;omega
 have HH:=Zh h;have kB:=Zh hK;have eB:=Zh IH;have HN:=Zh hn;have qA:=Zh vA;have xB:=Zh aA;have eA:=Zh hkk;have pB:=Zh FH;have e0:(k==0)=false:=zM zo;have e1:(k==1)=false:=zM zo;have e2:(k==2)=false:=zM zo;have e3:(k==3)=false:=zM zo;have e4:(k==4)=false:=zM zo;have e5:(k==5)=false:=zM zo;have yC:(k==16)=false:=zM zo;have zC:(k==17)=false:=zM zo;have qB:(k==18)=false:=zM zo;have rB:(k==19)=false:=zM zo;have tB:l.length<=900000000:=by have:=JhN l;have:=h.sz;rw[utN,JD]at this;omega
 have nB:=QdZ l.length zo;clear L1 h hK hX IH hn vA aA hkk FH;go_enter func44,ntmps44;go_upto_region 1 with fail;generalize World.alloc W _=w1 at*;generalize W.heap.size=eb at*
 have FF:Hi (∀W',Chg [K.p] w1 W'->yX W' eb (Iv k) (Iv nn) (Sv s) (.slice ad l.length cc)):=by
  exact Qfp
 have O2:Hi (∀W',Chg [K.p] w1 W'->Bel K.w0 W'):=λW' hW=>Qfb N5.o.bel hk.num hW
 obtain⟨b0,b1,b2,b3⟩:=FF.o _ (Chg.refl _ _);have gB:Hi (w1.heap.size=w1.heap.size):=rfl;go_upto_region 29 with fail
 have xA:Hi (LpI K c d M0 U0 u l w1 w1.heap.size 0 [] u (w1.alloc (.cells (madeCells #[Iv 0] l.length) 3))):=by
  have I0:yr w1 (w1.alloc (.cells (madeCells #[Iv 0] l.length) 3)):=zO.alloc zP _;refine⟨N5.o.up I0,Chg.of_below I0 [K.p],⟨_,zQ w1 _,?_,λj v hj=>by simp at hj⟩,?_,rfl,λj v y hj=>by simp at hj,HH.o.us⟩
  ·rw[size_madeCells]
  ·rw[List.drop_zero]
   cases Qeq K d M0 u l with
   |fault er u9=>rfl
   |val ws u9=>simp[RN.bind_val]
 have aB:Hi (w1.heap.size≠K.p/\w1.heap.size<=w1.heap.size/\K.w0.heap.size<=w1.heap.size):=⟨by have:=N5.o.lt;omega,le_refl _,N5.o.bel.size⟩
 clear b0 b1 b2 b3 nB gB;generalize World.alloc w1 _=w2 at*;obtain⟨kb,tA⟩:=yt w1.heap.size
 have zA:Hi (kb≠K.p/\w1.heap.size<=kb/\K.w0.heap.size<=kb):=by have:=aB.o;unfold Hi;omega
 rw[tA]at xA |-;clear aB tA;obtain⟨b0,b1,b2,b3⟩:=FF.o _ xA.o.chg;go_wp2_with fail;clear b0 b1 b2 b3;go_loopg [132] l.length λg v132 wr=>∃i:Nat,g+i=l.length/\v132=Iv i/\Hi (∃vs ui,LpI K c d M0 U0 u l w1 kb i vs ui wr)
 case atStart=>exact⟨0,rfl,rfl,_,_,xA.o⟩
 case round=>
 clear xA;obtain⟨wl,rfl⟩:=zJ wr;obtain⟨i,hg,rfl,bB⟩:=hrel;obtain⟨vs,ui,yA⟩:=bB.o;clear bB
 by_cases hi:i<l.length
 ·have hil:(i:Int)<(l.length:Int):=zo;obtain⟨y,hy⟩:∃y,l[i]?=some y:=⟨l[i],getElem?_eq_getElem hi⟩
  obtain⟨b,o,iB,Q7,pA⟩:=kB.o.at0 (List.ne_nil_of_mem (mem_of_getElem? hy));obtain⟨dy,cy,hxy,sA⟩:=pA i y hy;obtain⟨k0,k1,k2,k3⟩:=sA _ (O2.o _ yA.chg);have wk:=zI i;have I3:yr wl (wl.alloc (.cells (zg y.kind y.num y.name dy y.kids.length cy) 37)):=zO.alloc zP _;have M3:k≠19:=by have:=eA.o;omega
  have gA:=HH.o.kid M3 (i:=i) (y:=y) hy hxy (yA.mr.up I3) (Q3.o.trans (yA.chg.trans (Chg.of_below I3 [K.p]))) yA.us;have HO:=Zh (gA.ok hk d);have ci:=eB.o y _ M0 U0 _ _ _ (wl.alloc (.cells (zg y.kind y.num y.name dy y.kids.length cy) 37)) ui (zv HN.o (K6 (l:=l) (y:=y) (mem_of_getElem? hy))) gA;have xA:=Zh yA;have T6:=Zh I3;have HY:=Zh hy;have HG:=Zh hg;subst iB;clear gA I3 yA hy hg hxy sA pA Q7 M3;go_wp2_with fail;refine ci.mono ?_;clear ci k0 k1 k2 k3
  cases hz:evK K d M0 ui y with
  |fault er u6=>
   rintro e w6 ⟨rfl,j7,O1⟩;refine⟨rfl,?_⟩;have hf:=xA.o.fault HY.o hz
   have iA:X=.fault er u6:=by
    rcases eA.o with h|h
    ·rw[qA.o h,hf];rfl
    ·rw[xB.o h,hf];rfl
   rw[iA];exact⟨rfl,j7,Q3.o.trans (xA.o.chg.trans ((Chg.of_below T6.o [K.p]).trans O1))⟩
  |val v u6=>
   rintro e w6 ⟨rfl,j7,O1⟩;have yB:=HO.o;rw[hz]at yB;obtain⟨jB,nA,rA⟩:=yB;have D2:=Zh (xA.o.step hk T6.o HY.o hz rA nA j7 O1 zA.o.1 zA.o.2.1 zA.o.2.2);obtain⟨A,g1,g2,g3⟩:=xA.o.row;have h6:w6.heap[kb]?=some (.cells A 3 (0,0)):=O1.heap_some (by simpa using zA.o.1) ((T6.o.block _ (Jb g1)).trans g1);have cB:=Jb h6;have f6:=Jc h6 i;obtain⟨xi,q6⟩:∃xi,w6.cell? ⟨kb,i,none⟩=some xi:=⟨_,(Ja h6 i).trans (Array.getElem?_eq_getElem (by rw[g2];exact hi))⟩
   have A5:=Zh hi;clear g1 g2 g3 h6 jB nA rA hz j7 O1 HO xA T6 hi;go_wp2;go_roundg (l.length-(i+1))
   case measure=>have:=HG.o;have:=A5.o;omega
   case rel=>exact⟨i+1,by have:=A5.o;omega,by go_num,_,_,D2.o⟩
 have hil:¬(i:Int)<(l.length:Int):=zo;obtain rfl:i=l.length:=zo;have xA:=Zh yA;obtain⟨b0,b1,b2,b3⟩:=FF.o _ yA.chg;clear hi hg yA
 by_cases T3:k=20
 ·have hB:(k==20)=true:=zN T3;have aA:=xB.o T3;rw[xA.o.fin,RN.bind_val]at aA;have dA:=Zh aA;have uA:=HH.o.ty;rw[T3]at uA;have cA:=Jgt uA
  have hnn:0<=nn/\nn<(K.r.sigs.length:Int):=by
   obtain⟨_,hf,_,_⟩:=JI HH.o.fit;rw[T3]at hf;unfold Qam at hf;rw[K5]at hf;simp at hf;exact hf.1
  obtain⟨f,hf⟩:=JdX hnn.1 hnn.2;have vB:K.r.sigs.getD nn.toNat ⟨[],0⟩=f:=by rw[List.getD_eq_getElem?_getD,hf];rfl
  rw[vB]at cA
  have zB:QdC f.params vs:=by
   refine⟨by rw[xA.o.len];exact cA.1.symm,λj p v hp hv=>?_⟩;have hj:j<l.length:=by rw[cA.1];exact(List.getElem?_eq_some_iff.1 hp).1
   have:=xA.o.ok j v l[j] hv (getElem?_eq_getElem hj);rw[cA.2 j l[j] p (getElem?_eq_getElem hj) hp]at this;exact this
  have bA:=pB.o nn vs _ f wl ui hnn.1 hf zB xA.o.us xA.o.mr (xA.o.ints zA.o.1);clear T3 aA uA cA hnn hf vB zB;go_wp2_with fail;refine bA.mono ?_;clear bA b0 b1 b2 b3;intro e w9 h9;rw[<-dA.o]at h9;have C2:=EvP.back (Q3.o.trans xA.o.chg) h9;clear h9
  cases X with
  |fault er u9=>
   obtain⟨rfl,h11⟩:=C2;refine⟨rfl,?_⟩;exact⟨rfl,h11⟩
  |val v9 u9=>
   obtain⟨rfl,h11⟩:=C2;have hA:=Zh h11;clear h11;go_wp2;go_ret;exact⟨rfl,hA.o⟩
 ·have hB:(k==20)=false:=zM T3;have mA:6<=k/\k<=15:=by have:=eA.o;omega
  have vA:=qA.o mA;rw[xA.o.fin,RN.bind_val]at vA;have dA:=Zh vA;have jA:l.length=ar0 k:=(Jlp HH.o.fit).2 T3;have uA:=HH.o.ty
  have bA:=JiF k mA vs _ K.p wl (xA.o.ints zA.o.1) (by rw[xA.o.len];exact jA) (λv hv=>by
   obtain⟨j,hj⟩:=List.getElem?_of_mem hv;have dB:j<l.length:=by have:=xA.o.len;have:=(List.getElem?_eq_some_iff.1 hj).1;omega
   exact(xA.o.ok j v l[j] hj (getElem?_eq_getElem dB)).wf) (λh7=>by
   have sB:l.length=1:=by rw[jA,h7];rfl
   have mB:vs[0]?=some (vs.getD 0 0):=by
    rw[List.getD_eq_getElem?_getD,getElem?_eq_getElem (zu xA.o.len)];rfl
   have uB:l[0]?=some (l[0]'(by omega)):=getElem?_eq_getElem _;have:=xA.o.ok 0 _ _ mB uB;rw[Jgs uA h7 _ (mem_of_getElem? uB)]at this
   exact Jgr this) ui
  clear T3 vA mA uA jA;go_wp2_with fail;refine bA.mono ?_;clear bA b0 b1 b2 b3;intro e w9 h9;rw[<-dA.o]at h9;have kA:=JmR (k:=k) (a:=vs.getD 0 0) (b:=vs.getD 1 0) (u:=ui);rw[<-dA.o]at kA
  cases X with
  |fault er u9=>
   obtain⟨rfl,h11⟩:=h9;obtain rfl:u9=ui:=kA;refine⟨rfl,?_⟩;exact⟨rfl,⟨c,xA.o.mr.up h11⟩,Q3.o.trans (xA.o.chg.trans (Chg.of_below h11 [K.p]))⟩
  |val v9 u9=>
   obtain⟨rfl,h11⟩:=h9;obtain rfl:u9=ui:=kA;have hA:Hi (Qcw K w9 u9 c/\Chg [K.p] W w9):=⟨xA.o.mr.up h11,Q3.o.trans (xA.o.chg.trans (Chg.of_below h11 [K.p]))⟩
   clear h11;go_wp2;go_ret;exact⟨rfl,hA.o⟩
def JiG(K:Qbw)(hk:K.Ok):Qeu K 100 0:=by
 intro n args av f W u h0 hf hv hu hm hi;obtain⟨X,hX⟩:=yt (Qcb K.r.funcs K.F 0 n args u)
 rw[hX];have hq:X=if u=10000 then .fault 14 u else .fault 7 (u+1):=by rw[<-hX];rfl
 have HQ:=Zh hq;have cs:=Jaj K hk W u 100 hm hu;have HM:=Zh hm;clear hX hq hi hv hf hm;go_enter func106,ntmps106;go_wp2_with fail;refine cs.mono ?_;intro e w2 h2;unfold Qes at h2
 by_cases h:u=10000
 ·rw[if_pos h]at h2;obtain⟨rfl,rfl⟩:=h2;refine⟨rfl,?_⟩;rw[HQ.o,if_pos h];exact⟨rfl,⟨100,HM.o⟩,Chg.refl _ _⟩
 ·rw[if_neg h]at h2;have H9:Hi (X=.fault 7 (u+1)):=by rw[Hi,HQ.o,if_neg h]
  obtain⟨rfl,xA,S1⟩:=h2;have b16:w2.cell? ⟨K.p,16,none⟩=some (Iv 100):=Ja xA.self 16;have oC:=Zh xA;have A7:=Zh S1;clear xA S1 cs HQ h;go_wp2;refine⟨rfl,?_⟩;rw[H9.o];exact⟨rfl,⟨100,oC.o⟩,A7.o⟩
def JiH(K:Qbw)(hk:K.Ok)(c d:Nat)(hcd:c+(d+1)=100)(IH:∀n,Qfl K (c+1) d n):Qeu K c (d+1):=by
 intro n args av f W u h0 hf hv hu hm hi;obtain⟨X,hX⟩:=yt (Qcb K.r.funcs K.F (d+1) n args u)
 rw[hX];have hq:X=if u=10000 then .fault 14 u else evK K d args (u+1) (K.r.funcs.getD n.toNat Qja).body:=by rw[<-hX];rfl
 obtain⟨i,rfl⟩:∃i:Nat,n=i:=⟨n.toNat,by omega⟩
 rw[Int.toNat_natCast]at hf hq;obtain⟨g,hg,aA,e1,e2⟩:=Jia hf;have gA:K.r.funcs.getD i Qja=g:=by rw[List.getD_eq_getElem?_getD,hg];rfl
 rw[gA]at hq;rw[e1]at hv;have hil:(i:Int)<(K.r.funcs.length:Int):=by have:=(List.getElem?_eq_some_iff.1 hg).1;omega
 obtain⟨b,o,pa,pc,da,dc,hA,bA⟩:=hk.fns.get hg;obtain⟨_,kA,T4,hsz⟩:=hk.rsz.fn g aA
 have jA:∀w',Qcw K w' (u+1) (c+1)->Chg [K.p] W w'->u+1<=10000->EvH K (c+1) g.body (zg g.body.kind g.body.num g.body.name da g.body.kids.length dc) args g.params av 40 g.result w' (u+1):=λw' h1 h2 h3=>
  ⟨T4,by have:=hv.1;omega,bA.body,YX hk.tr aA,JbI hk.ty aA,hv,h3,h1,hi.chg h2⟩
 have pA:=Zh jA;have HQ:=Zh hq;have mA:=Zh IH;have vA:=Zh bA;have xA:K.fa=some ⟨b,o,none⟩:=hA;have nA:=Zh xA;have cs:=Jaj K hk W u c hm hu;have HM:=Zh hm;obtain⟨va,vc,rfl⟩:=hi.form';clear hX hq hi hv hf hm hg aA e1 e2 gA hA bA xA jA T4 hsz kA IH;go_enter func106,ntmps106;go_wp2_with fail;refine cs.mono ?_;intro e w2 h2;unfold Qes at h2
 by_cases h:u=10000
 ·rw[if_pos h]at h2;obtain⟨rfl,rfl⟩:=h2;refine⟨rfl,?_⟩;rw[HQ.o,if_pos h];exact⟨rfl,⟨c,HM.o⟩,Chg.refl _ _⟩
 ·rw[if_neg h]at h2;obtain⟨rfl,zA,S1⟩:=h2;have b16:w2.cell? ⟨K.p,16,none⟩=some (Iv c):=Ja zA.self 16;have f16:=Jc zA.self 16;have hlt:=zA.lt;have eA:((c:Int)==100)=false:=zM zo;have uA:(c==100)=false:=zM zo;have wc:=zI c;have cA:=zA.setC hk (c+1);have B5:Chg [K.p] W (w2.setCell ⟨K.p,16,none⟩ (Iv ((c+1:Nat):Int))):=S1.setCell (.inl zq) _;rw[Int.natCast_add,Int.natCast_one]at cA B5;have dA:=Zh cA;have I7:=Zh B5;have iA:u+1<=10000:=zo;have H9:Hi (X=evK K d args (u+1) g.body):=by rw[Hi,HQ.o,if_neg h]
  have HU:=Zh iA;clear zA S1 cA B5 cs HQ h iA;go_upto_region 5 with fail;clear b16 f16 hlt eA uA;generalize World.setCell w2 _ _=w3 at*;have b0:w3.cell? ⟨K.p,0,none⟩=some (.slice K.fa K.r.funcs.length K.fc):=Ja dA.o.self 0;rw[nA.o]at b0;have yA:∀j u,K.w0.cell? ⟨b,o+i*7+j,none⟩=some u->w3.cell? ⟨b,o+i*7+j,none⟩=some u:=λj u hu=>(dA.o.bel.cell (p:=⟨b,o+i*7+j,none⟩) vA.o.blt).trans hu
  have c3:=yA 3 _ vA.o.c3;have c4:=yA 4 _ vA.o.c4;have c5:=yA 5 _ vA.o.c5;have c6:=yA 6 _ vA.o.c6;have hH:=pA.o w3 dA.o I7.o HU.o;have qA:=Zh (hH.ok hk d);have ci:=mA.o _ g.body _ args g.params _ _ _ w3 (u+1) zP hH;clear yA hH;go_wp2_with fail;refine ci.mono ?_;clear ci b0 c3 c4 c5 c6;rw[<-H9.o]
  cases X with
  |fault er u9=>
   rintro e w9 ⟨rfl,W8,O6⟩;refine⟨rfl,?_⟩;exact⟨rfl,W8,I7.o.trans O6⟩
  |val v9 u9=>
   rintro e w9 ⟨rfl,W8,O6⟩;have b16:w9.cell? ⟨K.p,16,none⟩=some (Iv ((c:Int)+1)):=Ja W8.self 16;have f16:=Jc W8.self 16;have hlt:=W8.lt;have wd:IntKind.i64.wrap ((c:Int)+1-1)=(c:Int):=by rw[IntWalk.i64_in _ zo];omega
   have rA:(c:Int)+1-1=(c:Int):=zo;have fC:=Zh (W8.setC hk c);have RB:Hi (Chg [K.p] W (w9.setCell ⟨K.p,16,none⟩ (Iv c))):=(I7.o.trans O6).setCell (.inl zq) _;clear W8 O6;go_wp2;go_ret;exact⟨rfl,fC.o,RB.o⟩
def Jen(K:Qbw)(hk:K.Ok)(c d:Nat)(HC:Qeu K c d):∀n,Qfl K c d n
 |0=>λe cs M0 U0 vv Qag t W u hn h=>by
  have:=Vh (utN e);omega
 |n+1=>λe cs M0 U0 vv Qag t W u hn h=>by
  have IH:=Jen K hk c d HC n;obtain⟨k,nn,s,l⟩:=e;have xA:Qbd (utL l)<=n:=by rw[utN,JD]at hn;omega
  obtain⟨_,hf,ha,_⟩:=JI h.fit
  rcases Yy hf with rfl|rfl|rfl|rfl|rfl|rfl|rfl|rfl|h8|rfl|rfl|rfl|rfl|rfl|rfl
  ·exact JmN K hk c d n IH nn s l cs M0 U0 vv Qag t W u xA h
  ·exact JkM K hk c d n IH nn s l cs M0 U0 vv Qag t W u xA h
  ·exact JmO K hk c d n IH nn s l cs M0 U0 vv Qag t W u xA h
  ·exact JkN K hk c d n IH nn s l cs M0 U0 vv Qag t W u xA h
  ·exact JiE K hk c d n IH nn s l cs M0 U0 vv Qag t W u xA h
  ·exact JkO K hk c d n IH nn s l cs M0 U0 vv Qag t W u xA h
  ·exact Jar K hk c d n IH HC 6 nn s l cs M0 U0 vv Qag t W u xA h (.inl zp)
  ·exact Jar K hk c d n IH HC 7 nn s l cs M0 U0 vv Qag t W u xA h (.inl zp)
  ·exact Jar K hk c d n IH HC k nn s l cs M0 U0 vv Qag t W u xA h (.inl zo)
  ·exact Jar K hk c d n IH HC 15 nn s l cs M0 U0 vv Qag t W u xA h (.inl zp)
  ·obtain⟨a,b,rfl⟩:=JT (show l.length=2 from ha);exact JmP K hk c d n IH nn s a b cs M0 U0 vv Qag t W u xA h
  ·obtain⟨a,b,rfl⟩:=JT (show l.length=2 from ha);exact Job K hk c d n IH nn s a b cs M0 U0 vv Qag t W u xA h
  ·obtain⟨z,a,b,rfl⟩:=Vb (show l.length=3 from ha);exact Joc K hk c d n IH nn s z a b cs M0 U0 vv Qag t W u xA h
  ·obtain⟨a,b,rfl⟩:=JT (show l.length=2 from ha);exact JmQ K hk c d n IH nn s a b cs M0 U0 vv Qag t W u xA h
  ·exact Jar K hk c d n IH HC 20 nn s l cs M0 U0 vv Qag t W u xA h (.inr rfl)
def Jfy(K:Qbw)(hk:K.Ok):∀d c,c+d=100->Qeu K c d
 |0,c,h=>by
  obtain rfl:c=100:=zo;exact JiG K hk
 |d+1,c,h=>JiH K hk c d h (Jen K hk (c+1) d (Jfy K hk d (c+1) zo))
def JiI(K:Qbw)(hk:K.Ok)(e:Exp)(cs:Array Value)(M0 U0:List Int)(vv:Value)(Qag:Nat)(t:Int)(W:World)(u:Nat)(h:EvH K 0 e cs M0 U0 vv Qag t W u):
  Calls prog 44 #[Pt K.p,.agg cs,vv] W (EvP K W 0 (evN (Qcb K.r.funcs K.F 100) K.F M0 u e)):=
 Jen K hk 0 100 (Jfy K hk 100 0 rfl) _ e cs M0 U0 vv Qag t W u zP h
open Go Go.ChangeShapes Go.WideShapes Go.ChangeAt Go.RowKit Go.Lib
def JoO(K:MK)(w:World)(p:Nat)(s:StM)(o:OpM)(v:Int)(l:List Int)(h:MAt K w p s)(hs:s.st=v::l)(hl:s.st.length<=1000000000000)(hv:Qbc v):Calls prog 67 #[Pt p,.agg (yu o)] w (Qav K w p {s with st:=clI (0-v)::l} (.tuple #[])):=by
 obtain⟨R,hR⟩:=yt (Qav K w p {s with st:=clI (0-v)::l} (.tuple #[]))
 rw[hR];have HR:Hi (R=Qav K w p {s with st:=clI (0-v)::l} (.tuple #[])):=hR.symm;have HS:=Zh (MSt.box h (.cells (yu o) 34));have HY:=Zh (zQ w (.cells (yu o) 34));have HL:=Zh hl;have HT:=Zh hs;have HV:=Zh hv;obtain⟨x,hx⟩:=yt (clI (0-v))
 rw[hx]at HR;have HX:Hi (Qca (0-v)=x):=hx;clear hx;clear hl hs hv;clear hR h;go_enter func67,ntmps67;go_upto_region 1 with fail;generalize World.alloc w _=w1 at*;generalize w.heap.size=yb at*;obtain⟨y0,y1,y2⟩:=Jh HY.o;go_wp2_with fail;refine(VY K w1 p s v l HS.o.at' HT.o (zu HL.o)).mono ?_;rintro e w2 ⟨rfl,ha,hb,ht⟩;replace HS:=Zh (HS.o.next ha hb ht);clear ha hb ht;have E4:=JbM 0 v w2 (by unfold Qbc;omega) HV.o;rw[HX.o]at E4;go_wp2_with fail;refine E4.mono ?_;clear E4;rintro e w3 ⟨rfl,G1⟩;replace HS:=Zh (HS.o.up G1);clear G1;go_wp2_with fail;refine(JF K w3 p {s with st:=l} x HS.o.at' (by have:=HL.o;rw[HT.o]at this;simp only[List.length_cons]at this |-;omega)).mono ?_;rintro e w4 ⟨rfl,ha,hb,ht⟩;exact Qdj
variable{sv cv:Value}{fr:List Value}
def QeY.setp{j:Nat}{s:StM}{vv u:Value}{cs:Array Value}(h:QeY w p s sv vv cv fr)(hp:w.heap[p]?=some (.cells cs 76 (0,0))):QeY (w.setCell ⟨p,j,none⟩ u) p s sv vv cv fr:=by
 have hk:=JbO (w:=w) (b:=p-1) (p:=p) (j:=j) (row:=none) (u:=u) hp;exact⟨hk _ _ _ _ _ zp h.st zq,hk _ _ _ _ _ zp h.vars zq,hk _ _ _ _ _ zp h.calls zq,h.frames.keep hk zq,h.dis⟩
def Qgb(s:StM)(a m z:Nat):StM:={s with pc:=a,st:=s.st.drop m,vars:=(s.st.take m).reverse++List.replicate (z-m) 0,calls:=(s.pc,s.vars)::s.calls,used:=s.used+1}
def Qfg(s:StM)(a m z:Nat):StM:=if s.used=10000 then s.fail 14 else if s.calls.length=100 then StM.fail {s with used:=s.used+1} 7 else Qgb s a m z
def QcN(s:StM)(m z k:Nat):StM:={s with st:=s.st.drop (m-k),vars:=List.replicate k 0++(s.st.take (m-k)).reverse++List.replicate (z-m) 0,calls:=(s.pc,s.vars)::s.calls,used:=s.used+1}
def Jeo(s:StM)(hm:m<=z):QcN s m z m={s with vars:=List.replicate z 0,calls:=(s.pc,s.vars)::s.calls,used:=s.used+1}:=by
 unfold QcN;rw[Nat.sub_self,List.drop_zero,List.take_zero,List.reverse_nil,List.append_nil,List.replicate_append_replicate]
 congr 2
 omega
def Jgu(s:StM)(m z:Nat)(a:Nat):{QcN s m z 0 with pc:=a}=Qgb s a m z:=by
 unfold QcN Qgb;simp
def JiJ(s:StM){k:Nat}(hm:m<=z)(hk:k<=m)(hs:m<=s.st.length):(QcN s m z k).vars.length=z:=by
 unfold QcN;simp only[List.length_append,List.length_replicate,List.length_reverse,List.length_take];omega
def Jgv(s:StM){k:Nat}(hm:m<=z)(hk:k+1<=m)(hs:m<=s.st.length):∃v l,(QcN s m z (k+1)).st=v::l/\{QcN s m z (k+1) with st:=l,vars:=(QcN s m z (k+1)).vars.set k v}=QcN s m z k:=by
 have hlt:m-(k+1)<s.st.length:=zo;refine⟨s.st[m-(k+1)],s.st.drop (m-(k+1)+1),List.drop_eq_getElem_cons hlt,?_⟩;unfold QcN;have e1:m-(k+1)+1=m-k:=zo
 have e2:(s.st.take (m-k)).reverse=s.st[m-(k+1)]::(s.st.take (m-(k+1))).reverse:=by
  rw[<-e1,List.take_add_one,List.getElem?_eq_getElem hlt];simp
 simp only[e1,e2]
 congr 1
 rw[List.append_assoc,List.append_assoc,List.replicate_succ',List.append_assoc,List.set_append_right _ _ zq];simp
def Jgw:(prog.info? 192).map (λi=>(i.zero,i.size,i.bytes))=some (some (.agg #[Iv 0,Nl]),2,32):=zk
def Jgx(x:Nat×List Int)(l:List (Nat×List Int))(v:Value)(f:List Value):Qdf (x::l) (v::f)=Qdf l f++[Iv (x.1:Nat),v]:=by unfold Qdf;simp
def QeY.called{pc:Nat}{s:StM}{vv cv':Value}(h:QeY w p s sv vv cv fr)(hk:QeG w W (p-1) cv.ownBlock)(hr:W.ownsRow (p-1) 192 2 cv' (s.calls.length+1) (Qdf s.calls fr++[Iv (pc:Nat),vv])):
  W.ownsRow (p-1) 3 1 sv s.st.length (Qad s.st.reverse)/\W.ownsRow (p-1) 192 2 cv' (s.calls.length+1) (Qdf ((pc,s.vars)::s.calls) (vv::fr))/\QeZ W (p-1) ((pc,s.vars)::s.calls) (vv::fr)/\(sv::vv::fr).Pairwise Qcf:=by
 have hi:∀{v:Value}{n:Nat}{xs:List Value},w.ownsRow (p-1) 3 1 v n xs->W.ownsRow (p-1) 3 1 v n xs:=λ{v n xs} h'=>hk _ _ _ _ _ zp h' λk hv e=>Jak h' h.calls zp k hv e
 refine⟨hi h.st,by rw[Jgx];exact hr,⟨hi h.vars,?_⟩,h.dis⟩
 have:∀(l:List (Nat×List Int))(f:List Value),QeZ w (p-1) l f->QeZ W (p-1) l f:=by
  intro l
  induction l with
  |nil=>intro f h;cases f with|nil=>trivial|cons _ _=>exact h.elim
  |cons x l ih=>intro f h;cases f with|nil=>exact h.elim|cons _ _=>exact⟨hi h.1,ih _ h.2⟩
 exact this _ _ h.frames
def JkP{s:StM}(h1:w.ownsRow (p-1) 3 1 sv s.st.length (Qad s.st.reverse))(h2:w.ownsRow (p-1) 192 2 cv s.calls.length (Qdf s.calls fr))(h3:QeZ w (p-1) s.calls fr)(h4:(sv::fr).Pairwise Qcf)
  (hp:p<w.heap.size) (z:Nat) (hz:z<=maxLen):QeY (w.alloc (.cells (madeCells #[Iv 0] z) 3)) p {s with vars:=List.replicate z 0} sv (.slice (some ⟨w.heap.size,0,none⟩) z z) cv fr:=by
 have hb:yr w (w.alloc (.cells (madeCells #[Iv 0] z) 3)):=zO.alloc (Nat.le_refl _) _;refine⟨JX h1 hb,?_,JX h2 hb,h3.keep (row:=none) (λ_ _ _ _ _ _ h' _=>JX h' hb) λ_ _ _ _=>by simp,?_⟩
 ·refine⟨by simp[Qad],.inr ⟨w.heap.size,z,madeCells #[Iv 0] z,by rw[List.length_replicate],by omega,zQ _ _,by simp,hz,by rw[size_madeCells,Nat.mul_one],?_⟩⟩;rw[toList_madeCells_one,Nat.mul_one];unfold Qad;simp
 ·have hd:=List.pairwise_cons.1 h4
  have xA:∀v k,v=sv\/v∈fr->v.ownBlock=some k->k<w.heap.size:=λv k hv hk=>by
   rcases hv with rfl|hv
   ·exact(h1.lt k hk).2
   ·exact(h3.lt v hv k hk).2
  refine List.pairwise_cons.2 ⟨λb hb k hk hbk=>?_,List.pairwise_cons.2 ⟨λb hb k hk hbk=>?_,hd.2⟩⟩
  ·rcases List.mem_cons.1 hb with rfl|hb
   ·have:=xA sv k (.inl rfl) hk;have e:k=w.heap.size:=by simpa[Value.ownBlock,eq_comm] using hbk
    omega
   ·exact hd.1 b hb k hk hbk
  ·have e:k=w.heap.size:=by simpa[Value.ownBlock,eq_comm] using hk
   have:=xA b k (.inr hb) hbk;omega
def Jod(K:MK)(w:World)(p:Nat)(s:StM)(o:OpM)(h:MAt K w p s)(j:Nat)(hj:o.n=(j:Int))(a m z:Nat)(starts params slots:List Int)(h1:QbX w (p-1) K.o1 starts)(h2:QbX w (p-1) K.o2 params)(h3:QbX w (p-1) K.o3 slots)(e1:starts[j]?=some (a:Int))(e2:params[j]?=some (m:Int))(e3:slots[j]?=some (z:Int))(sG:s.used≠10000->s.calls.length≠100->m<=s.st.length/\m<=z)(hz:z<=1000000000)(hl:s.st.length<=1000000000000)(hu:s.used<=10000)(hc:s.calls.length<=100):Calls prog 80 #[Pt p,.agg (ye o.code o.n o.name)] w (Qav K w p (Qfg s a m z) (.tuple #[])):=by
 obtain⟨R,hR⟩:=yt (Qav K w p (Qfg s a m z) (.tuple #[]))
 rw[hR];have HR:Hi (R=Qav K w p (Qfg s a m z) (.tuple #[])):=hR.symm;have HS:=Zh (MSt.box h (.cells (ye o.code o.n o.name) 34));have HY:=Zh (zQ w (.cells (ye o.code o.n o.name) 34));have HJ:=Zh hj;have aD:=Zh h1;have dD:=Zh h2;have gD:=Zh h3;have nC:=Zh e1;have zD:=Zh e2;have kC:=Zh e3;have HZ:=Zh hz;have nA:=Zh sG;have HL:=Zh hl;have HU:=Zh hu;have Q1:=Zh hc;unfold Qfg at HR;clear hj h1 h2 h3 e1 e2 e3 hz sG hl hu hc;clear hR h;go_enter func80,ntmps80;go_upto_region 1 with fail;generalize World.alloc w _=w1 at*;generalize w.heap.size=yb at*;obtain⟨y0,y1,y2⟩:=Jh HY.o;obtain⟨tD,rC,bB,eB,gC⟩:=aD.o.get;obtain⟨pD,cD,dB,cB,xD⟩:=dD.o.get;obtain⟨mD,aC,gB,pB,eC⟩:=gD.o.get;obtain⟨rA,sA,rfl,hA,hc1⟩:=gC j _ nC.o;obtain⟨aB,qB,rfl,pA,S1⟩:=xD j _ zD.o;obtain⟨eA,kA,rfl,qA,B5⟩:=eC j _ kC.o;have yC:=(List.getElem?_eq_some_iff.1 nC.o).1;have jC:=(List.getElem?_eq_some_iff.1 zD.o).1;have iC:=(List.getElem?_eq_some_iff.1 kC.o).1;obtain⟨n1,P4⟩:=yt starts.length
 obtain⟨n2,uD⟩:=yt params.length
 obtain⟨n3,hC⟩:=yt slots.length
 rw[P4]at bB yC;rw[uD]at dB jC;rw[hC]at gB iC
 have KF:Hi (∀W,Below (p-1) w W->W.cell? ⟨rA,sA+j,none⟩=some (Iv (a:Int))/\W.cell? ⟨aB,qB+j,none⟩=some (Iv (m:Int))/\W.cell? ⟨eA,kA+j,none⟩=some (Iv (z:Int))):=λW hW=>
  ⟨(World.cell?_of_block (a:=⟨rA,sA+j,none⟩) (hW.block _ hA)).trans hc1,(World.cell?_of_block (a:=⟨aB,qB+j,none⟩) (hW.block _ pA)).trans S1,(World.cell?_of_block (a:=⟨eA,kA+j,none⟩) (hW.block _ qA)).trans B5⟩
 have jD:=Zh bB;have eD:=Zh dB;have sB:=Zh gB;have rD:(j:Int)<(n1:Int):=zo;have qD:(j:Int)<(n2:Int):=zo;have sD:(j:Int)<(n3:Int):=zo;clear bB dB gB eB cB pB gC xD eC hA pA qA hc1 S1 B5 yC jC iC P4 uD hC;rw[HJ.o]at HY y1;have cs:=JcU K w1 p s HS.o.at' HU.o
 by_cases e:s.used=10000
 ·rw[if_pos e,zH (by simpa using e)]at cs;rw[if_pos e]at HR;clear e y0 y1 y2;go_wp2_with fail;refine cs.mono ?_;clear cs;rintro e w2 ⟨rfl,ha,hb,ht⟩;exact Qdj
 rw[if_neg e,zG (by simpa using e)]at cs;rw[if_neg e]at HR;have uC:=Zh e;clear e;go_wp2_with fail;refine cs.mono ?_;clear cs;rintro e w2 ⟨rfl,ha,hb,ht⟩;replace HS:=Zh (HS.o.next ha hb ht);replace HY:=Zh (KU HY.o ht);clear ha hb ht y0 y1 y2;obtain⟨sv,vv,cv,fr,hX⟩:∃sv vv cv fr,Qek K w2 p {s with used:=s.used+1} sv vv cv fr:=HS.o.at';have nB:=hX.2.calls;obtain⟨ca,cc,rfl⟩:=Jv nB;have vA:w2.cell? ⟨p,19,none⟩=some (.slice ca s.calls.length cc):=Ja hX.1 19
 by_cases e:s.calls.length=100
 ·rw[if_pos e]at HR;rw[e]at vA;clear hX nB e;go_wp2_with fail;refine(Jan K w2 p {s with used:=s.used+1} 7 HS.o.at').mono ?_;rintro e w3 ⟨rfl,ha,hb,ht⟩;exact Qdj
 rw[if_neg e]at HR;have q:((s.calls.length:Int)==100)=false:=zr;have HM:=Zh (nA.o uC.o e).2;have qC:=Zh (nA.o uC.o e).1;have HC:Hi (s.calls.length<=99):=by have:=Q1.o;unfold Hi;omega
 clear e;go_upto_region 4 with fail;clear q vA;have HX:=Zh hX;clear hX nB;have bA:=HX.o.2.vars;obtain⟨va,vc,rfl⟩:=Jv bA;clear bA;replace HX:=Zh HX.o.drew;replace HS:=Zh HS.o.drew;replace HY:Hi (w2.drew.heap[yb]?=_):=HY.o;have b16:w2.drew.cell? ⟨p,16,none⟩=some (Iv (s.pc:Nat)):=Ja HX.o.1 16;have yB:w2.drew.cell? ⟨p,18,none⟩=some (.slice va s.vars.length vc):=Ja HX.o.1 18;have vA:w2.drew.cell? ⟨p,19,none⟩=some (.slice ca s.calls.length cc):=Ja HX.o.1 19;have O7:=Zh (Jb HX.o.1);refine LB (λW=>W.cell? ⟨p,16,none⟩=some (Iv (s.pc:Nat))/\W.cell? ⟨p,18,none⟩=some (.slice va s.vars.length vc)/\W.cell? ⟨p,19,none⟩=some (.slice ca s.calls.length cc)) 18 ⟨b16,yB,vA⟩ λhH=>?_
 clear b16 yB vA;generalize w2.drew=w3 at*;refine LK 0 rfl ?_;refine LK 1 rfl ?_;refine LK 2 rfl ?_;refine LK 3 rfl ?_;refine LK 4 rfl ?_;refine LK 5 rfl ?_;refine LK 6 rfl ?_;refine LK 7 rfl ?_;refine LK 8 rfl ?_;refine LK 9 rfl ?_;refine LK 10 rfl ?_;refine LK 11 rfl ?_;refine LK 12 rfl ?_;refine LK 13 rfl ?_;refine LO 14 rfl λKK hK=>?_
 go_simp;have HOW:=Zh (HX.o.2.calls.alloc (.cells #[Iv (s.pc:Nat),.slice va s.vars.length vc] 192));have R3:=Zh (zQ w3 (.cells #[Iv (s.pc:Nat),.slice va s.vars.length vc] 192));have vC:(w3.alloc (.cells #[Iv (s.pc:Nat),.slice va s.vars.length vc] 192)).heap[p]?=some (.cells (mC K {s with used:=s.used+1} sv (.slice va s.vars.length vc) (.slice ca s.calls.length cc)) 76 (0,0)):=by rw[heap_alloc_old _ _ O7.o];exact HX.o.1
 have tA:=Zh vC;clear vC;refine zU hK ⟨Ja tA.o 16,Ja tA.o 18,Ja tA.o 19⟩ λhH=>?_
 clear hK KK;refine LO 15 rfl λKK hK=>?_
 (refine Jq (w3.alloc (.cells #[Iv (s.pc:Nat),.slice va s.vars.length vc] 192)) zt (.tmp 20) (.tmp 30) 74 192 (.agg #[Iv 0,Nl]) 2 32 zt underlying74 Jgw zt zp (p-1) (.slice ca s.calls.length cc) s.calls.length (Qdf s.calls fr) [Iv (s.pc:Nat),.slice va s.vars.length vc] zt HOW.o w3.heap.size zt R3.o zt (by intro u hu;simp at hu;rcases hu with rfl|rfl<;>rfl) (zu HC.o) zp (by have:=O7.o;rw[World.size_alloc];omega) ?_;intro v' w' Q0 hgrow O0)
 have dA:w'.heap[p]?=some (.cells (mC K {s with used:=s.used+1} sv (.slice va s.vars.length vc) (.slice ca s.calls.length cc)) 76 (0,0)):=(hgrow.block p (by rw[World.size_alloc];have:=O7.o;omega) λe=>YZ HX.o.2.calls HX.o.1 zp e.symm).trans tA.o;have yD:Below (p-1) w3 w':=(zO.alloc (zu O7.o) _).grown hgrow (by rw[World.size_alloc];have:=O7.o;omega) (λk hk=>by have:=(HX.o.2.calls.lt k hk).1;omega);have pC:TFr w3 w':=TFr.grown HX.o.2.calls (.inr rfl) hgrow;obtain⟨a',c',rfl⟩:=Jv Q0;obtain⟨r1,r2,r3,r4⟩:=HX.o.2.called (W:=w'.setCell ⟨p,19,none⟩ (.slice a' (s.calls.length+1) c')) (pc:=s.pc) (cv':=.slice a' (s.calls.length+1) c') (JaX hgrow HX.o.1) (KT Q0 dA zp _);have uB:=Zh dA;have iA:=Zh (And.intro r1 (And.intro r2 (And.intro r3 r4)));have CA:=Zh (And.intro (yD.setCell (p:=⟨p,19,none⟩) zq (.slice a' (s.calls.length+1) c')) (pC.trans (TFr.set (j:=19) (u:=.slice a' (s.calls.length+1) c') dA)));have cA:=Zh (Jm dA 19 (.slice a' (s.calls.length+1) c'));have iD:=Jc dA 19;clear Q0 hgrow O0 yD pC r1 r2 r3 r4 dA HOW R3 tA;refine zU hK ⟨Ja uB.o 16,Ja uB.o 18,Ja uB.o 19⟩ λhH=>?_
 clear hK KK;refine LO 16 rfl λKK hK=>?_
 go_simp;refine zU hK hH λhH=>?_
 clear hK KK;refine LK 17 rfl ?_;refine LZ 18 rfl λKK hK=>?_
 obtain⟨_,_,vA⟩:=hH;go_simp;clear vA iD uB hH;refine hK.out _ _ ?_;clear hK KK;replace HY:=Zh (KU HY.o CA.o.2);have mA:=Zh (HS.o.below.trans CA.o.1);have D2:=Zh (HS.o.tfr.trans CA.o.2);clear CA HS HX;generalize World.setCell w' _ _=w4 at*;go_upto_region 5 with fail;replace HY:Hi (w4.drew.heap[yb]?=_):=HY.o;have bD:=QdZ z HZ.o;have k3:=(KF.o _ mA.o.drew).2.2;obtain⟨y0,y1,y2⟩:=Jh HY.o;have b3:w4.drew.cell? ⟨p,3,none⟩=some (.slice (some ⟨eA,kA,none⟩) n3 aC):=(Ja (w:=w4.drew) cA.o 3).trans (congrArg some sB.o);refine LB (λW=>W.cell? ⟨p,3,none⟩=some (.slice (some ⟨eA,kA,none⟩) n3 aC)/\W.cell? ⟨yb,1,none⟩=some (Iv (j:Int))/\W.cell? ⟨eA,kA+j,none⟩=some (Iv (z:Int))) 13 ⟨b3,y1,k3⟩ λhH=>?_
 clear b3 y0 y1 y2 k3;replace cA:Hi (w4.drew.heap[p]?=_):=cA.o;replace mA:=Zh mA.o.drew;replace D2:Hi (TFr w w4.drew):=D2.o;have kB:=Zh (Jb cA.o);have tC:=Zh (JkP (w:=w4.drew) (s:={s with calls:=(s.pc,s.vars)::s.calls,used:=s.used+1}) iA.o.1.drew iA.o.2.1.drew (iA.o.2.2.1.keep (row:=none) (W:=w4.drew) (λ_ _ _ _ _ _ h' _=>h'.drew) λ_ _ _ _=>by simp) iA.o.2.2.2 kB.o z (by unfold maxLen;have:=HZ.o;omega));clear iA;generalize w4.drew=w5 at*;refine LK 0 rfl ?_;refine LK 1 rfl ?_;refine LK 2 rfl ?_;refine LK 3 rfl ?_;refine LK 4 rfl ?_;refine LK 5 rfl ?_;refine LK 6 rfl ?_;refine LK 7 rfl ?_;refine LK 8 rfl ?_;refine LK 9 rfl ?_;refine LO 10 rfl λKK hK=>?_
 go_simp;clear bD;have yA:Hi ((w5.alloc (.cells (madeCells #[Iv 0] z) 3)).heap[p]?=_):=(heap_alloc_old w5 (.cells (madeCells #[Iv 0] z) 3) kB.o).trans cA.o;have X7:Hi ((w5.alloc (.cells (madeCells #[Iv 0] z) 3)).heap[yb]?=_):=(heap_alloc_old w5 (.cells (madeCells #[Iv 0] z) 3) (Jb HY.o)).trans HY.o;have zA:Hi (Below (p-1) w (w5.alloc (.cells (madeCells #[Iv 0] z) 3))):=mA.o.alloc (zu kB.o) _;have gA:Hi (TFr w (w5.alloc (.cells (madeCells #[Iv 0] z) 3))):=D2.o.trans (TFr.alloc _ _);refine zU hK ⟨(Ja yA.o 3).trans (congrArg some sB.o),(Jh X7.o).2.1,(KF.o _ zA.o).2.2⟩ λhH=>?_
 clear hK KK cA HY mA D2;generalize World.alloc w5 _=w6 at*;generalize w5.heap.size=nb at*;have yB:w6.cell? ⟨p,18,none⟩=some (.slice va s.vars.length vc):=Ja yA.o 18;have hD:w6.frozen? ⟨p,18,none⟩=false:=Jc yA.o 18;refine LO 11 rfl λKK hK=>?_
 go_simp;refine zU hK hH λhH=>?_
 clear hK KK;refine LK 12 rfl ?_;refine LZ 13 rfl λKK hK=>?_
 go_simp;refine hK.out _ _ ?_;clear hK KK yB hD hH
 have o7:Hi (MSt K w p (QcN s m z m) (w6.setCell ⟨p,18,none⟩ (.slice (some ⟨nb,0,none⟩) z z))):=by
  rw[Jeo s HM.o];exact⟨⟨_,_,_,_,Jm yA.o 18 _,tC.o.setp yA.o⟩,zA.o.setCell zq _,gA.o.trans (TFr.set yA.o)⟩
 have X9:=Zh (KU X7.o (TFr.set (j:=18) (u:=.slice (some ⟨nb,0,none⟩) z z) yA.o));clear tC yA X7 zA gA;generalize World.setCell w6 _ _=w7 at*;go_upto_region 6 with fail;obtain⟨y0,y1,y2⟩:=Jh X9.o
 have b2:w7.cell? ⟨p,2,none⟩=some (.slice (some ⟨aB,qB,none⟩) n2 cD):=by
  obtain⟨sv,vv,cv,R0⟩:=o7.o.box';exact(Ja R0 2).trans (congrArg some eD.o)
 have k2:=(KF.o _ o7.o.below).2.1;have wk:IntKind.i64.wrap ((m:Int)-1)=(m:Int)-1:=IntWalk.i64_in _ (zv HZ.o HM.o);go_region;clear b2 k2 wk y0 y1 y2;replace o7:=Zh o7.o.drew;replace X9:Hi (w7.drew.heap[yb]?=_):=X9.o;generalize w7.drew=w8 at*;go_wp2_with fail;go_loopg [4] m λg v4 wr=>g<=m/\v4=Iv ((g:Int)-1)/\Hi (MSt K w p (QcN s m z g) wr/\wr.heap[yb]?=some (.cells (ye o.code (j:Int) o.name) 34 (0,0)))
 case atStart=>exact⟨Nat.le_refl _,rfl,o7.o,X9.o⟩
 case round=>
 clear o7 X9;obtain⟨wl,rfl⟩:=zJ wr;obtain⟨jA,rfl,A2⟩:=hrel;have xA:=Zh A2.o.1;have aA:=Zh A2.o.2;clear A2
 rcases gk with _|k
 ·have q4:decide (((0:Nat):Int)-1>=0)=false:=zp;clear jA;go_upto_region 10 with fail;replace xA:=Zh xA.o.drew;replace aA:Hi (wl.drew.heap[yb]?=_):=aA.o;have y1:=(Jh aA.o).2.1
  have b1:wl.drew.cell? ⟨p,1,none⟩=some (.slice (some ⟨rA,sA,none⟩) n1 rC):=by
   obtain⟨sv,vv,cv,R0⟩:=xA.o.box';exact(Ja R0 1).trans (congrArg some jD.o)
  have k1:=(KF.o _ xA.o.below).1;refine LB (λW=>W.cell? ⟨p,1,none⟩=some (.slice (some ⟨rA,sA,none⟩) n1 rC)/\W.cell? ⟨yb,1,none⟩=some (Iv (j:Int))/\W.cell? ⟨rA,sA+j,none⟩=some (Iv (a:Int))) 12 ⟨b1,y1,k1⟩ λhH=>?_
  clear b1 y1 k1
  have C0:Hi (MSt K w p (Qgb s a m z) (wl.drew.setCell ⟨p,16,none⟩ (Iv (a:Int)))):=by
   rw[<-Jgu];exact xA.o.set (λ_ _ _=>rfl) rfl rfl rfl
  obtain⟨sv,vv,cv,R0⟩:=xA.o.box';have b16:=Ja R0 16;have f16:=Jc R0 16;simp only[mC,List.getElem?_toArray,List.getElem?_cons_succ,List.getElem?_cons_zero]at b16;clear R0 xA aA;generalize wl.drew=w9 at*;refine LK 0 rfl ?_;refine LK 1 rfl ?_;refine LK 2 rfl ?_;refine LK 3 rfl ?_;refine LK 4 rfl ?_;refine LK 5 rfl ?_;refine LK 6 rfl ?_;refine LK 7 rfl ?_;refine LK 8 rfl ?_;refine LK 9 rfl ?_;refine LO 10 rfl λKK hK=>?_
  go_simp;refine zU hK hH λhH=>?_
  clear hK KK;refine LK 11 rfl ?_;refine LZ 12 rfl λKK hK=>?_
  go_simp;refine hK.out _ _ ?_;clear hK KK hH b16 f16;go_wp2;go_end0;rw[HR.o];exact C0.o.fin
 ·have hk1:(((k+1:Nat):Int)-1)=(k:Int):=zo;rw[hk1];have q4:decide ((k:Int)>=0)=true:=zG zo;obtain⟨v,l,iB,xC⟩:=Jgv s HM.o jA qC.o;have vD:=JiJ s HM.o jA qC.o
  have uA:(QcN s m z (k+1)).st.length<=1000000000000:=by
   unfold QcN;simp only[List.length_drop];have:=HL.o;omega
  have tB:=Zh jA;generalize QcN s m z (k+1)=s1 at*;go_upto_region 9 with fail;obtain⟨sv,vv,cv,fr,hX⟩:∃sv vv cv fr,Qek K wl p s1 sv vv cv fr:=xA.o.at';obtain⟨n,hn⟩:=yt l.length
  have hst:=hX.2.st;have dC:s1.st.length=n+1:=by rw[iB,List.length_cons,hn]
  rw[dC]at hst uA;obtain⟨gs,cs,rfl⟩:=Vm hst zo;have bA:=hX.2.vars;obtain⟨vn,mB⟩:=yt s1.vars.length
  rw[mB]at bA;obtain⟨g,c,rfl⟩:=Vm bA (zu HM.o);have rB:=Zh mB;have hB:Hi (k<vn):=by have:=HM.o;unfold Hi;omega
  have k1:(k:Int)<(vn:Int):=by have:=hB.o;omega
  replace HL:=Zh uA;have C4:=Zh hX.drew;have HP:=Zh (hX.drew.pop iB hn);have vB:=Zh xA.o.drew;have zC:Hi (wl.drew.heap[yb]?=_):=aA.o;have bC:=Zh xC;clear hst dC bA hX mB hn hk1 xC iB vD uA jA xA aA;refine wp_region_held_drew (S:=(λW'=>W'.cell? ⟨p,18,none⟩=some (.slice (some ⟨g,0,none⟩) vn c))) zk (Ja C4.o.1 18) λhH=>?_;generalize wl.drew=w2 at*;refine zK 0 ?_
  refine zK 1 ?_;refine zK 2 ?_;refine zK 3 ?_;refine zK 4 ?_;refine zK 5 ?_;try simp only[zX]
  refine ZR (rs:=[6]) (AllReadyH.cons rfl (λKK hK=>?_) AllReadyH.nil)
  (go_simp;go_at_call 116;refine(Jip w2 p gs n cs v HP.o.1 HP.o.2.1 HP.o.2.2.1 HP.o.2.2.2.1 (zu HL.o)).mono ?_;rintro e zB ⟨rfl,jB⟩)
  have S5:Hi (Qek K zB p {s1 with st:=l} (.slice (some ⟨gs,0,none⟩) n cs) (.slice (some ⟨g,0,none⟩) vn c) cv fr):=by
   rw[jB];exact HP.o.2.2.2.2
  have DA:Hi (TFr w2 zB/\Below (p-1) w2 zB):=by
   rw[jB];exact⟨TFr.set C4.o.1,zO.setCell zq _⟩
  clear jB;refine zU hK (Ja S5.o.1 18) λhH=>?_;clear hK KK
  try simp only[zX]
  refine zK 7 ?_;try simp only[zX]
  obtain⟨q1,q2⟩:=S5.o.varCell rB.o hB.o;obtain⟨x1,x2,x3⟩:=S5.o.vset (j:=k) (by show k<s1.vars.length;have:=rB.o;have:=hB.o;omega) v;have xB:=Zh x1;have j8:=Zh (And.intro x3 x2);clear x1 x2 x3;refine ZR (rs:=[8]) (AllReadyH.cons rfl (λKK hK=>?_) AllReadyH.nil);go_simp;clear q1 q2;generalize zB.setCell ⟨g,k,none⟩ (Iv v)=wc1 at*;refine zU hK (Ja xB.o.1 18) λhH=>?_;clear hK KK
  try simp only[zX]
  refine wpAnyH_done zk ?_ _
  have kD:Hi (MSt K w p (QcN s m z k) wc1/\wc1.heap[yb]?=some (.cells (ye o.code (j:Int) o.name) 34 (0,0))):=by
   rw[<-bC.o];exact⟨⟨⟨_,_,_,_,xB.o.1,xB.o.2⟩,(vB.o.below.trans DA.o.2).trans j8.o.2,(vB.o.tfr.trans DA.o.1).trans j8.o.1⟩,KU (KU zC.o DA.o.1) j8.o.1⟩
  have nD:IntKind.i64.wrap ((k:Int)-1)=(k:Int)-1:=IntWalk.i64_in _ (by have:=tB.o;have:=HM.o;have:=HZ.o;omega);clear C4 HP vB zC bC S5 DA xB j8;go_wp2;go_roundg k
  case measure=>omega
  case rel=>exact⟨by have:=tB.o;omega,rfl,kD.o⟩
def hdl:List Nat:=[61,62,63,64,65,66,67,68,69,70,71,72,73,74,75,76,77,78,79,80,81,82,83]
def hV(k:Nat):Value:=.func (.func (hdl.getD k 0)) #[] #[]
def QeT(k:Nat):Array MapEntry:=((List.range k).map λi:Nat=>(⟨Iv (i:Int),hV i,i⟩:MapEntry)).toArray
def JiK(k:Nat):(QeT k).push ⟨Iv (k:Int),hV k,k⟩=QeT (k+1):=by
 unfold QeT;rw[List.range_succ,List.map_append,List.push_toArray];rfl
def Jbd(T:TypeDesc)(hT:∃a,T=.int a)(k:Nat):∀(l:List Nat)(i:Nat),(∀j∈l,j≠k)->Instr.findNow T (Iv (k:Int)) (l.map λi:Nat=>(⟨Iv (i:Int),hV i,i⟩:MapEntry)) i=some none
 |[],i,h=>rfl
 |j::l,i,h=>by
  obtain⟨a,rfl⟩:=hT;have hj:=h j zq;have e:((k:Int)==(j:Int))=false:=zM zo;rw[List.map_cons];unfold Instr.findNow;simp only[Instr.sameNow,if_true,e];exact Jbd _ ⟨a,rfl⟩ k l (i+1) λx hx=>h x (by simp[hx])
def Jbe(T:TypeDesc)(hT:∃a,T=.int a)(k:Nat):∀(l:List Nat)(i:Nat),k∈l->∃m,Instr.findNow T (Iv (k:Int)) (l.map λi:Nat=>(⟨Iv (i:Int),hV i,i⟩:MapEntry)) i=some (some (m,hV k))
 |[],i,h=>by simp at h
 |j::l,i,h=>by
  obtain⟨a,rfl⟩:=hT;rw[List.map_cons];unfold Instr.findNow
  by_cases hj:j=k
  ·subst hj;exact⟨i,by simp[Instr.sameNow]⟩
  ·have e:((k:Int)==(j:Int))=false:=zM zo;simp only[Instr.sameNow,if_true,e];exact Jbe _ ⟨a,rfl⟩ k l (i+1) ((List.mem_cons.1 h).resolve_left λe=>hj e.symm)
def hW(w:World)(k:Nat):World:=w.alloc (.map (QeT k) k)
def Joe(w:World)(k:Nat):(hW w k).heap[w.heap.size]?=some (.map (QeT k) k):=by exact zQ w _
def JiL:prog.underlying 77=some (.map 3 (prog.mapElemOf 77)):=zk
def KW(w:World)(k:Nat):(Instr.mapUpdate 77 (.map (some w.heap.size)) (Iv (k:Int)) (hV k)).run prog (hW w k)=.ok () (hW w (k+1)):=by
 have hd:prog.underlying 3=some (.int .i64):=underlying3;have hb:=Joe w k
 have h1:Instr.findNow (.int .i64) (Iv (k:Int)) (QeT k).toList 0=some none:=by
  unfold QeT;exact Jbd _ ⟨_,rfl⟩ k (List.range k) 0 λj hj=>by have:=List.mem_range.1 hj;omega
 simp only[Instr.mapUpdate,Sem.run_bind,Go.run_underlying JiL,Result.andThen,MapKept.run_getObj_map hb,MapKept.run_checkKey hd (k:=Iv (k:Int)) rfl,MapKept.run_findKey hd h1,MapKept.run_setObj_map _ hb,JiK]
 have e:∀(a:Array Obj)(x y:Obj),(a.push x).setIfInBounds a.size y=a.push y:=λa x y=>by
  apply Array.ext';simp
 show Result.ok () ({w with heap:=(w.heap.push (.map (QeT k) k)).setIfInBounds w.heap.size (.map (QeT (k+1)) (k+1))}:World)=.ok () {w with heap:=w.heap.push (.map (QeT (k+1)) (k+1))}
 rw[e]
def QfK(W:World)(b:Nat):Prop:=W.heap[b]?=some (.map (QeT 23) 23)
def QfK.look{b:Nat}(h:QfK W b){k:Nat}(hk:k<23):(Instr.lookup 77 (.map (some b)) (Iv (k:Int)) false).run prog W=.ok (hV k) W:=by
 have hd:prog.underlying 3=some (.int .i64):=underlying3;have h':W.heap[b]?=some (.map (QeT 23) 23):=h;obtain⟨m,h1⟩:∃m,Instr.findNow (.int .i64) (Iv (k:Int)) (QeT 23).toList 0=some (some (m,hV k)):=Jbe _ ⟨_,rfl⟩ k (List.range 23) 0 (List.mem_range.2 hk);simp[Instr.lookup,Sem.run_bind,Go.run_underlying JiL,Result.andThen,MapKept.run_getObj_map h',MapKept.run_checkKey hd (k:=Iv (k:Int)) rfl,MapKept.run_findKey hd h1]
def Jdd(w:World):Calls prog 30 #[] w (λe w'=>∃b,e=.returned (.map (some b))/\w.heap.size<=b/\QfK w' b/\yr w w'):=by
 obtain⟨R,hR⟩:∃R:Ending->World->Prop,(λe w'=>∃b,e=.returned (.map (some b))/\w.heap.size<=b/\QfK w' b/\yr w w')=R:=⟨_,rfl⟩
 rw[hR];have HR:Hi (R=λe w'=>∃b,e=.returned (.map (some b))/\w.heap.size<=b/\QfK w' b/\yr w w'):=hR.symm;have HF:Hi (QfK (hW w 23) w.heap.size/\yr w (hW w 23)):=⟨Joe w 23,zO.alloc (Nat.le_refl _) (.map (QeT 23) 23)⟩
 have u0:(Instr.mapUpdate 77 (.map (some w.heap.size)) (Iv 0) (.func (.func 61) #[] #[])).run prog (w.alloc (.map #[] 0))=.ok () (hW w 1):=KW w 0;have u1:(Instr.mapUpdate 77 (.map (some w.heap.size)) (Iv 1) (.func (.func 62) #[] #[])).run prog (hW w 1)=.ok () (hW w 2):=KW w 1;have u2:(Instr.mapUpdate 77 (.map (some w.heap.size)) (Iv 2) (.func (.func 63) #[] #[])).run prog (hW w 2)=.ok () (hW w 3):=KW w 2;have u3:(Instr.mapUpdate 77 (.map (some w.heap.size)) (Iv 3) (.func (.func 64) #[] #[])).run prog (hW w 3)=.ok () (hW w 4):=KW w 3;have u4:(Instr.mapUpdate 77 (.map (some w.heap.size)) (Iv 4) (.func (.func 65) #[] #[])).run prog (hW w 4)=.ok () (hW w 5):=KW w 4;have u5:(Instr.mapUpdate 77 (.map (some w.heap.size)) (Iv 5) (.func (.func 66) #[] #[])).run prog (hW w 5)=.ok () (hW w 6):=KW w 5;have u6:(Instr.mapUpdate 77 (.map (some w.heap.size)) (Iv 6) (.func (.func 67) #[] #[])).run prog (hW w 6)=.ok () (hW w 7):=KW w 6;have u7:(Instr.mapUpdate 77 (.map (some w.heap.size)) (Iv 7) (.func (.func 68) #[] #[])).run prog (hW w 7)=.ok () (hW w 8):=KW w 7;have u8:(Instr.mapUpdate 77 (.map (some w.heap.size)) (Iv 8) (.func (.func 69) #[] #[])).run prog (hW w 8)=.ok () (hW w 9):=KW w 8;have u9:(Instr.mapUpdate 77 (.map (some w.heap.size)) (Iv 9) (.func (.func 70) #[] #[])).run prog (hW w 9)=.ok () (hW w 10):=KW w 9;have yA:(Instr.mapUpdate 77 (.map (some w.heap.size)) (Iv 10) (.func (.func 71) #[] #[])).run prog (hW w 10)=.ok () (hW w 11):=KW w 10;have xA:(Instr.mapUpdate 77 (.map (some w.heap.size)) (Iv 11) (.func (.func 72) #[] #[])).run prog (hW w 11)=.ok () (hW w 12):=KW w 11;have bA:(Instr.mapUpdate 77 (.map (some w.heap.size)) (Iv 12) (.func (.func 73) #[] #[])).run prog (hW w 12)=.ok () (hW w 13):=KW w 12;have hA:(Instr.mapUpdate 77 (.map (some w.heap.size)) (Iv 13) (.func (.func 74) #[] #[])).run prog (hW w 13)=.ok () (hW w 14):=KW w 13;have gA:(Instr.mapUpdate 77 (.map (some w.heap.size)) (Iv 14) (.func (.func 75) #[] #[])).run prog (hW w 14)=.ok () (hW w 15):=KW w 14;have jA:(Instr.mapUpdate 77 (.map (some w.heap.size)) (Iv 15) (.func (.func 76) #[] #[])).run prog (hW w 15)=.ok () (hW w 16):=KW w 15;have cA:(Instr.mapUpdate 77 (.map (some w.heap.size)) (Iv 16) (.func (.func 77) #[] #[])).run prog (hW w 16)=.ok () (hW w 17):=KW w 16;have aA:(Instr.mapUpdate 77 (.map (some w.heap.size)) (Iv 17) (.func (.func 78) #[] #[])).run prog (hW w 17)=.ok () (hW w 18):=KW w 17;have dA:(Instr.mapUpdate 77 (.map (some w.heap.size)) (Iv 18) (.func (.func 79) #[] #[])).run prog (hW w 18)=.ok () (hW w 19):=KW w 18;have iA:(Instr.mapUpdate 77 (.map (some w.heap.size)) (Iv 19) (.func (.func 80) #[] #[])).run prog (hW w 19)=.ok () (hW w 20):=KW w 19;have zA:(Instr.mapUpdate 77 (.map (some w.heap.size)) (Iv 20) (.func (.func 81) #[] #[])).run prog (hW w 20)=.ok () (hW w 21):=KW w 20;have vA:(Instr.mapUpdate 77 (.map (some w.heap.size)) (Iv 21) (.func (.func 82) #[] #[])).run prog (hW w 21)=.ok () (hW w 22):=KW w 21;have eA:(Instr.mapUpdate 77 (.map (some w.heap.size)) (Iv 22) (.func (.func 83) #[] #[])).run prog (hW w 22)=.ok () (hW w 23):=KW w 22;have uA:=@run_makeMap prog;clear hR;go_enter func30,ntmps30;go_wp2;rw[HR.o];exact⟨_,rfl,Nat.le_refl _,HF.o.1,HF.o.2⟩
end Go.Proofs.YtfafpklefknomaaGreatDoor



