import Derived.Deep.RegionHeld3
import Derived.Test.YtdlkcjkjnehnkaaGreatDoorH04
open List(map_append)
namespace Go.Proofs.YtdlkcjkjnehnkaaGreatDoor
open Go Go.Lib
open _root_.Go.Proofs.Tryz
set_option linter.all false
set_option maxRecDepth 100000
set_option maxHeartbeats 32000000
def PR.z{α β:Type}(g:α->β):PR α->PR β
 |.out=>.out
 |.bad _=>.bad 0
 |.ok a r=>.ok (g a) (r.map er)
theorem zb{α α' β β':Type}{x':PR α'}{x:PR α}{h:α->α'}{f':α'->List Tok->PR β'}{f:α->List Tok->PR β}{g:β->β'}(hx:x'=x.z h)(hf:∀ a r,f' (h a) (r.map er)=(f a r).z g):x'.bind f'=(x.bind f).z g:=by
 rw[hx]
 cases x with
 |out=>rfl
 |bad o=>rfl
 |ok a r=>exact hf a r
def zN(a:Nd):Nd:=utN (Qab a)
def zL(l:List Nd):List Nd:=utL (QaJ l)
theorem Kt(k n:Int)(s:List UInt8)(o:Int)(l:List Nd):zN (.mk k n s o l)=.mk k n s 0 (zL l):=by
 unfold zN zL;rw[Qab,utN]
theorem JS:zL []=[]:=by unfold zL;rw[QaJ,utL]
theorem JN(a:Nd)(l:List Nd):zL (a::l)=zN a::zL l:=by
 unfold zN zL;rw[QaJ,utL]
theorem Jfv:∀ (a b:List Nd),zL (a++b)=zL a++zL b
 |[],b=>by rw[JS];rfl
 |x::a,b=>by rw[List.cons_append,JN,JN,Jfv a b];rfl
theorem YY(r:List Tok):hd (r.map er)=er (hd r):=by cases r<;>rfl
theorem Yd(r:List Tok):(r.map er).tail=r.tail.map er:=by cases r<;>rfl
theorem Ke(k:Int)(s:List UInt8)(r:List Tok):acc k s (r.map er)=(acc k s r).map (List.map er):=by
 unfold acc;rw[YY,Yd];change (if (hd r).kind=k/\(hd r).text=s then _ else _)=_;split<;>rfl
theorem JO(k:Int)(s:List UInt8)(r:List Tok):Qaf k s (r.map er)=(Qaf k s r).z id:=by
 unfold Qaf;rw[Ke]
 cases acc k s r with
 |none=>simp only[Option.map_none];rw[YY];rfl
 |some r1=>rfl
theorem VN(r:List Tok):Qau (r.map er)=(Qau r).z fun p=>(p.1,0):=by
 unfold Qau;rw[YY,Yd];change (if (hd r).kind=0/\Qar (hd r).text=true then _ else _)=_;split<;>rfl
theorem Jdv(r:List Tok):Qbp (r.map er)=(Qbp r).z id:=by
 unfold Qbp;rw[YY,Yd];change (if (hd r).kind=2 then _ else _)=_;split<;>rfl
theorem Z0(r:List Tok):Qav (r.map er)=(Qav r).z id:=by
 unfold Qav;exact zb (JO ..) fun _ r1=>zb (Jdv r1) fun s r2=>zb (JO ..) fun _ r3=>rfl
theorem JjR(t:Tok)(k:Int)(a b:Nd):Qdn (er t) k (zN a) (zN b)=zN (Qdn t k a b):=by
 have e:∀ a:Nd,(zN a).off=0:=fun a=>by cases a;rw[Kt];rfl
 unfold Qdn;change (if t.text=[62]\/t.text=[62,61] then _ else if t.text=[33,61] then _ else _)=_;split
 ·simp only[Kt,JN,JS,e]
 split
 ·simp only[Kt,JN,JS,e]
 ·simp only[Kt,JN,JS,e]
def zMd:Md->Md
 |.loop lv o a=>.loop lv 0 (zN a)
 |.args nm o l=>.args nm 0 (zL l)
 |m=>m
theorem JjS:∀ (f:Nat) (md:Md) (r:List Tok),pM f (zMd md) (r.map er)=(pM f md r).z zN
 |0,md,r=>by rw[pM,pM];rfl
 |f+1,md,r=>by
  have ih:=JjS f;have iE:∀ r,pM f .expr (r.map er)=(pM f .expr r).z zN:=fun r=>ih .expr r
  have iV:∀ lv r,pM f (.level lv) (r.map er)=(pM f (.level lv) r).z zN:=fun lv r=>ih (.level lv) r
  have iO:∀ lv o a r,pM f (.loop lv 0 (zN a)) (r.map er)=(pM f (.loop lv o a) r).z zN:=fun lv o a r=>ih (.loop lv o a) r
  have o0:(hd (r.map er)).off=0:=by rw[YY];rfl
  cases md with
  |expr=>
   change pM (f+1) .expr (r.map er)=_;rw[pM,pM,Ke,Ke,o0]
   cases acc 0 QeN r with
   |some r1=>
    exact zb (VN r1) fun nm r2=>zb (JO ..) fun _ r3=>zb (iE r3) fun v r4=>zb (JO ..) fun _ r5=>zb (iE r5) fun b r6=>by simp only[PR.z,Kt,JN,JS]
   |none=>
    simp only[Option.map_none]
    cases acc 0 kIf r with
    |some r1=>exact zb (iE r1) fun v r2=>zb (JO ..) fun _ r3=>zb (iE r3) fun v r4=>zb (JO ..) fun _ r5=>zb (iE r5) fun b r6=>by simp only[PR.z,Kt,JN,JS]
    |none=>exact iV 1 r
  |level lv=>
   change pM (f+1) (.level lv) (r.map er)=_;rw[pM,pM,Ke,Ke,o0]
   by_cases h3:lv=3
   ·rw[if_pos h3,if_pos h3]
    cases acc 0 Qfn r with
    |some r1=>exact zb (iV 3 r1) fun a r2=>by simp only[PR.z,Kt,JN,JS]
    |none=>exact ih .cmp r
   rw[if_neg h3,if_neg h3]
   by_cases h7:lv=7
   ·rw[if_pos h7,if_pos h7]
    cases acc 3 [45] r with
    |some r1=>exact zb (iV 7 r1) fun a r2=>by simp only[PR.z,Kt,JN,JS]
    |none=>exact ih .prim r
   rw[if_neg h7,if_neg h7];exact zb (iV (lv+1) r) fun a r1=>iO lv _ a r1
  |loop lv o a=>
   change pM (f+1) (.loop lv 0 (zN a)) (r.map er)=_;rw[pM,pM,YY,Yd,show opK lv (er (hd r))=opK lv (hd r) from rfl]
   cases opK lv (hd r) with
   |none=>rfl
   |some k=>
    refine zb (iV (lv+1) r.tail) fun b r1=>?_
    have:=iO lv o (.mk k 0 [] o [a,b]) r1;rw[Kt,JN,JN,JS]at this;exact this
  |cmp=>
   change pM (f+1) .cmp (r.map er)=_;rw[pM,pM];refine zb (iV 5 r) fun a r1=>?_
   simp only[YY,Yd];rw[show QcS (er (hd r1))=QcS (hd r1) from rfl]
   cases QcS (hd r1) with
   |none=>rfl
   |some k=>exact zb (iV 5 r1.tail) fun b r2=>by simp only[PR.z,JjR]
  |prim=>
   change pM (f+1) .prim (r.map er)=_;rw[pM,pM,Ke,Ke,Ke,Ke,Ke,o0,YY,Yd]
   by_cases h1:(hd r).kind=1
   ·rw[if_pos h1,if_pos (show (er (hd r)).kind=1 from h1)];simp only[PR.z,Kt,JS];rfl
   rw[if_neg h1,if_neg (show ¬ (er (hd r)).kind=1 from h1)]
   cases acc 3 [40] r with
   |some r1=>
    refine zb (iE r1) fun n r2=>zb (JO ..) fun _ r3=>?_
    cases n
    simp only[PR.z,Kt,Nd.kind,Nd.num,Nd.name,Nd.kids]
   |none=>
    simp only[Option.map_none]
    cases acc 0 QbA r with
    |some r1=>simp only[Option.map_some,PR.z,Kt,JS]
    |none=>
     simp only[Option.map_none]
     cases acc 0 Qcf r with
     |some r1=>simp only[Option.map_some,PR.z,Kt,JS]
     |none=>
      simp only[Option.map_none]
      cases acc 0 QbW r with
      |some r1=>exact zb (Z0 r1) fun s r2=>by simp only[PR.z,Kt,JS,id]
      |none=>
       simp only[Option.map_none]
       cases acc 0 QcX r with
       |some r1=>exact zb (Z0 r1) fun s r2=>by simp only[PR.z,Kt,JS,id]
       |none=>
        simp only[Option.map_none]
        by_cases h2:(QaD (hd r).text).isSome/\(hd r).kind=0
        ·rw[if_pos h2,if_pos (show (QaD (er (hd r)).text).isSome/\(er (hd r)).kind=0 from h2)];simp only[PR.z,Kt,JS];rfl
        ·rw[if_neg h2,if_neg (show ¬ ((QaD (er (hd r)).text).isSome/\(er (hd r)).kind=0) from h2)];exact ih .named r
  |named=>
   change pM (f+1) .named (r.map er)=_;rw[pM,pM];refine zb (VN r) fun nm r1=>?_
   simp only[Ke]
   cases acc 3 [40] r1 with
   |none=>simp only[Option.map_none,PR.z,Kt,JS]
   |some r2=>
    simp only[Option.map_some,Ke]
    cases acc 3 [41] r2 with
    |some r3=>simp only[Option.map_some,PR.z,Kt,JS]
    |none=>
     have:=ih (.args nm.1 nm.2 []) r2;simp only[zMd,JS]at this;exact this
  |args nm o l=>
   change pM (f+1) (.args nm 0 (zL l)) (r.map er)=_;rw[pM,pM];refine zb (iE r) fun a r1=>?_
   simp only[Ke]
   cases acc 3 [44] r1 with
   |some r2=>
    have:=ih (.args nm o (l++[a])) r2;simp only[zMd,Jfv,JN,JS]at this;exact this
   |none=>exact zb (JO ..) fun _ r2=>by simp only[PR.z,Kt,Jfv,JN,JS]
def zP(p:List UInt8 × Int):List UInt8 × Int:=(p.1,0)
def zF(f:FnS):FnS:=⟨zP f.name,f.params.map zP,f.types,f.result,zN f.body⟩
def zC(c:ClS):ClS:=⟨zN c.cond,c.action,c.reason⟩
def zS(s:Src):Src:=⟨s.funcs.map zF,s.clauses.map zC,s.action⟩
theorem Jfw(r:List Tok):QcB (r.map er)=(QcB r).z id:=by
 unfold QcB;rw[Ke,Ke,YY]
 cases acc 0 Qgg r with
 |some r1=>rfl
 |none=>
  simp only[Option.map_none]
  cases acc 0 Qdk r<;>rfl
theorem Jfx(r:List Tok):Qcj (r.map er)=(Qcj r).z id:=by
 unfold Qcj;rw[Ke,Ke,Ke,Ke,YY]
 cases acc 0 Qcx r with
 |some r1=>rfl
 |none=>
  simp only[Option.map_none]
  cases acc 0 QbV r with
  |some r1=>rfl
  |none=>
   simp only[Option.map_none]
   cases acc 0 Qcg r with
   |some r1=>rfl
   |none=>
    simp only[Option.map_none]
    cases acc 0 Qdj r<;>rfl
theorem Z1:∀ (f:Nat) (ps:List (List UInt8 × Int)) (ts:List Int) (r:List Tok),Qak f (ps.map zP) ts (r.map er)=(Qak f ps ts r).z fun p=>(p.1.map zP,p.2)
 |0,ps,ts,r=>by rw[Qak,Qak];rfl
 |f+1,ps,ts,r=>by
  rw[Qak,Qak];refine zb (VN r) fun nm r1=>zb (JO ..) fun _ r2=>zb (Jfw r2) fun t r3=>?_
  simp only[Ke]
  cases acc 3 [44] r3 with
  |some r4=>
   have:=Z1 f (ps++[nm]) (ts++[t]) r4;rw[map_append]at this;exact this
  |none=>
   refine zb (JO ..) fun _ r4=>?_
   simp only[PR.z,map_append];rfl
theorem JjT(f:Nat)(r:List Tok):Qdb f (r.map er)=(Qdb f r).z zF:=by
 unfold Qdb;refine zb (VN r) fun nm r1=>zb (JO ..) fun _ r2=>zb (h:=fun p=>(p.1.map zP,p.2)) ?_ fun pt r3=>zb (JO ..) fun _ r4=>zb (Jfw r4) fun t r5=>zb (JO ..) fun _ r6=>zb (JjS f .expr r6) fun b r7=>rfl
 simp only[Ke]
 cases acc 3 [41] r2 with
 |some r3=>rfl
 |none=>exact Z1 f [] [] r2
theorem Jdw(g:Nat):∀ (f:Nat) (l:List FnS) (r:List Tok),Qbc g f (l.map zF) (r.map er)=(Qbc g f l r).z (List.map zF)
 |0,l,r=>by rw[Qbc,Qbc];rfl
 |f+1,l,r=>by
  rw[Qbc,Qbc,Ke]
  cases acc 0 QdX r with
  |some r1=>
   refine zb (JjT g r1) fun x r2=>?_
   have:=Jdw g f (l++[x]) r2;rw[map_append]at this;exact this
  |none=>rfl
theorem YZ(g:Nat):∀ (f:Nat) (l:List ClS) (r:List Tok),Qad g f (l.map zC) (r.map er)=(Qad g f l r).z (List.map zC)
 |0,l,r=>by rw[Qad,Qad];rfl
 |f+1,l,r=>by
  rw[Qad,Qad,Ke]
  cases acc 0 QaR r with
  |some r1=>
   refine zb (JjS g .expr r1) fun c r2=>zb (JO ..) fun _ r3=>zb (Jfx r3) fun a r4=>zb (Jdv r4) fun s r5=>?_
   have:=YZ g f (l++[⟨c,a,s⟩]) r5;rw[map_append]at this;exact this
  |none=>rfl
theorem JjU(f:Nat)(r:List Tok):QcO f (r.map er)=(QcO f r).z zS:=by
 unfold QcO;refine zb (Jdw f f [] r) fun fs r1=>zb (YZ f f [] r1) fun cs r2=>zb (JO ..) fun _ r3=>zb (Jfx r3) fun a r4=>?_
 simp only[YY];change (if (hd r4).kind=4 then _ else _)=_;split<;>rfl
open Go.ChangeShapes Go.WideShapes Go.ChangeAt Go.RowKit Go.Lib
inductive An where
 |mk (kind n:Int) (name:List UInt8) (off:Int) (blk cap:Nat) (kids:List An)
def An.kind:An->Int|.mk k _ _ _ _ _ _=>k
def An.num:An->Int|.mk _ n _ _ _ _ _=>n
def An.name:An->List UInt8|.mk _ _ s _ _ _ _=>s
def An.off:An->Int|.mk _ _ _ o _ _ _=>o
def An.blk:An->Nat|.mk _ _ _ _ b _ _=>b
def An.cap:An->Nat|.mk _ _ _ _ _ c _=>c
def An.kids:An->List An|.mk _ _ _ _ _ _ l=>l
def QaB(b c:Nat)(l:List An):Value:=if l=[] then .slice none 0 0 else .slice (some ⟨b,0,none⟩) l.length c
def Qaa:An->Array Value|.mk k n s o b c l=>#[.int .i64 k,.int .i64 n,.string (bs s),.int .i64 o,QaB b c l]
mutual
def An.nd:An->Nd
 |.mk k n s o _ _ l=>.mk k n s o (ndL l)
def ndL:List An->List Nd
 |[]=>[]
 |a::l=>a.nd::ndL l
end
mutual
def foot:An->List Nat
 |.mk _ _ _ _ b _ l=>match l with|[]=>[]|x::r=>b::(foot x++Qah r)
def Qah:List An->List Nat
 |[]=>[]
 |a::l=>foot a++Qah l
end
mutual
def An.At(W:World):An->Prop
 |.mk _ _ _ _ b _ l=>(l≠[]->∀ j,W.frozen? ⟨b,j,none⟩=false)/\AtL W b 0 l
def AtL(W:World)(b:Nat):Nat->List An->Prop
 |_,[]=>True
 |i,a::l=>(∀ j u,(Qaa a).toList[j]?=some u->W.cell? ⟨b,i*5+j,none⟩=some u)/\a.At W/\AtL W b (i+1) l
end
theorem J4(a:An):(Qaa a).size=5:=by cases a;rfl
mutual
theorem JJ{W W':World}:∀ (a:An),a.At W->(∀ b,b∈foot a->W'.heap[b]?=W.heap[b]?)->a.At W'
 |.mk k n s o b c l,h,hk=>by
  unfold An.At at *
  refine⟨fun hne j=>?_,Jau b l 0 h.2 (fun hne=>hk b (by
   unfold foot
   cases l with
   |nil=>exact absurd rfl hne
   |cons x r=>simp)) (fun q hq=>hk q (by
   unfold foot
   cases l with
   |nil=>simp[Qah]at hq
   |cons x r=>unfold Qah at hq;simp only[List.mem_cons];exact .inr hq))⟩
  have hb:W'.heap[b]?=W.heap[b]?:=hk b (by
   unfold foot
   cases l with
   |nil=>exact absurd rfl hne
   |cons x r=>simp)
  exact(World.frozen?_of_block (a:=⟨b,j,none⟩) hb).trans (h.1 hne j)
theorem Jau{W W':World}(b:Nat):∀ (l:List An) (i:Nat),AtL W b i l->(l≠[]->W'.heap[b]?=W.heap[b]?)->(∀ q,q∈Qah l->W'.heap[q]?=W.heap[q]?)->AtL W' b i l
 |[],_,_,_,_=>by unfold AtL;trivial
 |a::l,i,h,hb,hk=>by
  unfold AtL at *;refine⟨fun j u hu=>?_,JJ a h.2.1 fun q hq=>hk q (by unfold Qah;exact List.mem_append_left _ hq),Jau b l (i+1) h.2.2 (fun _=>hb (by simp)) fun q hq=>hk q (by unfold Qah;exact List.mem_append_right _ hq)⟩;exact(World.cell?_of_block (a:=⟨b,i*5+j,none⟩) (hb (by simp))).trans (h.1 j u hu)
end
def QbY(lo hi:Nat)(a:An):Prop:=(foot a).Nodup/\∀ b,b∈foot a->lo<=b/\b<hi
theorem Z2{S:List Nat}{W W':World}{lo hi:Nat}{a:An}(h:a.At W)(hm:QbY lo hi a)(hc:Chg S W W')(hh:hi<=W.heap.size)(hs:∀ b,b∈S->b<lo):a.At W':=
 JJ a h fun b hb=>hc.block b (by have:=(hm.2 b hb).2;omega) (fun hm'=>by have:=(hm.2 b hb).1;have:=hs b hm';omega)
theorem KU{W W':World}{lo hi:Nat}{a:An}(h:a.At W)(hm:QbY lo hi a)(hc:Below W.heap.size W W')(hh:hi<=W.heap.size):a.At W':=
 JJ a h fun b hb=>hc.block b (by have:=(hm.2 b hb).2;omega)
theorem QbY.mono{lo hi lo' hi':Nat}{a:An}(h:QbY lo hi a)(h1:lo'<=lo)(h2:hi<=hi'):QbY lo' hi' a:=⟨h.1,fun b hb=>⟨Nat.le_trans h1 (h.2 b hb).1,Nat.lt_of_lt_of_le (h.2 b hb).2 h2⟩⟩
def QcH(k n:Int)(s:List UInt8)(o:Int):An:=.mk k n s o 0 0 []
theorem Y0(k n:Int)(s:List UInt8)(o:Int)(lo hi:Nat):QbY lo hi (QcH k n s o):=⟨by simp[QcH,foot],by simp[QcH,foot]⟩
theorem Jcr(W:World)(k n:Int)(s:List UInt8)(o:Int):(QcH k n s o).At W:=by unfold QcH An.At AtL;exact⟨fun h=>absurd rfl h,trivial⟩
def Qdg(lo hi:Nat):List An->Prop
 |[]=>lo<=hi
 |a::l=>∃ m,lo<=m/\QbY lo m a/\Qdg m hi l
theorem Qdg.le{lo hi:Nat}:∀ {l:List An},Qdg lo hi l->lo<=hi
 |[],h=>h
 |a::l,⟨m,h1,_,h3⟩=>Nat.le_trans h1 h3.le
theorem Qdg.foot{lo hi:Nat}:∀ {l:List An},Qdg lo hi l->(Qah l).Nodup/\∀ b,b∈Qah l->lo<=b/\b<hi
 |[],h=>⟨by simp[Qah],by simp[Qah]⟩
 |a::l,⟨m,h1,h2,h3⟩=>by
  obtain⟨g1,g2⟩:=h3.foot;unfold Qah;refine⟨List.nodup_append.2 ⟨h2.1,g1,fun x hx y hy e=>?_⟩,fun b hb=>?_⟩
  ·subst e;have:=(h2.2 x hx).2;have:=(g2 x hy).1;omega
  ·rcases List.mem_append.1 hb with hb|hb
   ·have q1:=h2.2 b hb;have q2:=h3.le;exact⟨q1.1,by omega⟩
   ·have q1:=g2 b hb;exact⟨by omega,q1.2⟩
theorem JaZ{lo hi b:Nat}{l:List An}(h:Qdg lo hi l)(hb:hi<=b)(k n:Int)(s:List UInt8)(o:Int)(c:Nat):QbY lo (b+1) (.mk k n s o b c l):=by
 obtain⟨g1,g2⟩:=h.foot;have hl:=h.le
 cases l with
 |nil=>exact⟨by simp[foot],by simp[foot]⟩
 |cons x r=>
  unfold QbY foot;refine⟨List.nodup_cons.2 ⟨fun hm=>?_,g1⟩,fun q hq=>?_⟩
  ·have:=(g2 b hm).2;omega
  ·rcases List.mem_cons.1 hq with rfl|hq
   ·exact⟨by omega,by omega⟩
   ·have:=g2 q hq;exact⟨this.1,by omega⟩
def QcV(l:List An):List Value:=l.flatMap fun a=>(Qaa a).toList
theorem KI{W:World}{b:Nat}:∀ (l:List An) (i:Nat),(∀ j u,(QcV l)[j]?=some u->W.cell? ⟨b,i*5+j,none⟩=some u)->(∀ a,a∈l->a.At W)->AtL W b i l
 |[],_,_,_=>by unfold AtL;trivial
 |a::l,i,h,hk=>by
  have e:QcV (a::l)=(Qaa a).toList++QcV l:=rfl;have hl:(Qaa a).toList.length=5:=by rw[Array.length_toList,J4]
  unfold AtL;refine⟨fun j u hu=>h j u ?_,hk a (by simp),KI l (i+1) (fun j u hu=>?_) fun x hx=>hk x (List.mem_cons_of_mem _ hx)⟩
  ·rw[e,List.getElem?_append_left (List.getElem?_eq_some_iff.1 hu).1];exact hu
  ·have:=h (5+j) u (by rw[e,List.getElem?_append_right (by omega),hl,Nat.add_sub_cancel_left];exact hu);rw[show (i+1)*5+j=i*5+(5+j) by omega];exact this
def QcU(t:Tok):Array Value:=#[.int .i64 t.kind,.string (bs t.text),.int .i64 t.n,.int .i64 t.off]
structure PAt(W:World)(p:Nat)(A:Option Addr)(C:Nat)(T:List Tok)(k:Nat):Prop where
 self:W.heap[p]?=some (.cells #[.slice A T.length C,.int .i64 k] 81 (0,0))
 toks:∃ b o,A=some ⟨b,o,none⟩/\b≠p/\∀ i t,T[i]?=some t->∀ j u,(QcU t).toList[j]?=some u->W.cell? ⟨b,o+i*4+j,none⟩=some u
 lt:k<T.length
 fin:∀ i t,T[i]?=some t->(t.kind=4↔i+1=T.length)
 room:T.length<=1000000
theorem PAt.chg{W W':World}{p:Nat}{A:Option Addr}{C:Nat}{T:List Tok}{k:Nat}(h:PAt W p A C T k)(hc:Below W.heap.size W W'):PAt W' p A C T k:=by
 obtain⟨b,o,e,hne,ht⟩:=h.toks;exact⟨(hc.block p (Jb h.self)).trans h.self,⟨b,o,e,hne,fun i t hi j u hu=>(hc.cell (World.block_lt_of_cell? W _ (ht i t hi j u hu))).trans (ht i t hi j u hu)⟩,h.lt,h.fin,h.room⟩
theorem PAt.next{W:World}{p:Nat}{A:Option Addr}{C:Nat}{T:List Tok}{k k':Nat}(h:PAt W p A C T k)(hk:k'<T.length):PAt (W.setCell ⟨p,1,none⟩ (.int .i64 k')) p A C T k':=by
 obtain⟨b,o,e,hne,ht⟩:=h.toks;refine⟨?_,⟨b,o,e,hne,fun i t hi j u hu=>?_⟩,hk,h.fin,h.room⟩
 ·rw[J3 h.self];rfl
 ·rw[World.cell?_setCell_other _ _ _ _ (by intro e';first|exact hne (congrArg Addr.block e')|exact hne (congrArg Addr.block e').symm)];exact ht i t hi j u hu
theorem Jav{T:List Tok}{k:Nat}(h:k<T.length):T[k]?=some (hd (T.drop k)):=by
 rw[List.drop_eq_getElem_cons h];exact List.getElem?_eq_getElem h
theorem tail_drop{T:List Tok}{k:Nat}:(T.drop k).tail=T.drop (k+1):=by rw[List.tail_drop]
theorem PAt.more{W:World}{p:Nat}{A:Option Addr}{C:Nat}{T:List Tok}{k:Nat}(h:PAt W p A C T k)(hk:(hd (T.drop k)).kind≠4):k+1<T.length:=by
 have h1:=(h.fin k _ (Jav h.lt)).2;have:=h.lt;omega
def QeS(o:Int):Value:=.iface 77 (.agg #[.int .i64 2,.int .i64 o])
def Qjp(p:Nat)(w:World)(o:Int)(e:Ending)(w':World):Prop:=e=.panicked [{ v:=QeS o,recovered:=false }]/\Chg [p] w w'
theorem QiS:(prog.info? 46).map (·.size)=some 4:=by kernel_rfl
theorem Qaw:(prog.info? 103).map (·.size)=some 5:=by kernel_rfl
theorem QhS:(prog.info? 77).map (·.size)=some 2:=by kernel_rfl
theorem QlH{w:World}{T t:Nat}{a0 a1 a2 a3:Value}(v0 v1 v2 v3:Value)(h:w.heap[T]?=some (.cells #[a0,a1,a2,a3] t (0,0))) :
  ((((w.setCell ⟨T,0,none⟩ v0).setCell ⟨T,1,none⟩ v1).setCell ⟨T,2,none⟩ v2).setCell ⟨T,3,none⟩ v3).heap[T]?=some (.cells #[v0,v1,v2,v3] t (0,0)):=by
 exact Qmb
theorem Qlk{B:Nat}{w w1:World}{T:Nat}(v0 v1 v2 v3:Value)(h:Below B w w1)(hT:B<=T):Below B w ((((w1.setCell ⟨T,0,none⟩ v0).setCell ⟨T,1,none⟩ v1).setCell ⟨T,2,none⟩ v2).setCell ⟨T,3,none⟩ v3):=
 (((h.setCell hT v0).setCell hT v1).setCell hT v2).setCell hT v3
theorem PAt.cells{W:World}{p:Nat}{A:Option Addr}{C:Nat}{T:List Tok}{k:Nat}(h:PAt W p A C T k) :
  ∃ b o,A=some ⟨b,o,none⟩/\W.cell? ⟨p,0,none⟩=some (.slice A T.length C)/\W.cell? ⟨p,1,none⟩=some (.int .i64 k)/\
   W.cell? ⟨b,o+k*4,none⟩=some (.int .i64 (hd (T.drop k)).kind)/\W.cell? ⟨b,o+k*4+1,none⟩=some (.string (bs (hd (T.drop k)).text))/\
   W.cell? ⟨b,o+k*4+2,none⟩=some (.int .i64 (hd (T.drop k)).n)/\W.cell? ⟨b,o+k*4+3,none⟩=some (.int .i64 (hd (T.drop k)).off):=by
 obtain⟨b,o,e,hne,ht⟩:=h.toks;have g:=ht k _ (Jav h.lt);exact⟨b,o,e,by rw[Ja h.self];rfl,by rw[Ja h.self];rfl,g 0 _ rfl,g 1 _ rfl,g 2 _ rfl,g 3 _ rfl⟩
def Qgn(w:World)(t:Tok)(e:Ending)(w':World):Prop:=e=.returned (.agg (QcU t))/\Below w.heap.size w w'
theorem Ko(p:Nat)(A:Option Addr)(C:Nat)(T:List Tok)(k:Nat)(w:World)(h:PAt w p A C T k):Calls prog 71 #[.pointer (some ⟨p,0,none⟩)] w (Qgn w (hd (T.drop k))):=by
 have hZ:=zzw w (.cells #[.int .i64 0,.string ⟨#[]⟩,.int .i64 0,.int .i64 0] 46);have hB:=(Below.refl w.heap.size w).alloc zzl (.cells #[.int .i64 0,.string ⟨#[]⟩,.int .i64 0,.int .i64 0] 46);obtain⟨b,o,rfl,p0,p1,t0,t1,t2,t3⟩:=(h.chg hB).cells;have hlt:=h.lt;generalize hd (T.drop k)=t at *;generalize hn:T.length=n at *;have bk:(k:Int)<(n:Int):=by omega
 obtain⟨q0,q1,q2,q3⟩:(w.alloc (.cells #[.int .i64 0,.string ⟨#[]⟩,.int .i64 0,.int .i64 0] 46)).cell? ⟨w.heap.size,0,none⟩=some (.int .i64 0)/\(w.alloc (.cells #[.int .i64 0,.string ⟨#[]⟩,.int .i64 0,.int .i64 0] 46)).cell? ⟨w.heap.size,1,none⟩=some (.string ⟨#[]⟩)/\(w.alloc (.cells #[.int .i64 0,.string ⟨#[]⟩,.int .i64 0,.int .i64 0] 46)).cell? ⟨w.heap.size,2,none⟩=some (.int .i64 0)/\(w.alloc (.cells #[.int .i64 0,.string ⟨#[]⟩,.int .i64 0,.int .i64 0] 46)).cell? ⟨w.heap.size,3,none⟩=some (.int .i64 0):=by
  refine⟨?_,?_,?_,?_⟩<;>(rw[Ja hZ];rfl)
 have hf:=fun j=>Jc hZ j
 have f0:=hf 0;have f1:=hf 1;have f2:=hf 2;have f3:=hf 3;have HZ:=Zh hZ;have HB:=Zh hB;clear hZ hB hf h hn hlt;go_enter func71,ntmps71;go_wp2;go_region;go_wp2;refine bodyPost_ret (results_cell_row rfl _ _ w.heap.size 46 (QcU t) (0,0) _ rfl (zzw w _) underlying46 rfl QiS) rfl ⟨rfl,((Below.refl w.heap.size w).alloc zzl _).drew⟩
def QlP(p:Nat)(A:Option Addr)(C:Nat)(T:List Tok)(k:Nat)(kd:Int)(s:List UInt8)(w:World)(e:Ending)(w':World):Prop:=
 ((hd (T.drop k)).kind=kd/\(hd (T.drop k)).text=s/\e=.returned (.bool true)/\PAt w' p A C T (k+1)/\Chg [p] w w')\/
 (¬ ((hd (T.drop k)).kind=kd/\(hd (T.drop k)).text=s)/\e=.returned (.bool false)/\Below w.heap.size w w')
theorem Jr(p:Nat)(A:Option Addr)(C:Nat)(T:List Tok)(k:Nat)(kd:Int)(s:List UInt8)(w:World)(h:PAt w p A C T k)(h4:kd≠4):Calls prog 65 #[.pointer (some ⟨p,0,none⟩),.int .i64 kd,.string (bs s)] w (QlP p A C T k kd s w):=by
 have HP:=Zh h;have cp:=Ko p A C T k w h;have hm:Hid ((hd (T.drop k)).kind=kd->k+1<T.length):=fun e=>h.more (by rw[e];exact h4)
 have HAcc:Hid (QlP p A C T k kd s w=fun e w'=>((hd (T.drop k)).kind=kd/\(hd (T.drop k)).text=s/\e=.returned (.bool true)/\PAt w' p A C T (k+1)/\Chg [p] w w')\/
 (¬ ((hd (T.drop k)).kind=kd/\(hd (T.drop k)).text=s)/\e=.returned (.bool false)/\Below w.heap.size w w')):=rfl
 unfold Qgn at cp;generalize hd (T.drop k)=t at *;generalize QlP p A C T k kd s w=R at *;obtain⟨tk,tx,tn,tf⟩:=t;unfold QcU at cp;simp only at cp;have u1:=Jl tx;have u2:=Jl s;clear h h4;go_enter func65,ntmps65;go_wp2_with fail;refine cp.mono ?_;rintro e w1 ⟨rfl,hbx⟩;have hA:=hbx.alloc hbx.size (.cells #[.int .i64 tk,.string (bs tx),.int .i64 tn,.int .i64 tf] 46);have hP1:=HP.out.chg hA;have hN:=zzw w1 (.cells #[.int .i64 tk,.string (bs tx),.int .i64 tn,.int .i64 tf] 46);have hk:k<=1000000:=by have:=hP1.lt;have:=hP1.room;omega
 have wk:IntKind.i64.wrap ((k:Int)+1)=(k:Int)+1:=IntWalk.i64_in _ (by omega);have pc:=Ja hP1.self 1;have pf:=Jc hP1.self 1;have c0:(w1.alloc (.cells #[.int .i64 tk,.string (bs tx),.int .i64 tn,.int .i64 tf] 46)).cell? ⟨w1.heap.size,0,none⟩=some (.int .i64 tk):=by rw[Ja hN];rfl
 have c1:(w1.alloc (.cells #[.int .i64 tk,.string (bs tx),.int .i64 tn,.int .i64 tf] 46)).cell? ⟨w1.heap.size,1,none⟩=some (.string (bs tx)):=by rw[Ja hN];rfl
 simp only[ZD,ZE,ZF]at pc;have HA:=Zh hA;have HP1:=Zh hP1;clear hA hP1 hN hbx cp hk
 by_cases hkd:tk=kd
 ·subst hkd;have d1:(tk==tk)=true:=by simp
  by_cases hts:tx=s
  ·subst hts;have d2:(tx==tx)=true:=by simp
   have HF:Hid (PAt ((w1.alloc (.cells #[.int .i64 tk,.string (bs tx),.int .i64 tn,.int .i64 tf] 46)).setCell ⟨p,1,none⟩ (.int .i64 ((k+1:Nat):Int))) p A C T (k+1)):=HP1.out.next (hm.out rfl);go_wp2;rw[HAcc.out];exact .inl ⟨by first|trivial|rfl,by first|trivial|rfl,rfl,HF.out,(Chg.of_below HA.out [p]).setCell (.inl (by simp)) _⟩
  ·have d2:(tx==s)=false:=zzq hts;have HT:=Zh hts;clear hts;go_wp2;rw[HAcc.out];exact .inr ⟨fun h=>HT.out h.2,rfl,HA.out⟩
 ·have d1:(tk==kd)=false:=zzq hkd;have HT:=Zh hkd;clear hkd;go_wp2;rw[HAcc.out];exact .inr ⟨fun h=>HT.out h.1,rfl,HA.out⟩
def QkC(w:World)(o:Int)(e:Ending)(w':World):Prop:=e=.returned (.agg #[.int .i64 2,.int .i64 o])/\Below w.heap.size w w'
theorem KN(p:Nat)(A:Option Addr)(C:Nat)(T:List Tok)(k:Nat)(w:World)(h:PAt w p A C T k):Calls prog 72 #[.pointer (some ⟨p,0,none⟩)] w (QkC w (hd (T.drop k)).off):=by
 have hZ:=zzw w (.cells #[.int .i64 0,.int .i64 0] 77);have hB:=(Below.refl w.heap.size w).alloc zzl (.cells #[.int .i64 0,.int .i64 0] 77);have cp:=Ko p A C T k _ (h.chg hB);unfold Qgn at cp;generalize hd (T.drop k)=t at *;obtain⟨tk,tx,tn,tf⟩:=t;unfold QcU at cp;simp only at cp |-;have HZ:=Zh hZ;have HB:=Zh hB;have hfl:∀ W:World,(Instr.field 46 (.agg #[.int .i64 tk,.string (bs tx),.int .i64 tn,.int .i64 tf]) 3).run prog W=.ok (.int .i64 tf) W:=fun W=>by kernel_rfl
 clear hZ hB h;go_enter func72,ntmps72;go_wp2_with fail;refine cp.mono ?_;rintro e w1 ⟨rfl,hbx⟩;have hZ1:=(hbx.block _ (Jb HZ.out)).trans HZ.out;have c0:w1.cell? ⟨w.heap.size,0,none⟩=some (.int .i64 0):=by rw[Ja hZ1];rfl
 have c1:w1.cell? ⟨w.heap.size,1,none⟩=some (.int .i64 0):=by rw[Ja hZ1];rfl
 have f0:=Jc hZ1 0;have f1:=Jc hZ1 1;have H1:=Zh hZ1;have HB1:=Zh (HB.out.trans (hbx.mono HB.out.size));clear hZ1 hbx cp;go_wp2;refine bodyPost_ret (results_cell_row rfl _ _ w.heap.size 77 #[.int .i64 2,.int .i64 tf] (0,0) _ rfl (heap_setCell_same _ _ 1 _ _ _ (heap_setCell_same _ _ 0 _ _ _ H1.out)) underlying77 rfl QhS) rfl ⟨rfl,(HB1.out.setCell zzl _).setCell zzl _⟩
def Qfv(p:Nat)(A:Option Addr)(C:Nat)(T:List Tok)(k:Nat)(kd:Int)(s:List UInt8)(w:World)(e:Ending)(w':World):Prop:=
 ((hd (T.drop k)).kind=kd/\(hd (T.drop k)).text=s/\e=.returned (.tuple #[])/\PAt w' p A C T (k+1)/\Chg [p] w w')\/
 (¬ ((hd (T.drop k)).kind=kd/\(hd (T.drop k)).text=s)/\Qjp p w (hd (T.drop k)).off e w')
theorem Qmr{P:Prop}(h:P:=by
  have hp1:=HP.out.chg hb1;clear g1 ca HP hb1;go_wp2_with fail;refine(cw _ hp1).mono ?_;rintro e w2 ⟨rfl,hb2⟩;go_wp2;refine⟨rfl,?_⟩;rw[HR.out]
  exact .inr ⟨HF.out.1,rfl,Chg.of_below (HF.out.2.trans (hb2.mono HF.out.2.size)) [p]⟩):P:=h
theorem Qkd{P:Prop}(h:P:=by
  clear g1 g2 hp1 hc1 ca cw HP;go_wp2;go_end0;rw[HR.out]
  exact .inl ⟨HF.out.1.1,HF.out.1.2,rfl,HF.out.2⟩):P:=h
theorem JhG(p:Nat)(A:Option Addr)(C:Nat)(T:List Tok)(k:Nat)(s:List UInt8)(w:World)(h:PAt w p A C T k):Calls prog 68 #[.pointer (some ⟨p,0,none⟩),.string (bs s)] w (Qfv p A C T k 0 s w):=by
 have ca:=Jr p A C T k 0 s w h (by decide);have cw:=fun W hW=>KN p A C T k W hW
 have HP:=Zh h
 have HR:Hid (∀ e w',Qfv p A C T k 0 s w e w'=(((hd (T.drop k)).kind=0/\(hd (T.drop k)).text=s/\e=.returned (.tuple #[])/\PAt w' p A C T (k+1)/\Chg [p] w w')\/
 (¬ ((hd (T.drop k)).kind=0/\(hd (T.drop k)).text=s)/\Qjp p w (hd (T.drop k)).off e w'))):=fun _ _=>rfl
 generalize Qfv p A C T k 0 s w=R at *;clear h;go_enter func68,ntmps68;go_wp2_with fail;refine ca.mono ?_;rintro e w1 h1
 rcases h1 with⟨g1,g2,rfl,hp1,hc1⟩|⟨g1,rfl,hb1⟩
 ·have HF:Hid (((hd (T.drop k)).kind=0/\(hd (T.drop k)).text=s)/\PAt w1 p A C T (k+1)/\Chg [p] w w1):=⟨⟨g1,g2⟩,hp1,hc1⟩
  exact Qkd
 ·have HF:Hid (¬ ((hd (T.drop k)).kind=0/\(hd (T.drop k)).text=s)/\Below w.heap.size w w1):=⟨g1,hb1⟩
  exact Qmr
end Go.Proofs.YtdlkcjkjnehnkaaGreatDoor
