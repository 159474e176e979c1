import Derived.Test.YtdlkcjkjnehnkaaGreatDoorH35
open List(append_assoc cons_append mem_of_getElem? ne_nil_of_mem)
namespace Go.Proofs.YtdlkcjkjnehnkaaGreatDoor
open Go Go.ChangeShapes Go.WideShapes Go.ChangeAt Go.RowKit Go.Lib
open _root_.Go.Proofs.Tryz
set_option linter.all false
set_option maxRecDepth 100000
set_option maxHeartbeats 32000000
def tyN(t:Int):List UInt8:=if t=1 then Qdk else Qgg
theorem Vk{t:Int}(h:Qcb t=true)(w:World):Calls prog 30 #[.int .i64 t] w (Qcm (.string (bs (tyN t))) w):=by
 have:t=0\/t=1:=by unfold Qcb at h;simpa using h
 rcases this with rfl|rfl
 ·exact Z3 w
 ·exact Z4 w
theorem Vx{a:Int}(h:QeU a=true)(w:World):Calls prog 32 #[.int .i64 a] w (Qcm (.string (bs (QbQ a.toNat))) w):=by
 have:a=0\/a=1\/a=2\/a=3:=by unfold QeU at h;simp at h;omega
 rcases this with rfl|rfl|rfl|rfl
 ·exact Yn w
 ·exact Yo w
 ·exact Yp w
 ·exact Yq w
theorem JgP:∀ (l:List Int) (i:Nat) (t:Int),Qae (iPt i (l++[t]))=Qae (iPt i l)++([44,32]++([118]++(itoa ((i+l.length:Nat):Int)++([58,32]++tyN t))))
 |[],i,t=>by
  rw[List.nil_append,iPt,iPt,iPt];simp only[Qhe,Qht,Zq,Qhr,Qib,vn,Qjq,tyN];simp
 |u::l,i,t=>by
  rw[cons_append,iPt,iPt];simp only[Qhe,Qht,JgP l (i+1) t,List.length_cons,append_assoc];rw[show i+1+l.length=i+(l.length+1) by omega]
theorem JgQ(l:List Int)(t:Int):Qae (iP (l++[t]))=Qae (iP l)++((if l=[] then [] else [44,32])++([118]++(itoa (l.length:Int)++([58,32]++tyN t)))):=by
 cases l with
 |nil=>
  rw[List.nil_append,iP,iP,iPt,if_pos rfl];simp only[Qhe,Qht,Zq,Qhr,Qib,vn,Qjq,tyN];simp
 |cons u l=>
  rw[cons_append,iP,iP,if_neg (by simp)];simp only[Qhe,Qht,JgP l 1 t,List.length_cons,append_assoc];rw[show 1+l.length=l.length+1 by omega]
theorem JlW:∀ (l2 l1:List Int),(Qae (iP l1)).length<=(Qae (iP (l1++l2))).length
 |[],l1=>by rw[List.append_nil];exact Nat.le_refl _
 |a::l2,l1=>by
  have h:=JlW l2 (l1++[a]);rw[append_assoc,cons_append,List.nil_append]at h;refine Nat.le_trans ?_ h;rw[JgQ];simp
theorem JlX(fn:Int->List UInt8)(f:FnM):Qae (iF fn f)=([100,101,102,32]++(f.name++[40]))++(Qae (iP f.params)++([41,58,32]++(tyN f.result++([32,61,32]++(Qae (iX fn 0 f.body)++[10]))))):=by
 unfold iF;rw[ix0];simp only[Qhe,Qht,J5,Zq,Qhr,Qib,Qjq,tyN];simp[QdX]
theorem JmF(fn:Int->List UInt8)(c:ClM):Qae (iC fn c)=[119,104,101,110,32]++(Qae (iX fn 0 c.cond)++([32,116,104,101,110,32]++(QbQ c.action.toNat++([32,34]++(c.reason++[34,10]))))):=by
 unfold iC;rw[ix0];simp only[Qhe,Qht,J5,Zq,Qhr,Qlc,QkA];simp[QaR,QbJ]
theorem JcT(fn:Int->List UInt8):∀ (a b:List FnM),iFs fn (a++b)=iFs fn a++iFs fn b
 |[],b=>rfl
 |x::a,b=>by rw[cons_append,iFs,iFs,JcT fn a b,append_assoc]
theorem JcU(fn:Int->List UInt8):∀ (a b:List ClM),iCs fn (a++b)=iCs fn a++iCs fn b
 |[],b=>rfl
 |x::a,b=>by rw[cons_append,iCs,iCs,JcU fn a b,append_assoc]
theorem JiH(fn:Int->List UInt8){l:List FnM}{i:Nat}{f:FnM}(h:l[i]?=some f):Qae (iFs fn (l.take (i+1)))=Qae (iFs fn (l.take i))++Qae (iF fn f):=by
 rw[List.take_add_one,h,JcT,J5]
 congr 1
 change Qae (iF fn f++iFs fn [])=_;rw[iFs,List.append_nil]
theorem JiI(fn:Int->List UInt8){l:List ClM}{i:Nat}{f:ClM}(h:l[i]?=some f):Qae (iCs fn (l.take (i+1)))=Qae (iCs fn (l.take i))++Qae (iC fn f):=by
 rw[List.take_add_one,h,JcU,J5]
 congr 1
 change Qae (iC fn f++iCs fn [])=_;rw[iCs,List.append_nil]
theorem JlY(fn:Int->List UInt8)(l:List FnM)(i:Nat):(Qae (iFs fn (l.take i))).length<=(Qae (iFs fn l)).length:=by
 have h:=JcT fn (l.take i) (l.drop i);rw[List.take_append_drop]at h;rw[h,J5];simp
theorem JlZ(fn:Int->List UInt8)(l:List ClM)(i:Nat):(Qae (iCs fn (l.take i))).length<=(Qae (iCs fn l)).length:=by
 have h:=JcU fn (l.take i) (l.drop i);rw[List.take_append_drop]at h;rw[h,J5];simp
theorem JgR(r:Qaq):Qae (iR r)=Qae (iFs (fnF r) r.funcs)++(Qae (iCs (fnF r) r.clauses)++([100,101,102,97,117,108,116,32]++(QbQ r.action.toNat++[10]))):=by
 unfold iR;simp only[J5,Qhe,Qht,Zq,Qhr,QkA];simp[Qaj]
theorem JeL{l:List Int}{i:Nat}{a:Int}(h:l[i]?=some a):l.take (i+1)=l.take i++[a]:=by
 rw[List.take_add_one,h];rfl
theorem JgS{l:List Int}{i n:Nat}(h:l.length=n)(hi:i<n):(l.take i=[]↔i=0)/\(l.take i).length=i:=by
 have hl:(l.take i).length=i:=by rw[List.length_take,h];omega
 refine⟨⟨fun e=>?_,fun e=>by subst e;rfl⟩,hl⟩;rw[e]at hl;exact hl.symm
structure BxT(T:TypeId)(w1:World)(b eb:Nat)(cs:Array Value):Prop where
 heap:w1.heap[eb]?=some (.cells cs T (0,0))
 ne:eb≠b
 ty:T≠5
theorem BxT.row{T:TypeId}{w1 W:World}{b eb:Nat}{cs:Array Value}(h:BxT T w1 b eb cs)(ho:OthersKept 5 (some b) w1 W):W.heap[eb]?=some (.cells cs T (0,0)):=
 ho _ _ h.heap (fun e=>h.ne (Option.some.inj e)) (fun c fz e=>by injection e with _ e _;exact h.ty e)
theorem Qdt{W:World}{b t:Nat}{a0 a1 a2 a3 a4 a5 a6:Value}{fr:Nat × Nat}(h:W.heap[b]?=some (.cells #[a0,a1,a2,a3,a4,a5,a6] t fr)) :
  W.cell? ⟨b,0,none⟩=some a0/\W.cell? ⟨b,1,none⟩=some a1/\W.cell? ⟨b,2,none⟩=some a2/\W.cell? ⟨b,3,none⟩=some a3/\W.cell? ⟨b,4,none⟩=some a4/\W.cell? ⟨b,5,none⟩=some a5/\W.cell? ⟨b,6,none⟩=some a6:=by
 refine⟨?_,?_,?_,?_,?_,?_,?_⟩<;>(rw[Ja h];rfl)
theorem Qia{W:World}{b t:Nat}{a0 a1 a2 a3 a4 a5:Value}{fr:Nat × Nat}(h:W.heap[b]?=some (.cells #[a0,a1,a2,a3,a4,a5] t fr)) :
  W.cell? ⟨b,0,none⟩=some a0/\W.cell? ⟨b,1,none⟩=some a1/\W.cell? ⟨b,2,none⟩=some a2/\W.cell? ⟨b,3,none⟩=some a3/\W.cell? ⟨b,4,none⟩=some a4/\W.cell? ⟨b,5,none⟩=some a5:=by
 refine⟨?_,?_,?_,?_,?_,?_⟩<;>(rw[Ja h];rfl)
theorem Jma{w0:World}{fv:Value}{fs:List FnM}(h:QaI w0 (In w0) (FnX w0 (In w0)) fs fv):∃ ad cc,fv=.slice ad fs.length cc/\(fs≠[]->∃ fb fo,ad=some ⟨fb,fo,none⟩/\∀ i f,fs[i]?=some f->∃ pa pc xa xc,
  (f.params=[]\/∃ pb po,pa=some ⟨pb,po,none⟩/\∀ W,Bel w0 W->∀ j t,f.params[j]?=some t->W.cell? ⟨pb,po+j,none⟩=some (.int .i64 t))/\XAt w0 (In w0) f.body (Qdz f.body xa xc)/\
  ∀ W,Bel w0 W->W.cell? ⟨fb,fo+i*7,none⟩=some (.string (bs f.name))/\W.cell? ⟨fb,fo+i*7+1,none⟩=some (.slice pa f.params.length pc)/\W.cell? ⟨fb,fo+i*7+2,none⟩=some (.int .i64 f.result)/\W.cell? ⟨fb,fo+i*7+3,none⟩=some (.int .i64 f.body.kind)/\W.cell? ⟨fb,fo+i*7+4,none⟩=some (.int .i64 f.body.num)/\W.cell? ⟨fb,fo+i*7+5,none⟩=some (.string (bs f.body.name))/\W.cell? ⟨fb,fo+i*7+6,none⟩=some (.slice xa f.body.kids.length xc)):=by
 obtain⟨ad,cc,rfl,_,hk⟩:=h.get FnX.len;refine⟨ad,cc,rfl,fun hne=>?_⟩;obtain⟨fb,fo,rfl,hP,hk⟩:=hk hne;refine⟨fb,fo,rfl,fun i f hi=>?_⟩;obtain⟨c,hc,hcell⟩:=hk i f hi;obtain⟨v,d,hv,hd,rfl⟩:=hc;obtain⟨pa,pc,rfl,_,hv⟩:=hv;obtain⟨xa,xc,rfl,_⟩:=hd.form;have hm:∀ (W:World),Bel w0 W->∀ (p:Addr) (v:Value),p.block<w0.heap.size->w0.cell? p=some v->W.cell? p=some v:=fun W hW p v hp hc=>(World.cell?_of_block (w:=w0) (hW.block p.block hp)).trans hc
 refine⟨pa,pc,xa,xc,hv.imp id ?_,hd,fun W hW=>?_⟩
 ·rintro⟨pb,po,h1,h2,h3⟩;exact⟨pb,po,h1,fun W hW j t hj=>hm W hW _ _ h2 (h3 j t hj)⟩
 ·have g:∀ j u,([Value.string (bs f.name),.slice pa f.params.length pc,.int .i64 f.result]++#[Value.int .i64 f.body.kind,.int .i64 f.body.num,.string (bs f.body.name),.slice xa f.body.kids.length xc].toList)[j]?=some u->W.cell? ⟨fb,fo+i*7+j,none⟩=some u:=fun j u hj=>hm W hW _ _ hP (hcell j u hj)
  exact⟨g 0 _ rfl,g 1 _ rfl,g 2 _ rfl,g 3 _ rfl,g 4 _ rfl,g 5 _ rfl,g 6 _ rfl⟩
theorem JmG{w0:World}{cv:Value}{cs:List ClM}(h:QaI w0 (In w0) (ClX w0 (In w0)) cs cv):∃ ad cc,cv=.slice ad cs.length cc/\(cs≠[]->∃ fb fo,ad=some ⟨fb,fo,none⟩/\∀ i f,cs[i]?=some f->∃ xa xc,XAt w0 (In w0) f.cond (Qdz f.cond xa xc)/\
  ∀ W,Bel w0 W->Kd W fb (fo+i*6) f.cond xa xc/\W.cell? ⟨fb,fo+i*6+4,none⟩=some (.int .i64 f.action)/\W.cell? ⟨fb,fo+i*6+5,none⟩=some (.string (bs f.reason))):=by
 obtain⟨ad,cc,rfl,_,hk⟩:=h.get ClX.len;refine⟨ad,cc,rfl,fun hne=>?_⟩;obtain⟨fb,fo,rfl,hP,hk⟩:=hk hne;refine⟨fb,fo,rfl,fun i f hi=>?_⟩;obtain⟨c,hc,hcell⟩:=hk i f hi;obtain⟨d,hd,rfl⟩:=hc;obtain⟨xa,xc,rfl,_⟩:=hd.form;refine⟨xa,xc,hd,fun W hW=>?_⟩;have hm:∀ (p:Addr) (v:Value),p.block<w0.heap.size->w0.cell? p=some v->W.cell? p=some v:=fun p v hp hc=>(World.cell?_of_block (w:=w0) (hW.block p.block hp)).trans hc
 have g:∀ j u,(#[Value.int .i64 f.cond.kind,.int .i64 f.cond.num,.string (bs f.cond.name),.slice xa f.cond.kids.length xc].toList++[.int .i64 f.action,.string (bs f.reason)])[j]?=some u->W.cell? ⟨fb,fo+i*6+j,none⟩=some u:=fun j u hj=>hm _ _ hP (hcell j u hj)
 exact⟨⟨g 0 _ rfl,g 1 _ rfl,g 2 _ rfl,g 3 _ rfl⟩,g 4 _ rfl,g 5 _ rfl⟩
theorem JkM{w0:World}{r:Qaq}{fv cv:Value}{k:Int}(hx:QaZ w0 (In w0) r #[fv,cv,.int .i64 k])(hz:RSz r)(hL:Laid w0)(b:Nat)(e:Exp)(nv m:Nat)(he:Qbi r.pa nv m e=true)(hb:nv+m<=big):QbC w0 b fv (fnF r) e:=by
 obtain⟨fv',cv',heq,hF,_⟩:=hx;obtain rfl:fv=fv':=by injection heq with heq;injection heq
 obtain⟨ad,cc,hfv,hne⟩:=Jma hF;have hpa:r.pa.length=r.funcs.length:=by simp[Qaq.pa]
 have hpl:∀ i,r.pa.getD i 0<=1000000:=by
  intro i;unfold Qaq.pa;rw[List.getD_eq_getElem?_getD,List.getElem?_map]
  cases hf:r.funcs[i]? with
  |none=>simp
  |some f=>simpa using (hz.fn f (mem_of_getElem? hf)).2.1
 refine Ka ?_ (Qdi he)
 by_cases h0:r.funcs=[]
 ·exact Kc (nf:=r.funcs.length) (fb:=0) (fo:=0) (fl:=0) (fc:=0) (fun h=>absurd (by rw[h0];rfl) h) hL hpa hpl e nv m he hb
 ·obtain⟨fb,fo,rfl,hi⟩:=hne h0;refine Kc (nf:=r.funcs.length) (fb:=fb) (fo:=fo) (fl:=r.funcs.length) (fc:=cc) (fun _=>⟨hfv,rfl,fun j hj W hW=>?_⟩) hL hpa hpl e nv m he hb;have hg:=List.getElem?_eq_getElem hj;obtain⟨pa,pc,xa,xc,_,_,h3⟩:=hi j _ hg
  have e1:fnF r (j:Int)=(r.funcs[j]'hj).name:=by
   unfold fnF;rw[List.getD_eq_getElem?_getD,List.getElem?_map,Int.toNat_natCast,hg];rfl
  rw[e1];exact(h3 W hW).1
mutual
def eqE:Exp->Exp->Bool
 |.mk k n s l,.mk k' n' s' l'=>decide (k=k')&&(decide (n=n')&&(decide (s=s')&&eqX l l'))
def eqX:List Exp->List Exp->Bool
 |[],[]=>true
 |a::l,b::m=>eqE a b&&eqX l m
 |[],_::_=>false
 |_::_,[]=>false
end
mutual
theorem JcV:∀ (a b:Exp),eqE a b=true↔a=b
 |.mk k n s l,.mk k' n' s' l'=>by
  rw[eqE];simp only[Bool.and_eq_true,decide_eq_true_eq,JgT l l',Exp.mk.injEq]
theorem JgT:∀ (a b:List Exp),eqX a b=true↔a=b
 |[],[]=>by rw[eqX];simp
 |a::l,b::m=>by
  rw[eqX];simp only[Bool.and_eq_true,JcV a b,JgT l m,List.cons.injEq]
 |[],b::m=>by rw[eqX];simp
 |a::l,[]=>by rw[eqX];simp
end
def QcT{α:Type}(eq:α->α->Bool):List α->List α->Bool
 |[],[]=>true
 |a::l,b::m=>eq a b&&QcT eq l m
 |[],_::_=>false
 |_::_,[]=>false
theorem YK{α:Type}{eq:α->α->Bool}(h:∀ a b,eq a b=true↔a=b):∀ (a b:List α),QcT eq a b=true↔a=b
 |[],[]=>by simp[QcT]
 |a::l,b::m=>by simp[QcT,h,YK h l m]
 |[],b::m=>by simp[QcT]
 |a::l,[]=>by simp[QcT]
theorem JcW:∀ (a b:List Exp),eqX a b=QcT eqE a b
 |[],[]=>by rw[eqX];rfl
 |a::l,b::m=>by rw[eqX,JcW l m];rfl
 |[],b::m=>by rw[eqX];rfl
 |a::l,[]=>by rw[eqX];rfl
theorem Vt{α:Type}{eq:α->α->Bool}:∀ {a b:List α},a.length≠b.length->QcT eq a b=false
 |[],[],h=>absurd rfl h
 |a::l,b::m,h=>by
  unfold QcT;rw[Vt (a:=l) (b:=m) (fun e=>h (by simp[e])),Bool.and_false]
 |[],b::m,_=>rfl
 |a::l,[],_=>rfl
theorem Vu{α:Type}{eq:α->α->Bool}:∀ {a b:List α} {i:Nat} {x y:α},a[i]?=some x->b[i]?=some y->eq x y=false->QcT eq a b=false
 |[],_,i,x,y,h,_,_=>by simp at h
 |_::_,[],i,x,y,_,h,_=>by simp at h
 |a::l,b::m,0,x,y,h1,h2,h3=>by
  simp at h1 h2;subst h1 h2;unfold QcT;rw[h3,Bool.false_and]
 |a::l,b::m,i+1,x,y,h1,h2,h3=>by
  unfold QcT;rw[Vu (a:=l) (b:=m) (i:=i) (by simpa using h1) (by simpa using h2) h3,Bool.and_false]
theorem Zv{α:Type}{eq:α->α->Bool}:∀ {a b:List α},a.length=b.length->(∀ (i:Nat) (x y:α),a[i]?=some x->b[i]?=some y->eq x y=true)->QcT eq a b=true
 |[],[],_,_=>rfl
 |a::l,b::m,h,hx=>by
  unfold QcT;rw[hx 0 a b rfl rfl,Zv (a:=l) (b:=m) (by simpa using h) (fun i x y h1 h2=>hx (i+1) x y (by simpa using h1) (by simpa using h2))];rfl
 |[],b::m,h,_=>by simp at h
 |a::l,[],h,_=>by simp at h
def Qec{α:Type}(w0:World)(m:Nat)(R:α->List Value->Prop)(l:List α)(ad:Option Addr):Prop:=l≠[]->∃ b o,ad=some ⟨b,o,none⟩/\∀ i e,l[i]?=some e->∃ c,R e c/\∀ W,Bel w0 W->∀ j u,c[j]?=some u->W.cell? ⟨b,o+i*m+j,none⟩=some u
theorem Qec.of{α:Type}{w0:World}{m:Nat}{R:α->List Value->Prop}(hR:∀ a c,R a c->c.length=m){l:List α}{v:Value}(h:QaI w0 (In w0) R l v):∃ ad cc,v=.slice ad l.length cc/\Qec w0 m R l ad:=by
 obtain⟨ad,cc,rfl,_,hk⟩:=h.get hR;refine⟨ad,cc,rfl,fun hne=>?_⟩;obtain⟨b,o,h1,h2,h3⟩:=hk hne;refine⟨b,o,h1,fun i e hi=>?_⟩;obtain⟨c,g1,g2⟩:=h3 i e hi;exact⟨c,g1,fun W hW j u hj=>(World.cell?_of_block (w:=w0) (hW.block b h2)).trans (g2 j u hj)⟩
def QdC(w0:World)(e:Exp)(c:List Value):Prop:=XAt w0 (In w0) e c.toArray
theorem Qec.kids{w0:World}{k n:Int}{s:List UInt8}{l:List Exp}{c:Array Value}(hx:XAt w0 (In w0) (.mk k n s l) c):∃ ad cc,c=#[.int .i64 k,.int .i64 n,.string (bs s),.slice ad l.length cc]/\Qec w0 4 (QdC w0) l ad:=by
 obtain⟨ad,cc,rfl,_,hk⟩:=hx.kid;refine⟨ad,cc,rfl,fun hne=>?_⟩;obtain⟨b,o,h1,h2,h3⟩:=hk hne;refine⟨b,o,h1,fun i e hi=>?_⟩;obtain⟨d,g1,g2⟩:=h3 i e hi;exact⟨d.toList,by unfold QdC;exact g1,fun W hW j u hj=>(World.cell?_of_block (w:=w0) (hW.block b h2)).trans (g2 j u (by simpa using hj))⟩
theorem QdC.form{w0:World}{e:Exp}{c:List Value}(h:QdC w0 e c):∃ xa xc,c=[.int .i64 e.kind,.int .i64 e.num,.string (bs e.name),.slice xa e.kids.length xc]:=by
 unfold QdC at h;obtain⟨xa,xc,h1,_⟩:=h.form;exact⟨xa,xc,by have h2:=congrArg Array.toList h1;simpa using h2⟩
theorem FnX.form{w0:World}{f:FnM}{c:List Value}(h:FnX w0 (In w0) f c):∃ pa pc xa xc,c=[.string (bs f.name),.slice pa f.params.length pc,.int .i64 f.result,.int .i64 f.body.kind,.int .i64 f.body.num,.string (bs f.body.name),.slice xa f.body.kids.length xc]/\QbF w0 (In w0) f.params (.slice pa f.params.length pc)/\QdC w0 f.body [.int .i64 f.body.kind,.int .i64 f.body.num,.string (bs f.body.name),.slice xa f.body.kids.length xc]:=by
 obtain⟨v,d,hv,hd,rfl⟩:=h;have hv':=hv;obtain⟨pa,pc,rfl,_,_⟩:=hv;obtain⟨xa,xc,rfl,_⟩:=hd.form;exact⟨pa,pc,xa,xc,rfl,hv',hd⟩
theorem ClX.form{w0:World}{f:ClM}{c:List Value}(h:ClX w0 (In w0) f c):∃ xa xc,c=[.int .i64 f.cond.kind,.int .i64 f.cond.num,.string (bs f.cond.name),.slice xa f.cond.kids.length xc,.int .i64 f.action,.string (bs f.reason)]/\QdC w0 f.cond [.int .i64 f.cond.kind,.int .i64 f.cond.num,.string (bs f.cond.name),.slice xa f.cond.kids.length xc]:=by
 obtain⟨d,hd,rfl⟩:=h;obtain⟨xa,xc,rfl,_⟩:=hd.form;exact⟨xa,xc,rfl,hd⟩
theorem QkY{P:Prop}(h:P:=by
  have diN:decide (i<n)=false:=decide_eq_false hi;have hqf:q=true:=by rw[<- HQ.out];exact Zv (by rw[HN.out,HN2.out]) (fun j x y h1 h2=>HALL.out j x y (by have:=(List.getElem?_eq_some_iff.1 h1).1;rw[HN.out]at this;omega) h1 h2)
  subst hqf;clear hi hg;go_wp2;go_ret
  exact⟨rfl,HBW.out⟩):P:=h
theorem QlD{P:Prop}(h:P:=by
  refine Zh fun j x' y' hj hx hy=>?_
  by_cases e:j=i
  ·subst e;rw[HX.out]at hx;rw[HY.out]at hy;rw[<- Option.some.inj hx,<- Option.some.inj hy];exact HZ.out
  ·exact HALL.out j x' y' (by omega) hx hy):P:=h
theorem QlA{P:Prop}(h:P:=by
  clear HALL HX HY HZ;go_wp2;go_roundg (n-(i+1))
  case measure=>have:=HG.out;omega
  case rel=>exact⟨i+1,by have:=HG.out;omega,rfl,HB5.out,HALL2.out⟩):P:=h
theorem Qly{P:Prop}(h:P:=by
  have hqf:q=false:=by rw[<- HQ.out];exact Vu HX.out HY.out HZ.out
  subst hqf;go_wp2;go_ret
  exact⟨rfl,HB5.out⟩):P:=h
theorem JeM{w0:World}{l1 l2:List Exp}{ad1 ad2:Option Addr}{c1 c2:Nat}(g1:Qec w0 4 (QdC w0) l1 ad1)(g2:Qec w0 4 (QdC w0) l2 ad2)(hl:l1.length<=1000000)(hel:∀ x∈l1,∀ y∈l2,∀ d1 d2 W,(QdC w0) x d1->(QdC w0) y d2->Bel w0 W->Calls prog 45 #[.agg d1.toArray,.agg d2.toArray] W (Qck W (.bool (eqE x y))))(W:World)(hb:Bel w0 W) :
  Calls prog 79 #[.slice ad1 l1.length c1,.slice ad2 l2.length c2,.func (.func 45) #[] #[]] W (Qck W (.bool (QcT eqE l1 l2))):=by
 obtain⟨n,hn⟩:∃ n,l1.length=n:=⟨_,rfl⟩
 obtain⟨n2,hn2⟩:∃ n2,l2.length=n2:=⟨_,rfl⟩
 obtain⟨q,hq⟩:∃ q,QcT eqE l1 l2=q:=⟨_,rfl⟩
 rw[hn,hn2,hq];rw[hn]at hl;have HQ:=Zh hq;have HN:=Zh hn;have HN2:=Zh hn2;have HG1:=Zh g1;have HG2:=Zh g2;have HEL:=Zh hel;have HL:=Zh hl;have HB:=Zh hb;clear hq hn hn2 g1 g2 hel hl hb
 by_cases hne:n=n2
 rotate_left
 ·have t1:((n:Int) !=(n2:Int))=true:=by rw[bne,zzq (by omega)];rfl
  have hqf:q=false:=by rw[<- HQ.out];exact Vt (by rw[HN.out,HN2.out];exact hne)
  subst hqf;clear hne;go_enter func79,ntmps79;go_wp2;go_ret;exact⟨rfl,Below.refl _ _⟩
 subst hne;have HW0:Hid (Bel W W):=Below.refl _ _;go_enter func79,ntmps79;go_wp2_with fail;go_loopg [17] n (fun g v17 wr=>∃ i:Nat,g+i=n/\v17=.int .i64 (i:Int)/\Hid (Bel W wr/\∀ j x y,j<i->l1[j]?=some x->l2[j]?=some y->eqE x y=true))
 case atStart=>exact⟨0,rfl,rfl,HW0.out,fun j x y h=>absurd h (Nat.not_lt_zero _)⟩
 case round=>
  clear HW0;obtain⟨wl,rfl⟩:∃ wl:World,wl=wr:=⟨_,rfl⟩
  obtain⟨i,hg,rfl,hws⟩:=hrel;have HBW:Hid (Bel W wl):=hws.out.1;have HALL:=Zh hws.out.2;clear hws
  by_cases hi:i<n
  ·have dil:decide ((i:Int)<(n:Int))=true:=decide_eq_true (by omega);have diN:decide (i<n)=true:=decide_eq_true hi;have k0:0<=(i:Int):=by omega
   have k1:(i:Int)<(n:Int):=by omega
   have wk:IntKind.i64.wrap ((i:Int)+1)=((i+1:Nat):Int):=by have:=HL.out;rw[IntWalk.i64_in _ (by omega)];omega
   obtain⟨x,hx⟩:∃ x,l1[i]?=some x:=⟨_,List.getElem?_eq_getElem (by rw[HN.out];exact hi)⟩
   obtain⟨y,hy⟩:∃ y,l2[i]?=some y:=⟨_,List.getElem?_eq_getElem (by rw[HN2.out];exact hi)⟩
   obtain⟨b1,o1,ha1,hk1⟩:=HG1.out (ne_nil_of_mem (mem_of_getElem? hx));obtain⟨b2,o2,ha2,hk2⟩:=HG2.out (ne_nil_of_mem (mem_of_getElem? hy));subst ha1;subst ha2;obtain⟨d1,hr1,hc1⟩:=hk1 i x hx;obtain⟨d2,hr2,hc2⟩:=hk2 i y hy;have hr1f:=hr1;have hr2f:=hr2;obtain⟨xa,xc,rfl⟩:=hr1.form;obtain⟨xa2,xc2,rfl⟩:=hr2.form;have p0:=hc1 wl (Jd HB.out HBW.out) 0 _ rfl;have p1:=hc1 wl (Jd HB.out HBW.out) 1 _ rfl;have p2:=hc1 wl (Jd HB.out HBW.out) 2 _ rfl;have p3:=hc1 wl (Jd HB.out HBW.out) 3 _ rfl;have hB:Below wl.heap.size wl (wl.alloc (.cells #[.int .i64 x.kind,.int .i64 x.num,.string (bs x.name),.slice xa x.kids.length xc] 30)):=zzb.alloc zzl _;have hB2:Bel w0 (wl.alloc (.cells #[.int .i64 x.kind,.int .i64 x.num,.string (bs x.name),.slice xa x.kids.length xc] 30)):=Jd (Jd HB.out HBW.out) hB;have r0:=hc2 (wl.alloc (.cells #[.int .i64 x.kind,.int .i64 x.num,.string (bs x.name),.slice xa x.kids.length xc] 30)) hB2 0 _ rfl;have r1:=hc2 (wl.alloc (.cells #[.int .i64 x.kind,.int .i64 x.num,.string (bs x.name),.slice xa x.kids.length xc] 30)) hB2 1 _ rfl;have r2:=hc2 (wl.alloc (.cells #[.int .i64 x.kind,.int .i64 x.num,.string (bs x.name),.slice xa x.kids.length xc] 30)) hB2 2 _ rfl;have r3:=hc2 (wl.alloc (.cells #[.int .i64 x.kind,.int .i64 x.num,.string (bs x.name),.slice xa x.kids.length xc] 30)) hB2 3 _ rfl;simp only[Nat.add_zero]at p0 r0;have hB3:Bel wl ((wl.alloc (.cells #[.int .i64 x.kind,.int .i64 x.num,.string (bs x.name),.slice xa x.kids.length xc] 30)).alloc (.cells #[.int .i64 y.kind,.int .i64 y.num,.string (bs y.name),.slice xa2 y.kids.length xc2] 30)):=hB.alloc (by simp) _;have ce:=HEL.out x (mem_of_getElem? hx) y (mem_of_getElem? hy) _ _ ((wl.alloc (.cells #[.int .i64 x.kind,.int .i64 x.num,.string (bs x.name),.slice xa x.kids.length xc] 30)).alloc (.cells #[.int .i64 y.kind,.int .i64 y.num,.string (bs y.name),.slice xa2 y.kids.length xc2] 30)) hr1f hr2f (Jd (Jd HB.out HBW.out) hB3);obtain⟨z,hz⟩:∃ z,eqE x y=z:=⟨_,rfl⟩
   rw[hz]at ce;have HX:=Zh hx;have HY:=Zh hy;have HZ:=Zh hz;have HB3:=Zh hB3;have HG:Hid (gk+i=n/\i<n):=⟨hg,hi⟩
   clear hx hy hk1 hk2 hr1 hr2 hc1 hc2 hr1f hr2f hB hB2 hB3 hz hg hi;go_wp2_with fail;refine ce.mono ?_;rintro e w5 ⟨rfl,hb5⟩;have HB5:=Zh (Jd HBW.out (Jd HB3.out hb5));clear ce hb5 p0 r0 p1 r1 p2 r2 p3 r3
   cases z with
   |false=>
    exact Qly
   |true=>
    have HALL2:Hid (∀ j x y,j<i+1->l1[j]?=some x->l2[j]?=some y->eqE x y=true):=by
     exact QlD
    exact QlA
  ·have dil:decide ((i:Int)<(n:Int))=false:=decide_eq_false (by omega);exact QkY
theorem JcX:∀ l:List Exp,l.length<=Qbq (utL l)
 |[]=>Nat.zero_le _
 |a::l=>by
  have h:=JcX l;have h1:1<=siz (utN a):=by cases a;rw[utN,JG];omega
  rw[utL,Ju,List.length_cons];omega
theorem JcY:∀ {l:List Exp} {a:Exp},a∈l->siz (utN a)<=Qbq (utL l)
 |x::l,a,h=>by
  rw[utL,Ju]
  rcases List.mem_cons.1 h with rfl|h
  ·omega
  ·have:=JcY h;omega
theorem K8(w:World)(o0 o1:Obj):Below w.heap.size w ((w.alloc o0).alloc o1):=(zzb.alloc zzl _).alloc (by simp) _
theorem Qjl{P:Prop}(h:P:=by
  go_enter func45,ntmps45;go_wp2;go_ret
  exact⟨rfl,K8 _ _ _⟩):P:=h
theorem Qkl{P:Prop}(h:P:=by
  have:=List.sizeOf_lt_of_mem hx;simp only[Exp.mk.sizeOf_spec]
  omega):P:=h
theorem Zw{w0:World}:∀ (x y:Exp) (d1 d2:List Value) (W:World),siz (utN x)<=1000000->QdC w0 x d1->QdC w0 y d2->Bel w0 W->Calls prog 45 #[.agg d1.toArray,.agg d2.toArray] W (Qck W (.bool (eqE x y)))
 |.mk k n s l,.mk k' n' s' l',d1,d2,W,hs,h1,h2,hb=>by
  obtain⟨a1,c1,e1,g1⟩:=Qec.kids h1;obtain⟨a2,c2,e2,g2⟩:=Qec.kids h2;rw[e1,e2];have u1:=Jl s;have u2:=Jl s';have hsl:Qbq (utL l)<=1000000:=by rw[utN,JG]at hs;omega
  have hel:∀ x∈l,∀ y∈l',∀ d1 d2 W,QdC w0 x d1->QdC w0 y d2->Bel w0 W->Calls prog 45 #[.agg d1.toArray,.agg d2.toArray] W (Qck W (.bool (eqE x y))):=
   fun x hx y hy d1 d2 W h1 h2 hb=>Zw x y d1 d2 W (Nat.le_trans (JcY hx) hsl) h1 h2 hb
  by_cases e3:k=k'
  ·subst e3
   by_cases e4:n=n'
   ·subst e4
    by_cases e5:s=s'
    ·subst e5;have cf:=JeM (c1:=c1) (c2:=c2) g1 g2 (Nat.le_trans (JcX l) hsl) hel ((W.alloc (.cells #[.int .i64 k,.int .i64 n,.string (bs s),.slice a1 l.length c1] 30)).alloc (.cells #[.int .i64 k,.int .i64 n,.string (bs s),.slice a2 l'.length c2] 30)) (Jd hb (K8 _ _ _));have eq:eqE (.mk k n s l) (.mk k n s l')=QcT eqE l l':=by rw[eqE,JcW];simp
     rw[eq];clear e1 e2 g1 g2 hel hs h1 h2 hsl eq;go_enter func45,ntmps45;go_wp2_with fail;refine cf.mono ?_;rintro e w5 ⟨rfl,hb5⟩;clear cf;go_wp2;go_ret;exact⟨rfl,Jd (show Bel W _ from K8 _ _ _) hb5⟩
    ·have qs:(s==s')=false:=zzq e5;have qd:decide (s=s')=false:=decide_eq_false e5;have eq:eqE (.mk k n s l) (.mk k n s' l')=false:=by rw[eqE,qd];simp
     rw[eq];clear e1 e2 g1 g2 hel hs h1 h2 hsl eq e5;exact Qjl
   ·have qn:(n==n')=false:=zzq e4;have eq:eqE (.mk k n s l) (.mk k n' s' l')=false:=by rw[eqE,decide_eq_false e4];simp
    rw[eq];clear e1 e2 g1 g2 hel hs h1 h2 hsl eq e4;exact Qjl
  ·have qk:(k==k')=false:=zzq e3;have eq:eqE (.mk k n s l) (.mk k' n' s' l')=false:=by rw[eqE,decide_eq_false e3];simp
   rw[eq];clear e1 e2 g1 g2 hel hs h1 h2 hsl eq e3;exact Qjl
termination_by x=>SizeOf.sizeOf x
decreasing_by
 exact Qkl
def eqI(a b:Int):Bool:=decide (a=b)
def eqF(f g:FnM):Bool:=decide (f.name=g.name)&&(QcT eqI f.params g.params&&(decide (f.result=g.result)&&eqE f.body g.body))
def eqC(f g:ClM):Bool:=eqE f.cond g.cond&&(decide (f.action=g.action)&&decide (f.reason=g.reason))
theorem JgU(a b:Int):eqI a b=true↔a=b:=by unfold eqI;simp
theorem JkN(f g:FnM):eqF f g=true↔f=g:=by
 unfold eqF;obtain⟨a,b,c,d⟩:=f;obtain⟨a',b',c',d'⟩:=g;simp only[Bool.and_eq_true,decide_eq_true_eq,YK JgU,JcV,FnM.mk.injEq]
theorem JkO(f g:ClM):eqC f g=true↔f=g:=by
 unfold eqC;obtain⟨a,b,c⟩:=f;obtain⟨a',b',c'⟩:=g;simp only[Bool.and_eq_true,decide_eq_true_eq,JcV,ClM.mk.injEq]
def eqR(a b:Qaq):Bool:=decide (a.action=b.action)&&(QcT eqF a.funcs b.funcs&&QcT eqC a.clauses b.clauses)
theorem JcZ(a b:Qaq):eqR a b=true↔a=b:=by
 unfold eqR;obtain⟨x,y,z⟩:=a;obtain⟨x',y',z'⟩:=b;simp only[Bool.and_eq_true,decide_eq_true_eq,YK JkN,YK JkO,Qaq.mk.injEq]
 constructor
 ·rintro⟨h1,h2,h3⟩;exact⟨h2,h3,h1⟩
 ·rintro⟨h1,h2,h3⟩;exact⟨h3,h1,h2⟩
theorem Qmj{P:Prop}(h:P:=by
  refine Zh fun hne=>?_
  rcases h with h|⟨b,o,h1,h2,h3⟩
  ·exact absurd h hne
  ·exact⟨b,o,h1,fun i t hi W hW=>(World.cell?_of_block (w:=w0) (hW.block b h2)).trans (h3 i t hi)⟩):P:=h
theorem JeN{w0:World}{l1 l2:List Int}{ad1 ad2:Option Addr}{c1 c2:Nat}(g1:QbF w0 (In w0) l1 (.slice ad1 l1.length c1))(g2:QbF w0 (In w0) l2 (.slice ad2 l2.length c2))(hl:l1.length<=1000000)(W:World)(hb:Bel w0 W) :
  Calls prog 44 #[.slice ad1 l1.length c1,.slice ad2 l2.length c2] W (Qck W (.bool (QcT eqI l1 l2))):=by
 have HG1:Hid (l1≠[]->∃ b o,ad1=some ⟨b,o,none⟩/\∀ i t,l1[i]?=some t->∀ W,Bel w0 W->W.cell? ⟨b,o+i,none⟩=some (.int .i64 t)):=by
  obtain⟨ad,cc,e,_,h⟩:=g1;obtain rfl:ad1=ad:=by injection e
  exact Qmj
 have HG2:Hid (l2≠[]->∃ b o,ad2=some ⟨b,o,none⟩/\∀ i t,l2[i]?=some t->∀ W,Bel w0 W->W.cell? ⟨b,o+i,none⟩=some (.int .i64 t)):=by
  obtain⟨ad,cc,e,_,h⟩:=g2;obtain rfl:ad2=ad:=by injection e
  exact Qmj
 obtain⟨n,hn⟩:∃ n,l1.length=n:=⟨_,rfl⟩
 obtain⟨n2,hn2⟩:∃ n2,l2.length=n2:=⟨_,rfl⟩
 obtain⟨q,hq⟩:∃ q,QcT eqI l1 l2=q:=⟨_,rfl⟩
 rw[hn,hn2,hq];rw[hn]at hl;have HQ:=Zh hq;have HN:=Zh hn;have HN2:=Zh hn2;have HL:=Zh hl;have HB:=Zh hb;clear hq hn hn2 g1 g2 hl hb
 by_cases hne:n=n2
 rotate_left
 ·have t1:((n:Int) !=(n2:Int))=true:=by rw[bne,zzq (by omega)];rfl
  have hqf:q=false:=by rw[<- HQ.out];exact Vt (by rw[HN.out,HN2.out];exact hne)
  subst hqf;clear hne;go_enter func44,ntmps44;go_wp2;go_ret;exact⟨rfl,Below.refl _ _⟩
 subst hne;have HW0:Hid (Bel W W):=Below.refl _ _;go_enter func44,ntmps44;go_wp2_with fail;go_loopg [13] n (fun g v13 wr=>∃ i:Nat,g+i=n/\v13=.int .i64 (i:Int)/\Hid (Bel W wr/\∀ (j:Nat) (x y:Int),j<i->l1[j]?=some x->l2[j]?=some y->eqI x y=true))
 case atStart=>exact⟨0,rfl,rfl,HW0.out,fun j x y h=>absurd h (Nat.not_lt_zero _)⟩
 case round=>
  clear HW0;obtain⟨wl,rfl⟩:∃ wl:World,wl=wr:=⟨_,rfl⟩
  obtain⟨i,hg,rfl,hws⟩:=hrel;have HBW:Hid (Bel W wl):=hws.out.1;have HALL:=Zh hws.out.2;clear hws
  by_cases hi:i<n
  ·have dil:decide ((i:Int)<(n:Int))=true:=decide_eq_true (by omega);have diN:decide (i<n)=true:=decide_eq_true hi;have k0:0<=(i:Int):=by omega
   have k1:(i:Int)<(n:Int):=by omega
   have wk:IntKind.i64.wrap ((i:Int)+1)=((i+1:Nat):Int):=by have:=HL.out;rw[IntWalk.i64_in _ (by omega)];omega
   obtain⟨x,hx⟩:∃ x,l1[i]?=some x:=⟨_,List.getElem?_eq_getElem (by rw[HN.out];exact hi)⟩
   obtain⟨y,hy⟩:∃ y,l2[i]?=some y:=⟨_,List.getElem?_eq_getElem (by rw[HN2.out];exact hi)⟩
   obtain⟨b1,o1,ha1,hk1⟩:=HG1.out (ne_nil_of_mem (mem_of_getElem? hx));obtain⟨b2,o2,ha2,hk2⟩:=HG2.out (ne_nil_of_mem (mem_of_getElem? hy));subst ha1;subst ha2;have p0:=hk1 i x hx wl (Jd HB.out HBW.out);have r0:=hk2 i y hy wl (Jd HB.out HBW.out);have HX:=Zh hx;have HY:=Zh hy;have HG:Hid (gk+i=n/\i<n):=⟨hg,hi⟩
   clear hx hy hk1 hk2 hg hi
   by_cases hxy:x=y
   ·have q1:(x !=y)=false:=by rw[bne,beq_iff_eq.2 hxy];rfl
    have HE:=Zh hxy;clear hxy
    have HALL2:Hid (∀ (j:Nat) (x y:Int),j<i+1->l1[j]?=some x->l2[j]?=some y->eqI x y=true):=by
     refine Zh fun j x' y' hj hx hy=>?_
     by_cases e:j=i
     ·subst e;rw[HX.out]at hx;rw[HY.out]at hy;rw[<- Option.some.inj hx,<- Option.some.inj hy];exact(JgU _ _).2 HE.out
     ·exact HALL.out j x' y' (by omega) hx hy
    clear HALL HX HY HE;go_upto_region 6 with fail;go_region;go_wp2;go_roundg (n-(i+1))
    case measure=>have:=HG.out;omega
    case rel=>exact⟨i+1,by have:=HG.out;omega,rfl,Below.drew HBW.out,HALL2.out⟩
   ·have q1:(x !=y)=true:=by rw[bne,zzq hxy];rfl
    have hqf:q=false:=by rw[<- HQ.out];exact Vu HX.out HY.out (by unfold eqI;exact decide_eq_false hxy)
    subst hqf;clear hxy;go_upto_region 6 with fail;go_region;go_wp2;go_ret;exact⟨rfl,Below.drew HBW.out⟩
  ·have dil:decide ((i:Int)<(n:Int))=false:=decide_eq_false (by omega);exact QkY
end Go.Proofs.YtdlkcjkjnehnkaaGreatDoor
