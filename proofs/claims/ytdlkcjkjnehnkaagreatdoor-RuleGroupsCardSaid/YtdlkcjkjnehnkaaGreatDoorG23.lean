import Derived.Test.YtdlkcjkjnehnkaaGreatDoorG22
namespace Go.Proofs.YtdlkcjkjnehnkaaGreatDoor
open Go Go.ChangeShapes Go.WideShapes Go.ChangeAt Go.RowKit Go.Lib
open _root_.Go.Proofs.Tryz
set_option linter.all false
set_option maxRecDepth 100000
set_option maxHeartbeats 32000000
def tyN (t:Int):List UInt8:=if t=1 then kBool else kInt
theorem Vk {t:Int} (h:typeB t=true) (w:World):Calls prog 30 #[.int .i64 t] w (Same (.string (bs (tyN t))) w):=by
 have:t=0∨t=1:=by unfold typeB at h; simpa using h
 rcases this with rfl | rfl
 ·exact Z3 w
 ·exact Z4 w
theorem Vx {a:Int} (h:actB a=true) (w:World):Calls prog 32 #[.int .i64 a] w (Same (.string (bs (actName a.toNat))) w):=by
 have:a=0∨a=1∨a=2∨a=3:=by unfold actB at h; simp at h; omega
 rcases this with rfl | rfl | rfl | rfl
 ·exact Yn w
 ·exact Yo w
 ·exact Yp w
 ·exact Yq w
theorem JgP:∀ (l:List Int) (i:Nat) (t:Int),flat (iPt i (l++[t]))=flat (iPt i l)++([44,32]++([118]++(itoa ((i+l.length:Nat):Int)++([58,32]++tyN t))))
 | [],i,t=>by
  rw[List.nil_append,iPt,iPt,iPt];simp only[fl_t,fl_s,Zq,wr_w,wr_s,vn,typT,tyN];simp
 | u::l,i,t=>by
  rw[List.cons_append,iPt,iPt];simp only[fl_t,fl_s,JgP l (i+1) t,List.length_cons,List.append_assoc];rw[show i+1+l.length=i+(l.length+1) by omega]
theorem JgQ (l:List Int) (t:Int):flat (iP (l++[t]))=flat (iP l)++((if l=[] then [] else [44,32])++([118]++(itoa (l.length:Int)++([58,32]++tyN t)))):=by
 cases l with
 | nil=>
  rw[List.nil_append,iP,iP,iPt,if_pos rfl];simp only[fl_t,fl_s,Zq,wr_w,wr_s,vn,typT,tyN];simp
 | cons u l=>
  rw[List.cons_append,iP,iP,if_neg (by simp)];simp only[fl_t,fl_s,JgP l 1 t,List.length_cons,List.append_assoc];rw[show 1+l.length=l.length+1 by omega]
theorem JlW:∀ (l2 l1:List Int),(flat (iP l1)).length≤(flat (iP (l1++l2))).length
 | [],l1=>by rw[List.append_nil]; exact Nat.le_refl _
 | a::l2,l1=>by
  have h:=JlW l2 (l1++[a]);rw[List.append_assoc,List.cons_append,List.nil_append] at h;refine Nat.le_trans ?_ h;rw[JgQ];simp
theorem JlX (fn:Int→List UInt8) (f:FnM):flat (iF fn f)=([100,101,102,32]++(f.name++[40]))++(flat (iP f.params)++([41,58,32]++(tyN f.result++([32,61,32]++(flat (iX fn 0 f.body)++[10]))))):=by
 unfold iF;rw[ix0];simp only[fl_t,fl_s,J5,Zq,wr_w,wr_s,typT,tyN];simp[kDef]
theorem JmF (fn:Int→List UInt8) (c:ClM):flat (iC fn c)=[119,104,101,110,32]++(flat (iX fn 0 c.cond)++([32,116,104,101,110,32]++(actName c.action.toNat++([32,34]++(c.reason++[34,10]))))):=by
 unfold iC;rw[ix0];simp only[fl_t,fl_s,J5,Zq,wr_w,wr_t,actT];simp[kWhen,kThen]
theorem JcT (fn:Int→List UInt8):∀ (a b:List FnM),iFs fn (a++b)=iFs fn a++iFs fn b
 | [],b=>rfl
 | x::a,b=>by rw[List.cons_append,iFs,iFs,JcT fn a b,List.append_assoc]
theorem JcU (fn:Int→List UInt8):∀ (a b:List ClM),iCs fn (a++b)=iCs fn a++iCs fn b
 | [],b=>rfl
 | x::a,b=>by rw[List.cons_append,iCs,iCs,JcU fn a b,List.append_assoc]
theorem JiH (fn:Int→List UInt8) {l:List FnM} {i:Nat} {f:FnM} (h:l[i]?=some f):flat (iFs fn (l.take (i+1)))=flat (iFs fn (l.take i))++flat (iF fn f):=by
 rw[List.take_add_one,h,JcT,J5]
 congr 1
 change flat (iF fn f++iFs fn [])=_;rw[iFs,List.append_nil]
theorem JiI (fn:Int→List UInt8) {l:List ClM} {i:Nat} {f:ClM} (h:l[i]?=some f):flat (iCs fn (l.take (i+1)))=flat (iCs fn (l.take i))++flat (iC fn f):=by
 rw[List.take_add_one,h,JcU,J5]
 congr 1
 change flat (iC fn f++iCs fn [])=_;rw[iCs,List.append_nil]
theorem JlY (fn:Int→List UInt8) (l:List FnM) (i:Nat):(flat (iFs fn (l.take i))).length≤(flat (iFs fn l)).length:=by
 have h:=JcT fn (l.take i) (l.drop i);rw[List.take_append_drop] at h;rw[h,J5];simp
theorem JlZ (fn:Int→List UInt8) (l:List ClM) (i:Nat):(flat (iCs fn (l.take i))).length≤(flat (iCs fn l)).length:=by
 have h:=JcU fn (l.take i) (l.drop i);rw[List.take_append_drop] at h;rw[h,J5];simp
theorem JgR (r:RuleM):flat (iR r)=flat (iFs (fnF r) r.funcs)++(flat (iCs (fnF r) r.clauses)++([100,101,102,97,117,108,116,32]++(actName r.action.toNat++[10]))):=by
 unfold iR;simp only[J5,fl_t,fl_s,Zq,wr_w,actT];simp[kDefault]
theorem JeL {l:List Int} {i:Nat} {a:Int} (h:l[i]?=some a):l.take (i+1)=l.take i++[a]:=by
 rw[List.take_add_one,h];rfl
theorem JgS {l:List Int} {i n:Nat} (h:l.length=n) (hi:i<n):(l.take i=[]↔i=0)∧(l.take i).length=i:=by
 have hl:(l.take i).length=i:=by rw[List.length_take,h]; omega
 refine ⟨⟨fun e=>?_,fun e=>by subst e; rfl⟩,hl⟩;rw[e] at hl;exact hl.symm
structure BxT (T:TypeId) (w1:World) (b eb:Nat) (cs:Array Value):Prop where
 heap:w1.heap[eb]?=some (.cells cs T (0,0))
 ne:eb≠b
 ty:T≠5
theorem BxT.row {T:TypeId} {w1 W:World} {b eb:Nat} {cs:Array Value} (h:BxT T w1 b eb cs) (ho:OthersKept 5 (some b) w1 W):W.heap[eb]?=some (.cells cs T (0,0)):=
 ho _ _ h.heap (fun e=>h.ne (Option.some.inj e)) (fun c fz e=>by injection e with _ e _; exact h.ty e)
theorem wseven {W:World} {b t:Nat} {a0 a1 a2 a3 a4 a5 a6:Value} {fr:Nat × Nat} (h:W.heap[b]?=some (.cells #[a0,a1,a2,a3,a4,a5,a6] t fr)) :
  W.cell? ⟨b,0,none⟩=some a0∧W.cell? ⟨b,1,none⟩=some a1∧W.cell? ⟨b,2,none⟩=some a2∧W.cell? ⟨b,3,none⟩=some a3∧W.cell? ⟨b,4,none⟩=some a4∧W.cell? ⟨b,5,none⟩=some a5∧W.cell? ⟨b,6,none⟩=some a6:=by
 refine ⟨?_,?_,?_,?_,?_,?_,?_⟩ <;> (rw[Ja h]; rfl)
theorem wsix {W:World} {b t:Nat} {a0 a1 a2 a3 a4 a5:Value} {fr:Nat × Nat} (h:W.heap[b]?=some (.cells #[a0,a1,a2,a3,a4,a5] t fr)) :
  W.cell? ⟨b,0,none⟩=some a0∧W.cell? ⟨b,1,none⟩=some a1∧W.cell? ⟨b,2,none⟩=some a2∧W.cell? ⟨b,3,none⟩=some a3∧W.cell? ⟨b,4,none⟩=some a4∧W.cell? ⟨b,5,none⟩=some a5:=by
 refine ⟨?_,?_,?_,?_,?_,?_⟩ <;> (rw[Ja h]; rfl)
theorem Jma {w0:World} {fv:Value} {fs:List FnM} (h:SliceOf w0 (In w0) (FnX w0 (In w0)) fs fv):∃ ad cc,fv=.slice ad fs.length cc∧(fs≠[]→∃ fb fo,ad=some ⟨fb,fo,none⟩∧∀ i f,fs[i]?=some f→∃ pa pc xa xc,
  (f.params=[]∨∃ pb po,pa=some ⟨pb,po,none⟩∧∀ W,Bel w0 W→∀ j t,f.params[j]?=some t→W.cell? ⟨pb,po+j,none⟩=some (.int .i64 t))∧XAt w0 (In w0) f.body (expC f.body xa xc)∧
  ∀ W,Bel w0 W→W.cell? ⟨fb,fo+i*7,none⟩=some (.string (bs f.name))∧W.cell? ⟨fb,fo+i*7+1,none⟩=some (.slice pa f.params.length pc)∧W.cell? ⟨fb,fo+i*7+2,none⟩=some (.int .i64 f.result)∧W.cell? ⟨fb,fo+i*7+3,none⟩=some (.int .i64 f.body.kind)∧W.cell? ⟨fb,fo+i*7+4,none⟩=some (.int .i64 f.body.num)∧W.cell? ⟨fb,fo+i*7+5,none⟩=some (.string (bs f.body.name))∧W.cell? ⟨fb,fo+i*7+6,none⟩=some (.slice xa f.body.kids.length xc)):=by
 obtain ⟨ad,cc,rfl,_,hk⟩:=h.get FnX.len;refine ⟨ad,cc,rfl,fun hne=>?_⟩;obtain ⟨fb,fo,rfl,hP,hk⟩:=hk hne;refine ⟨fb,fo,rfl,fun i f hi=>?_⟩;obtain ⟨c,hc,hcell⟩:=hk i f hi;obtain ⟨v,d,hv,hd,rfl⟩:=hc;obtain ⟨pa,pc,rfl,_,hv⟩:=hv;obtain ⟨xa,xc,rfl,_⟩:=hd.form;have hm:∀ (W:World),Bel w0 W→∀ (p:Addr) (v:Value),p.block<w0.heap.size→w0.cell? p=some v→W.cell? p=some v:=fun W hW p v hp hc=>(World.cell?_of_block (w:=w0) (hW.block p.block hp)).trans hc
 refine ⟨pa,pc,xa,xc,hv.imp id ?_,hd,fun W hW=>?_⟩
 ·rintro ⟨pb,po,h1,h2,h3⟩;exact ⟨pb,po,h1,fun W hW j t hj=>hm W hW _ _ h2 (h3 j t hj)⟩
 ·have g:∀ j u,([Value.string (bs f.name),.slice pa f.params.length pc,.int .i64 f.result]++#[Value.int .i64 f.body.kind,.int .i64 f.body.num,.string (bs f.body.name),.slice xa f.body.kids.length xc].toList)[j]?=some u→W.cell? ⟨fb,fo+i*7+j,none⟩=some u:=fun j u hj=>hm W hW _ _ hP (hcell j u hj)
  exact ⟨g 0 _ rfl,g 1 _ rfl,g 2 _ rfl,g 3 _ rfl,g 4 _ rfl,g 5 _ rfl,g 6 _ rfl⟩
theorem JmG {w0:World} {cv:Value} {cs:List ClM} (h:SliceOf w0 (In w0) (ClX w0 (In w0)) cs cv):∃ ad cc,cv=.slice ad cs.length cc∧(cs≠[]→∃ fb fo,ad=some ⟨fb,fo,none⟩∧∀ i f,cs[i]?=some f→∃ xa xc,XAt w0 (In w0) f.cond (expC f.cond xa xc)∧
  ∀ W,Bel w0 W→Kd W fb (fo+i*6) f.cond xa xc∧W.cell? ⟨fb,fo+i*6+4,none⟩=some (.int .i64 f.action)∧W.cell? ⟨fb,fo+i*6+5,none⟩=some (.string (bs f.reason))):=by
 obtain ⟨ad,cc,rfl,_,hk⟩:=h.get ClX.len;refine ⟨ad,cc,rfl,fun hne=>?_⟩;obtain ⟨fb,fo,rfl,hP,hk⟩:=hk hne;refine ⟨fb,fo,rfl,fun i f hi=>?_⟩;obtain ⟨c,hc,hcell⟩:=hk i f hi;obtain ⟨d,hd,rfl⟩:=hc;obtain ⟨xa,xc,rfl,_⟩:=hd.form;refine ⟨xa,xc,hd,fun W hW=>?_⟩;have hm:∀ (p:Addr) (v:Value),p.block<w0.heap.size→w0.cell? p=some v→W.cell? p=some v:=fun p v hp hc=>(World.cell?_of_block (w:=w0) (hW.block p.block hp)).trans hc
 have g:∀ j u,(#[Value.int .i64 f.cond.kind,.int .i64 f.cond.num,.string (bs f.cond.name),.slice xa f.cond.kids.length xc].toList++[.int .i64 f.action,.string (bs f.reason)])[j]?=some u→W.cell? ⟨fb,fo+i*6+j,none⟩=some u:=fun j u hj=>hm _ _ hP (hcell j u hj)
 exact ⟨⟨g 0 _ rfl,g 1 _ rfl,g 2 _ rfl,g 3 _ rfl⟩,g 4 _ rfl,g 5 _ rfl⟩
theorem JkM {w0:World} {r:RuleM} {fv cv:Value} {k:Int} (hx:RuleX w0 (In w0) r #[fv,cv,.int .i64 k]) (hz:RSz r) (hL:Laid w0) (b:Nat) (e:Exp) (nv m:Nat) (he:fitsN r.pa nv m e=true) (hb:nv+m≤big):ExprOk w0 b fv (fnF r) e:=by
 obtain ⟨fv',cv',heq,hF,_⟩:=hx;obtain rfl:fv=fv':=by injection heq with heq; injection heq
 obtain ⟨ad,cc,hfv,hne⟩:=Jma hF;have hpa:r.pa.length=r.funcs.length:=by simp[RuleM.pa]
 have hpl:∀ i,r.pa.getD i 0≤1000000:=by
  intro i;unfold RuleM.pa;rw[List.getD_eq_getElem?_getD,List.getElem?_map]
  cases hf:r.funcs[i]? with
  | none=>simp
  | some f=>simpa using (hz.fn f (List.mem_of_getElem? hf)).2.1
 refine Ka ?_ (kind7 he)
 by_cases h0:r.funcs=[]
 ·exact Kc (nf:=r.funcs.length) (fb:=0) (fo:=0) (fl:=0) (fc:=0) (fun h=>absurd (by rw[h0]; rfl) h) hL hpa hpl e nv m he hb
 ·obtain ⟨fb,fo,rfl,hi⟩:=hne h0;refine Kc (nf:=r.funcs.length) (fb:=fb) (fo:=fo) (fl:=r.funcs.length) (fc:=cc) (fun _=>⟨hfv,rfl,fun j hj W hW=>?_⟩) hL hpa hpl e nv m he hb;have hg:=List.getElem?_eq_getElem hj;obtain ⟨pa,pc,xa,xc,_,_,h3⟩:=hi j _ hg
  have e1:fnF r (j:Int)=(r.funcs[j]'hj).name:=by
   unfold fnF;rw[List.getD_eq_getElem?_getD,List.getElem?_map,Int.toNat_natCast,hg];rfl
  rw[e1];exact (h3 W hW).1
mutual
def eqE:Exp→Exp→Bool
 | .mk k n s l,.mk k' n' s' l'=>decide (k=k')&&(decide (n=n')&&(decide (s=s')&&eqX l l'))
def eqX:List Exp→List Exp→Bool
 | [],[]=>true
 | a::l,b::m=>eqE a b&&eqX l m
 | [],_::_=>false
 | _::_,[]=>false
end
mutual
theorem JcV:∀ (a b:Exp),eqE a b=true↔a=b
 | .mk k n s l,.mk k' n' s' l'=>by
  rw[eqE];simp only[Bool.and_eq_true,decide_eq_true_eq,JgT l l',Exp.mk.injEq]
theorem JgT:∀ (a b:List Exp),eqX a b=true↔a=b
 | [],[]=>by rw[eqX]; simp
 | a::l,b::m=>by
  rw[eqX];simp only[Bool.and_eq_true,JcV a b,JgT l m,List.cons.injEq]
 | [],b::m=>by rw[eqX]; simp
 | a::l,[]=>by rw[eqX]; simp
end
def all2 {α:Type} (eq:α→α→Bool):List α→List α→Bool
 | [],[]=>true
 | a::l,b::m=>eq a b&&all2 eq l m
 | [],_::_=>false
 | _::_,[]=>false
theorem JcW:∀ (a b:List Exp),eqX a b=all2 eqE a b
 | [],[]=>by rw[eqX]; rfl
 | a::l,b::m=>by rw[eqX,JcW l m]; rfl
 | [],b::m=>by rw[eqX]; rfl
 | a::l,[]=>by rw[eqX]; rfl
theorem Vt {α:Type} {eq:α→α→Bool}:∀ {a b:List α},a.length≠b.length→all2 eq a b=false
 | [],[],h=>absurd rfl h
 | a::l,b::m,h=>by
  unfold all2;rw[Vt (a:=l) (b:=m) (fun e=>h (by simp[e])),Bool.and_false]
 | [],b::m,_=>rfl
 | a::l,[],_=>rfl
theorem Vu {α:Type} {eq:α→α→Bool}:∀ {a b:List α} {i:Nat} {x y:α},a[i]?=some x→b[i]?=some y→eq x y=false→all2 eq a b=false
 | [],_,i,x,y,h,_,_=>by simp at h
 | _::_,[],i,x,y,_,h,_=>by simp at h
 | a::l,b::m,0,x,y,h1,h2,h3=>by
  simp at h1 h2;subst h1 h2;unfold all2;rw[h3,Bool.false_and]
 | a::l,b::m,i+1,x,y,h1,h2,h3=>by
  unfold all2;rw[Vu (a:=l) (b:=m) (i:=i) (by simpa using h1) (by simpa using h2) h3,Bool.and_false]
theorem Zv {α:Type} {eq:α→α→Bool}:∀ {a b:List α},a.length=b.length→(∀ (i:Nat) (x y:α),a[i]?=some x→b[i]?=some y→eq x y=true)→all2 eq a b=true
 | [],[],_,_=>rfl
 | a::l,b::m,h,hx=>by
  unfold all2;rw[hx 0 a b rfl rfl,Zv (a:=l) (b:=m) (by simpa using h) (fun i x y h1 h2=>hx (i+1) x y (by simpa using h1) (by simpa using h2))];rfl
 | [],b::m,h,_=>by simp at h
 | a::l,[],h,_=>by simp at h
def RowG {α:Type} (w0:World) (m:Nat) (R:α→List Value→Prop) (l:List α) (ad:Option Addr):Prop:=l≠[]→∃ b o,ad=some ⟨b,o,none⟩∧∀ i e,l[i]?=some e→∃ c,R e c∧∀ W,Bel w0 W→∀ j u,c[j]?=some u→W.cell? ⟨b,o+i*m+j,none⟩=some u
theorem RowG.of {α:Type} {w0:World} {m:Nat} {R:α→List Value→Prop} (hR:∀ a c,R a c→c.length=m) {l:List α} {v:Value} (h:SliceOf w0 (In w0) R l v):∃ ad cc,v=.slice ad l.length cc∧RowG w0 m R l ad:=by
 obtain ⟨ad,cc,rfl,_,hk⟩:=h.get hR;refine ⟨ad,cc,rfl,fun hne=>?_⟩;obtain ⟨b,o,h1,h2,h3⟩:=hk hne;refine ⟨b,o,h1,fun i e hi=>?_⟩;obtain ⟨c,g1,g2⟩:=h3 i e hi;exact ⟨c,g1,fun W hW j u hj=>(World.cell?_of_block (w:=w0) (hW.block b h2)).trans (g2 j u hj)⟩
def ExpX (w0:World) (e:Exp) (c:List Value):Prop:=XAt w0 (In w0) e c.toArray
theorem RowG.kids {w0:World} {k n:Int} {s:List UInt8} {l:List Exp} {c:Array Value} (hx:XAt w0 (In w0) (.mk k n s l) c):∃ ad cc,c=#[.int .i64 k,.int .i64 n,.string (bs s),.slice ad l.length cc]∧RowG w0 4 (ExpX w0) l ad:=by
 obtain ⟨ad,cc,rfl,_,hk⟩:=hx.kid;refine ⟨ad,cc,rfl,fun hne=>?_⟩;obtain ⟨b,o,h1,h2,h3⟩:=hk hne;refine ⟨b,o,h1,fun i e hi=>?_⟩;obtain ⟨d,g1,g2⟩:=h3 i e hi;exact ⟨d.toList,by unfold ExpX; exact g1,fun W hW j u hj=>(World.cell?_of_block (w:=w0) (hW.block b h2)).trans (g2 j u (by simpa using hj))⟩
theorem ExpX.form {w0:World} {e:Exp} {c:List Value} (h:ExpX w0 e c):∃ xa xc,c=[.int .i64 e.kind,.int .i64 e.num,.string (bs e.name),.slice xa e.kids.length xc]:=by
 unfold ExpX at h;obtain ⟨xa,xc,h1,_⟩:=h.form;exact ⟨xa,xc,by have h2:=congrArg Array.toList h1; simpa using h2⟩
theorem FnX.form {w0:World} {f:FnM} {c:List Value} (h:FnX w0 (In w0) f c):∃ pa pc xa xc,c=[.string (bs f.name),.slice pa f.params.length pc,.int .i64 f.result,.int .i64 f.body.kind,.int .i64 f.body.num,.string (bs f.body.name),.slice xa f.body.kids.length xc]∧NumsX w0 (In w0) f.params (.slice pa f.params.length pc)∧ExpX w0 f.body [.int .i64 f.body.kind,.int .i64 f.body.num,.string (bs f.body.name),.slice xa f.body.kids.length xc]:=by
 obtain ⟨v,d,hv,hd,rfl⟩:=h;have hv':=hv;obtain ⟨pa,pc,rfl,_,_⟩:=hv;obtain ⟨xa,xc,rfl,_⟩:=hd.form;exact ⟨pa,pc,xa,xc,rfl,hv',hd⟩
theorem ClX.form {w0:World} {f:ClM} {c:List Value} (h:ClX w0 (In w0) f c):∃ xa xc,c=[.int .i64 f.cond.kind,.int .i64 f.cond.num,.string (bs f.cond.name),.slice xa f.cond.kids.length xc,.int .i64 f.action,.string (bs f.reason)]∧ExpX w0 f.cond [.int .i64 f.cond.kind,.int .i64 f.cond.num,.string (bs f.cond.name),.slice xa f.cond.kids.length xc]:=by
 obtain ⟨d,hd,rfl⟩:=h;obtain ⟨xa,xc,rfl,_⟩:=hd.form;exact ⟨xa,xc,rfl,hd⟩
theorem bx26 {P:Prop}(h:P:=by
  have diN:decide (i<n)=false:=decide_eq_false hi;have hqf:q=true:=by rw[← HQ.out]; exact Zv (by rw[HN.out,HN2.out]) (fun j x y h1 h2=>HALL.out j x y (by have:=(List.getElem?_eq_some_iff.1 h1).1; rw[HN.out] at this; omega) h1 h2)
  subst hqf;clear hi hg;go_wp2;go_ret
  exact ⟨rfl,HBW.out⟩):P:=h
theorem bx47 {P:Prop}(h:P:=by
  refine Zh fun j x' y' hj hx hy=>?_
  by_cases e:j=i
  ·subst e;rw[HX.out] at hx;rw[HY.out] at hy;rw[← Option.some.inj hx,← Option.some.inj hy];exact HZ.out
  ·exact HALL.out j x' y' (by omega) hx hy):P:=h
theorem bx58 {P:Prop}(h:P:=by
  clear HALL HX HY HZ;go_wp2;go_roundg (n-(i+1))
  case measure=>have:=HG.out; omega
  case rel=>exact ⟨i+1,by have:=HG.out; omega,rfl,HB5.out,HALL2.out⟩):P:=h
theorem bx68 {P:Prop}(h:P:=by
  have hqf:q=false:=by rw[← HQ.out]; exact Vu HX.out HY.out HZ.out
  subst hqf;go_wp2;go_ret
  exact ⟨rfl,HB5.out⟩):P:=h
theorem JcX:∀ l:List Exp,l.length≤sizL (utL l)
 | []=>Nat.zero_le _
 | a::l=>by
  have h:=JcX l;have h1:1≤siz (utN a):=by cases a; rw[utN,JG]; omega
  rw[utL,Ju,List.length_cons];omega
theorem JcY:∀ {l:List Exp} {a:Exp},a∈l→siz (utN a)≤sizL (utL l)
 | x::l,a,h=>by
  rw[utL,Ju]
  rcases List.mem_cons.1 h with rfl | h
  ·omega
  ·have:=JcY h; omega
theorem K8 (w:World) (o0 o1:Obj):Below w.heap.size w ((w.alloc o0).alloc o1):=(zzb.alloc zzl _).alloc (by simp) _
theorem bx117 {P:Prop}(h:P:=by
  have:=List.sizeOf_lt_of_mem hx;simp only[Exp.mk.sizeOf_spec]
  omega):P:=h
def eqI (a b:Int):Bool:=decide (a=b)
def eqF (f g:FnM):Bool:=decide (f.name=g.name)&&(all2 eqI f.params g.params&&(decide (f.result=g.result)&&eqE f.body g.body))
end Go.Proofs.YtdlkcjkjnehnkaaGreatDoor
