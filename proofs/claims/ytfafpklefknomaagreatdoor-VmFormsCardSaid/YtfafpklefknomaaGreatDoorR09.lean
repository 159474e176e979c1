import Derived.Test.YtfafpklefknomaaGreatDoorR08
open Nat(le_refl)
namespace Go.Proofs.YtfafpklefknomaaGreatDoor
open Go.ChangeShapes Go.WideShapes Go.ChangeAt Go.RowKit Go.Lib
open _root_.Go.Proofs.Tryz
set_option linter.all false
set_option maxRecDepth 100000
set_option maxHeartbeats 32000000
def Qfu:(prog.info? 127).map (λi=>(i.zero,i.size,i.bytes))=some (some (.agg #[Iv 0,Iv 0,Em,Iv 0,Nl]),5,64):=zk
def JA{S:List Nat}{w w':World}{base e size n:Nat}{v:Value}{xs:List Value}(h:w.ownsRow base e size v n xs)(hc:Chg S w w')(hs:∀b∈S,b<base):w'.ownsRow base e size v n xs:=by
 refine⟨h.1,h.2.imp id ?_⟩;rintro⟨g,cap,cur,h1,h2,h3,h4⟩;exact⟨g,cap,cur,h1,h2,hc.heap_some (λhm=>by have:=hs g hm;omega) h3,h4⟩
def Jk{w:World}{base e size n:Nat}{v:Value}{xs:List Value}(h:w.ownsRow base e size v n xs):∃a m c,v=.slice a m c:=by
 rcases h.2 with⟨rfl,_⟩|⟨g,cap,cur,rfl,_⟩<;>exact⟨_,_,_,rfl⟩
def Vf(l:List An)(a:An):ndL (l++[a])=ndL l++[a.nd]:=by
 induction l with
 |nil=>simp[ndL]
 |cons x r ih=>simp[ndL,ih]
def Vw(l:List An)(a:An):Qak (l++[a])=Qak l++foot a:=by
 induction l with
 |nil=>simp[Qak]
 |cons x r ih=>simp[Qak,ih]
def Jjy(l:List An)(a:An):Qdb (l++[a])=Qdb l++(Qaa a).toList:=by simp[Qdb]
def JfP(a:An):∀u∈(Qaa a).toList,u.oneCell'=true:=by
 obtain⟨xA,xn,xc,h⟩:=Jg a;rw[h];intro u hu;simp at hu
 rcases hu with rfl|rfl|rfl|rfl|rfl<;>rfl
def KI{P:Program}(w:World)(base:Nat)(t ty e:TypeId)(i:TypeInfo)(z:Value)(size bytes:Nat)(ht:P.underlying t=some (.slice e))(hi:P.info? e=some i)(hz:i.zero=some z)
  (hsize:i.size=size) (hby:i.bytes=bytes) (hzs:z.cells.size=size) (hsz:0<size)
  (v:Value) (n:Nat) (xs:List Value) (hown:w.ownsRow base e size v n xs)
  (a:Addr) (m c:Nat) (news:List Value) (hl:news.length=m*size) (hnews:∀j u,news[j]?=some u->w.cell? (a.add j)=some u) (h1:∀u∈news,u.oneCell'=true) (h0:0<m)
  (h63:n+m<=maxLen) (hbytes:(n+m)*bytes<=140737488355328) (hbase:base<=w.heap.size) :
  ∃v' w',(Builtin.append_ #[t,t] ty #[v,.slice (some a) m c]).run P w=.ok v' w'/\w'.ownsRow base e size v' (n+m) (xs++news)/\w.grownBy w' v.ownBlock/\
   (v'.ownBlock=v.ownBlock\/v'.ownBlock=some w.heap.size):=by
 obtain⟨v',w',hr,h2,h3,_⟩:=run_append_own (P:=P) w base t ty e i z size bytes ht hi hz hsize hby hzs hsz v n xs hown a m c news hl hnews h1 h63 hbytes hbase;refine⟨v',w',hr,h2,h3,?_⟩;subst hsize;subst hby;have yA:n+m<=9223372036854775807:=by simp only[maxLen]at h63;omega
 rcases hown.2 with⟨rfl,rfl⟩|⟨g,cap,cur,rfl,hbg,hg,hnc,hcm,hcs,htake⟩
 ·have hb:=hbytes;simp only[Nat.zero_add]at hb;have hq:=run_append_nil (P:=P) w t ty e i z ht hi hz a m c news hl hnews h0 zo zo;rw[hr]at hq;injection hq with h4 h5;rw[h4];exact .inr rfl
 ·by_cases hroom:n+m<=cap
  ·have zA:n*i.size+news.length<=cur.size:=by rw[hl,hcs,<- Nat.add_mul];exact Nat.mul_le_mul_right _ hroom
   have hq:=run_append_room (P:=P) w t ty e i ht hi g n cap cur hg a m c news hl hnews h1 hroom zA;rw[hr]at hq;injection hq with h4 h5;rw[h4];exact .inl rfl
  ·have xA:∀j u,xs[j]?=some u->w.cell? ((⟨g,0,none⟩:Addr).add j)=some u:=hown.cells (g:=g) rfl;have hq:=run_append_grow (P:=P) w t ty e i z ht hi hz ⟨g,0,none⟩ n cap xs hown.1 xA a m c news hl hnews zo zo (growslice_fits zo hbytes);rw[hr]at hq;injection hq with h4 h5;rw[h4];exact .inr rfl
def Km{ops:Array Oper}{o:Oper}{ac:Act}{K:Act->World->Prop}{Q:Exit->Act->World->Prop}{E:Prop}(w:World)(hgd:o.guard=none)(s x:Operand)
  (ho:o.op=.call { callee:=.builtin .append,args:=#[s,x],argTypes:=#[125,125] }) (base:Nat) (v:Value) (l:List An) (a:An) (hs:ac.eval s=v)
  (hown:w.ownsRow base 127 5 v l.length (Qdb l)) (rb:Nat) (hx:ac.eval x=.slice (some ⟨rb,0,none⟩) 1 1) (hrow:w.heap[rb]?=some (.cells (Qaa a) 127 (0,0)))
  (h63:l.length<=100000000) (hbase:base<=w.heap.size)
  (h:∀v' w',w'.ownsRow base 127 5 v' (l++[a]).length (Qdb (l++[a]))->w.grownBy w' v.ownBlock->(v'.ownBlock=v.ownBlock\/v'.ownBlock=some w.heap.size)->K (ac.put o.dst v') w') :
  if Region.wanted o (yielded ops ac.tmps)=true then Oper.wp prog o ac w K Q else E:=by
 have hw:Region.wanted o (yielded ops ac.tmps)=true:=by simp[Region.wanted,hgd]
 rw[if_pos hw];obtain⟨i0,hi,yA,zA,xA⟩:=info_parts Qfu
 obtain⟨v',w',hr,h1,h2,h3⟩:=KI (P:=prog) w base 125 o.type 127 i0 _ 5 64 underlying125 hi yA zA xA rfl zp v l.length (Qdb l) hown ⟨rb,0,none⟩ 1 1 (Qaa a).toList (by rw[Array.length_toList,J3]) (λj u hj=>by
  rw[show (⟨rb,0,none⟩:Addr).add j=⟨rb,j,none⟩ by unfold Addr.add;split<;>simp_all]
  exact KP hrow hj) (JfP a) zp (by unfold maxLen;omega) zo hbase
 unfold Oper.wp execOp;simp only[ho,resolve,invoke,builtin,Sem.run_bind,Sem.run_pure,Result.andThen_ok,List.map_toArray,List.map_cons,List.map_nil,hs,hx,hr];rw[<- Jjy]at h1;exact h v' w' (by rw[List.length_append];exact h1) h2 h3
structure NmI(nm:By)(of:Int)(p:Nat)(A:Option Addr)(C:Nat)(T:List Tok)(w:World)(lo bx:Nat)(wr:World)(k2:Nat)(l:List An)(V:Value):Prop where
 pat:PAt wr p A C T k2
 own:wr.ownsRow lo 127 5 V l.length (Qdb l)
 ats:∀a∈l,a.At wr
 fts:(Qak l).Nodup/\∀b∈Qak l,lo<=b/\b<wr.heap.size
 dis:∀g,V.ownBlock=some g->g∉Qak l
 box:wr.heap[bx]?=some (.cells #[Iv 20,Iv 0,Sv nm,Iv of,V] 127 (0,0))
 res:wr.heap[w.heap.size]?=some (.cells #[Iv 0,Iv 0,Em,Iv 0,Nl] 127 (0,0))
 chg:Chg [p] w wr
 low:w.heap.size<bx/\bx<lo/\p<w.heap.size
 lle:lo<=wr.heap.size
def JC{a:An}{l:List An}(ha:a∈l):∀b∈foot a,b∈Qak l:=by
 induction l with
 |nil=>cases ha
 |cons x r ih=>
  intro b hb;unfold Qak
  rcases List.mem_cons.1 ha with rfl|ha
  ·exact List.mem_append_left _ hb
  ·exact List.mem_append_right _ (ih ha b hb)
def NmI.on{nm:By}{of:Int}{p:Nat}{A:Option Addr}{C:Nat}{T:List Tok}{w:World}{lo bx:Nat}{wr W:World}{k2 k3:Nat}{l:List An}{V:Value}(h:NmI nm of p A C T w lo bx wr k2 l V)(hP:PAt W p A C T k3)(hc:Chg [p] wr W):NmI nm of p A C T w lo bx W k3 l V:=by
 obtain⟨l1,l2,l3⟩:=h.low
 exact⟨hP,JA h.own hc zr,λa ha=>JK a (h.ats a ha) λb hb=>by
  have:=h.fts.2 b (JC ha b hb)
  exact hc.block b this.2 zr,⟨h.fts.1,λb hb=>⟨(h.fts.2 b hb).1,Nat.lt_of_lt_of_le (h.fts.2 b hb).2 hc.size⟩⟩,h.dis,hc.heap_some zr h.box,hc.heap_some zr h.res,h.chg.trans hc,h.low,Nat.le_trans h.lle hc.size⟩
def NmI.step{nm:By}{of:Int}{p:Nat}{A:Option Addr}{C:Nat}{T:List Tok}{w:World}{lo bx:Nat}{wr w6 w7:World}{k2 k4:Nat}{l:List An}{V V':Value}{b:An}{cs:Array Value}(h:NmI nm of p A C T w lo bx wr k2 l V)
  (hbt:b.At w6) (hbm:Qce wr.heap.size w6.heap.size b) (hp4:PAt w6 p A C T k4) (hc6:Chg [p] wr w6) (hT:∀b o,A=some ⟨b,o,none⟩->b<w.heap.size)
  (hown:w7.ownsRow lo 127 5 V' (l++[b]).length (Qdb (l++[b]))) (hgr:(w6.alloc (.cells cs 127)).grownBy w7 V.ownBlock) (hfr:V'.ownBlock=V.ownBlock\/V'.ownBlock=some (w6.alloc (.cells cs 127)).heap.size) :
  NmI nm of p A C T w lo bx (w7.setCell ⟨bx,4,none⟩ V') k4 (l++[b]) V'/\w7.heap[bx]?=some (.cells #[Iv 20,Iv 0,Sv nm,Iv of,V] 127 (0,0)):=by
 have h6:=h.on hp4 hc6;obtain⟨l1,l2,l3⟩:=h.low;have hb1:Below w6.heap.size w6 (w6.alloc (.cells cs 127)):=zO.alloc zP _;have hrow:∀g,V.ownBlock=some g->lo<=g/\g<w6.heap.size:=λg hg=>h6.own.lt g hg
 have zA:∀q,q<w6.heap.size->some q≠V.ownBlock->w7.heap[q]?=w6.heap[q]?:=λq hq hn=>(hgr.block q zr hn).trans (hb1.block q hq)
 have hsz:w6.heap.size<w7.heap.size:=by have:=hgr.size;simp at this;omega
 have hbx7:w7.heap[bx]?=some (.cells #[Iv 20,Iv 0,Sv nm,Iv of,V] 127 (0,0)):=(zA bx (Jb h6.box) λe=>by have:=hrow bx e.symm;omega).trans h6.box;have hs7:(w7.setCell ⟨bx,4,none⟩ V').heap.size=w7.heap.size:=by simp[World.setCell]
 have hst:Chg [bx] w7 (w7.setCell ⟨bx,4,none⟩ V'):=(Chg.refl _ _).setCell (.inl (by simp:bx∈[bx])) (p:=⟨bx,4,none⟩) V';have hkeep:∀q,q<w6.heap.size->some q≠V.ownBlock->q≠bx->(w7.setCell ⟨bx,4,none⟩ V').heap[q]?=w6.heap[q]?:=λq hq hn hne=>(hst.block q zo (by simpa using hne)).trans (zA q hq hn)
 have xA:∀(q:Addr) u,q.block<w6.heap.size->some q.block≠V.ownBlock->q.block≠bx->w6.cell? q=some u->(w7.setCell ⟨bx,4,none⟩ V').cell? q=some u:=λq u h1 h2 h3 h4=>(World.cell?_of_block (hkeep q.block h1 h2 h3)).trans h4
 have hft:∀q∈Qak (l++[b]),lo<=q/\q<w6.heap.size:=by
  intro q hq;rw[Vw]at hq
  rcases List.mem_append.1 hq with hq|hq
  ·have h1:=h.fts.2 q hq;have h2:=hc6.size;exact⟨h1.1,by omega⟩
  ·have h1:=hbm.2 q hq;have h2:=h.lle;exact⟨by omega,h1.2⟩
 have yA:∀q∈Qak (l++[b]),some q≠V.ownBlock:=by
  intro q hq e;rw[Vw]at hq
  rcases List.mem_append.1 hq with hq|hq
  ·exact h.dis q e.symm hq
  ·have h1:=(h.own.lt q e.symm).2;have h2:=(hbm.2 q hq).1;omega
 obtain⟨tb,ot,hA,uA,vA⟩:=hp4.toks;have aA:=hT _ _ hA;refine⟨⟨⟨?_,⟨tb,ot,hA,uA,λi t hi j u hu=>?_⟩,hp4.lt,hp4.fin,hp4.room⟩,?_,?_,⟨?_,?_⟩,?_,?_,?_,?_,h.low,?_⟩,hbx7⟩
 ·exact(hkeep p hp4.chg1 (λe=>by have:=hrow p e.symm;omega) zo).trans hp4.self
 ·exact xA _ u (by have:=h6.chg.size;show tb<_;omega) (λe=>by have:=hrow tb e.symm;omega) (by show tb≠bx;omega) (vA i t hi j u hu)
 ·exact JA hown hst zr
 ·intro a ha
  rcases List.mem_append.1 ha with ha'|ha'
  ·exact JK a (h6.ats a ha') λq hq=>hkeep q (hft q (JC ha q hq)).2 (yA q (JC ha q hq)) (zu ((hft q (JC ha q hq)).1))
  ·obtain rfl:a=b:=by simpa using ha'
   exact JK a hbt λq hq=>hkeep q (hft q (JC ha q hq)).2 (yA q (JC ha q hq)) (zu ((hft q (JC ha q hq)).1))
 ·rw[Vw]
  exact List.nodup_append.2 ⟨h.fts.1,hbm.1,λx hx y hy e=>by
   subst e;have:=(h.fts.2 x hx).2;have:=(hbm.2 x hy).1
   omega⟩
 ·intro q hq;have:=hft q hq;rw[hs7];omega
 ·intro g hg hm;have h1:=hft g hm
  rcases hfr with e|e
  ·exact yA g hm (hg.symm.trans e)
  ·rw[e]at hg;simp at hg;omega
 ·have:=Jm hbx7 4 V';exact this
 ·exact(hkeep _ (Jb h6.res) (λe=>by have:=hrow _ e.symm;omega) zo).trans h6.res
 ·refine⟨?_,?_,?_,?_,λq hq hn=>?_⟩
  ·exact hgr.os.trans h6.chg.os
  ·exact hgr.tape.trans h6.chg.tape
  ·exact hgr.output.trans h6.chg.output
  ·have:=h6.chg.size;rw[hs7];omega
  ·exact(hkeep q (Nat.lt_of_lt_of_le hq h6.chg.size) (λe=>by have:=hrow q e.symm;omega) zo).trans (h6.chg.block q hq hn)
 ·have:=h6.lle;rw[hs7];omega
def Jck(r:List Tok):(∃nm r',Qbb r=.ok nm r')\/Qbb r=.bad (hd r).off:=by
 unfold Qbb;split
 ·exact .inl ⟨_,_,rfl⟩
 ·exact .inr rfl
def Jjz(f:Nat)(r:List Tok):pM (f+1) .named r=(Qbb r).bind λnm r1=>
   match acc 3 [40] r1 with
   |none=>.ok (.mk 2 0 nm.1 nm.2 []) r1
   |some r2=>
    match acc 3 [41] r2 with
    |some r3=>.ok (.mk 20 0 nm.1 nm.2 []) r3
    |none=>pM f (.args nm.1 nm.2 []) r2:=by rw[pM];rfl
def JlR(f:Nat)(nm:By)(o:Int)(l:List Nd)(r:List Tok):pM (f+1) (.args nm o l) r=(pM f .expr r).bind λa r1=>
   match acc 3 [44] r1 with
   |some r2=>pM f (.args nm o (l++[a])) r2
   |none=>(Qar 3 [41] r1).bind λ_ r2=>.ok (.mk 20 0 nm o (l++[a])) r2:=by rw[pM];rfl
def Jf{W:World}{b:Nat}{o X:Obj}(h:W.heap[b]?=some o):(W.alloc X).heap[b]?=some o:=(heap_alloc_old _ _ (Jb h)).trans h
structure NmB(nm:By)(of kd:Int)(p:Nat)(A:Option Addr)(C:Nat)(T:List Tok)(w:World)(bx:Nat)(W:World)(k2:Nat):Prop where
 pat:PAt W p A C T k2
 box:W.heap[bx]?=some (.cells #[Iv kd,Iv 0,Sv nm,Iv of,Nl] 127 (0,0))
 res:W.heap[w.heap.size]?=some (.cells #[Iv 0,Iv 0,Em,Iv 0,Nl] 127 (0,0))
 chg:Chg [p] w W
 low:w.heap.size<bx/\p<w.heap.size
def NmB.on{nm:By}{of kd:Int}{p:Nat}{A:Option Addr}{C:Nat}{T:List Tok}{w:World}{bx:Nat}{wr W:World}{k2 k3:Nat}(h:NmB nm of kd p A C T w bx wr k2)(hP:PAt W p A C T k3)(hc:Chg [p] wr W):NmB nm of kd p A C T w bx W k3:=by
 obtain⟨l1,l2⟩:=h.low;exact⟨hP,hc.heap_some zr h.box,hc.heap_some zr h.res,h.chg.trans hc,h.low⟩
def NmB.set{nm:By}{of kd:Int}{p:Nat}{A:Option Addr}{C:Nat}{T:List Tok}{w:World}{bx:Nat}{W:World}{k2:Nat}(h:NmB nm of kd p A C T w bx W k2)(hT:∀b o,A=some ⟨b,o,none⟩->b<w.heap.size)(kd':Int):NmB nm of kd' p A C T w bx (W.setCell ⟨bx,0,none⟩ (Iv kd')) k2:=by
 obtain⟨l1,l2⟩:=h.low;have hc:Chg [bx] W (W.setCell ⟨bx,0,none⟩ (Iv kd')):=(Chg.refl _ _).setCell (.inl (by simp:bx∈[bx])) (p:=⟨bx,0,none⟩) _;refine⟨h.pat.setFar zo (λb o e=>by have:=hT b o e;omega) 0 _,?_,hc.heap_some zr h.res,h.chg.step hc λq hq=>.inr (by simp at hq;omega),h.low⟩;have:=Jm h.box 0 (Iv kd');exact this
def NmB.start{nm:By}{of:Int}{p:Nat}{A:Option Addr}{C:Nat}{T:List Tok}{w:World}{bx:Nat}{W:World}{k2:Nat}(h:NmB nm of 20 p A C T w bx W k2):NmI nm of p A C T w W.heap.size bx W k2 [] Nl:=by
 obtain⟨l1,l2⟩:=h.low;exact⟨h.pat,World.ownsRow_nil _ _ _ _,by simp,by simp[Qak],by simp[Qak],h.box,h.res,h.chg,⟨l1,Jb h.box,l2⟩,le_refl _⟩
def NmI.fin{nm:By}{of:Int}{p:Nat}{A:Option Addr}{C:Nat}{T:List Tok}{w:World}{lo bx:Nat}{wr:World}{k2:Nat}{l:List An}{V:Value}(h:NmI nm of p A C T w lo bx wr k2 l V)(hl:l≠[])(hT:∀b o,A=some ⟨b,o,none⟩->b<w.heap.size) :
  ∃g c,V=.slice (some ⟨g,0,none⟩) l.length c/\∀v0 v1 v2 v3 v4,(An.mk 20 0 nm of g c l).At (put5 wr w.heap.size v0 v1 v2 v3 v4)/\Qce w.heap.size (put5 wr w.heap.size v0 v1 v2 v3 v4).heap.size (An.mk 20 0 nm of g c l)/\PAt (put5 wr w.heap.size v0 v1 v2 v3 v4) p A C T k2/\Chg [p] w (put5 wr w.heap.size v0 v1 v2 v3 v4):=by
 obtain⟨l1,l2,l3⟩:=h.low
 rcases h.own.2 with⟨_,e⟩|⟨g,c,cur,rfl,hg,hgg,hn,hm,hs,ht⟩
 ·exact absurd (List.eq_nil_of_length_eq_zero e) hl
 have hlt:=Jb hgg;refine⟨g,c,rfl,λv0 v1 v2 v3 v4=>?_⟩;have hc:=Kj (S:=[w.heap.size]) (W:=wr) v0 v1 v2 v3 v4 (by simp:w.heap.size∈[w.heap.size]);have hrow:(put5 wr w.heap.size v0 v1 v2 v3 v4).heap[g]?=some (.cells cur 127 (0,0)):=hc.heap_some zr hgg;refine⟨?_,?_,h.pat.put5 zo (λb o e=>by have:=hT b o e;omega) _ _ _ _ _,h.chg.step hc λb hb=>.inr (by simp at hb;omega)⟩
 ·unfold An.At;refine⟨λ_ j=>Jc hrow j,KN l 0 (λj u hu=>?_) λa ha=>?_⟩
  ·rw[Nat.zero_mul,Nat.zero_add,Ja hrow];rw[<- ht,List.getElem?_take]at hu;split at hu
   ·simpa using hu
   ·cases hu
  ·exact JK a (h.ats a ha) λb hb=>by
    have:=h.fts.2 b (JC ha b hb);exact hc.block b this.2 zr
 ·rw[Kl]
  cases l with
  |nil=>exact absurd rfl hl
  |cons x r=>
   unfold Qce foot;refine⟨List.nodup_cons.2 ⟨h.dis g rfl,h.fts.1⟩,λq hq=>?_⟩
   rcases List.mem_cons.1 hq with rfl|hq
   ·exact⟨by omega,hlt⟩
   ·have:=h.fts.2 q hq;exact⟨by omega,this.2⟩
theorem Qid{P:Prop}(h:P:=by
  rw[HR.o,HX2.o];obtain⟨e1,e2⟩:=Jbv HNB.o.pat HNB.o.chg HPL.o HTL.o _ _ _ _ _
  exact⟨_,JdH _ _ _ _,rfl,JdD _ _ _ _ _,ZH _ _ _ _ _ _,⟨_,rfl,e1⟩,e2⟩):P:=h
def JgX(f p:Nat)(A:Option Addr)(C:Nat)(T:List Tok)(hf:f<=100000000)(hx:∀t∈T,t.text.length<=1000000)
  (I1:∀g,g<=f->∀k w,PAt w p A C T k->pM g .expr (T.drop k)≠.out->Calls prog 88 #[Pt p] w (NdP p A C T w (pM g .expr (T.drop k))))
  (k:Nat) (w:World) (h:PAt w p A C T k) (hne:pM (f+1) .named (T.drop k)≠.out) :
  Calls prog 169 #[Pt p] w (NdP p A C T w (pM (f+1) .named (T.drop k))):=by
 obtain⟨X,hX⟩:∃X,pM (f+1) .named (T.drop k)=X:=⟨_,rfl⟩
 have iA:=Jjz f (T.drop k);rw[hX]at hne iA |-;obtain⟨R,hR⟩:∃R,NdP p A C T w X=R:=⟨_,rfl⟩
 rw[hR];have HR:Hi (R=NdP p A C T w X):=hR.symm;have HNE:=Zh hne;have hZ:=zQ w (.cells #[Iv 0,Iv 0,Em,Iv 0,Nl] 127);have hB:=(Below.refl w.heap.size w).alloc zP (.cells #[Iv 0,Iv 0,Em,Iv 0,Nl] 127);have HP:=Zh (h.chg hB);have HZ:=Zh hZ;have HB:=Zh hB;have HPL:=Zh h.chg1;have HTL:=Zh h.tokLt;have jA:=Zh iA;have hpz:w.heap.size≠p:=by have:=HPL.o;omega
 clear h hne hR hZ hB iA hX;go_enter func169,ntmps169;go_wp2_with fail;refine(VO p A C T k _ HP.o hx).mono ?_;intro e w1 h1
 rcases Jck (T.drop k) with⟨nm,r,hi⟩|hi
 ·rw[hi]at h1;obtain⟨rfl,⟨k1,rfl,hp1⟩,hc1⟩:=h1;have nA:=hc1.heap_some (by simp;exact hpz) HZ.o
  have HX1:Hi (X=(match acc 3 [40] (T.drop k1) with
   |none=>.ok (.mk 2 0 nm.1 nm.2 []) (T.drop k1)
   |some r2=>
    match acc 3 [41] r2 with
    |some r3=>.ok (.mk 20 0 nm.1 nm.2 []) r3
    |none=>pM f (.args nm.1 nm.2 []) r2)):=by rw[Hi,jA.o,hi];rfl
  have HP1:=Zh hp1;have HC1:=Zh ((Chg.of_below HB.o [p]).trans hc1);have hA:=Zh nA;clear hi hp1 hc1 nA jA HP HB HZ;obtain⟨nm,of⟩:=nm;unfold Qgh;dsimp only at HX1 |-
  have HNB:Hi (NmB nm of 2 p A C T w (w1.heap.size+1) ((w1.alloc (.cells #[Sv nm,Iv of] 144)).alloc (.cells #[Iv 2,Iv 0,Sv nm,Iv of,Nl] 127)) k1):=by
   have hb:Below w1.heap.size w1 ((w1.alloc (.cells #[Sv nm,Iv of] 144)).alloc (.cells #[Iv 2,Iv 0,Sv nm,Iv of,Nl] 127)):=(zO.alloc zP _).alloc zq _;have hn:=zQ (w1.alloc (.cells #[Sv nm,Iv of] 144)) (.cells #[Iv 2,Iv 0,Sv nm,Iv of,Nl] 127);rw[World.size_alloc]at hn;exact⟨HP1.o.chg hb,hn,(hb.block _ (Jb hA.o)).trans hA.o,HC1.o.trans (Chg.of_below hb [p]),by have:=Jb hA.o;omega,HPL.o⟩
  clear HP1 HC1 hA;go_wp2_with fail;generalize World.alloc (World.alloc w1 _) _=W2 at *;generalize w1.heap.size+1=bx at *;generalize w1.heap.size=lb at *;have rA:bx≠w.heap.size:=by have:=HNB.o.low;omega
  have yB:w.heap.size≠bx:=by have:=HNB.o.low;omega
  have tA:bx≠p:=by have:=HNB.o.low;omega
  have sA:p≠bx:=by have:=HNB.o.low;omega
  refine(Jt p A C T k1 3 [40] W2 HNB.o.pat zp).mono ?_;intro e w3 h2
  rcases h2 with⟨g1,g2,rfl,hp2,hc2⟩|⟨g1,rfl,hb2⟩
  ·have xA:=HX1.o;rw[JN g1 g2]at xA;dsimp only at xA;have HX2:=Zh xA;replace HNB:=Zh (HNB.o.on hp2 hc2);have mA:=Zh (HNB.o.set HTL.o 20);have f0:=Jc HNB.o.box 0;have b0:=Ja HNB.o.box 0;have uB:=Jb HNB.o.box;simp only[zW]at b0;clear g1 g2 hp2 hc2 xA HX1;go_wp2_with fail;clear f0 b0 uB HNB;have HNB:=mA;clear mA;generalize World.setCell w3 _ _=W3 at *;refine(Jt p A C T (k1+1) 3 [41] W3 HNB.o.pat zp).mono ?_;intro e w4 h4
   rcases h4 with⟨g1,g2,rfl,hp2,hc2⟩|⟨g1,rfl,hb2⟩
   ·have xA:=HX2.o;rw[JN g1 g2]at xA;dsimp only at xA;replace HX2:=Zh xA;replace HNB:=Zh (HNB.o.on hp2 hc2);clear g1 g2 hp2 hc2 xA;have hrs:=HNB.o.res;have hbx:=HNB.o.box;have b5:=Jl hbx;have z5:=Jl hrs;have y5:=Js hrs;clear hrs hbx I1;go_wp2;refine bodyPost_ret (v:=.agg (Qaa (QcL 20 0 nm of))) (by rw[Kg];exact results_cell_row rfl _ _ w.heap.size 127 _ (0,0) _ rfl (Qcv _ _ _ _ _ HNB.o.res) underlying127 rfl Qau) rfl ?_;exact Qid
   ·have xA:=HX2.o;rw[Kf g1]at xA;dsimp only at xA;replace HX2:=Zh xA;replace HNB:=Zh (HNB.o.on (HNB.o.pat.chg hb2) (Chg.of_below hb2 [p]));have kA:Hi (∃k2 l V,NmI nm of p A C T w w4.heap.size bx w4 k2 l V/\pM f (.args nm of (ndL l)) (T.drop k2)=X/\f+l.length<=f):=⟨_,[],_,HNB.o.start,HX2.o.symm,le_refl _⟩
    generalize w4.heap.size=lo at *;clear g1 hb2 xA HX2 HNB;go_wp2_with fail;go_loopg [] f λg wr=>Hi (∃k2 l V,NmI nm of p A C T w lo bx wr k2 l V/\pM g (.args nm of (ndL l)) (T.drop k2)=X/\g+l.length<=f)
    case atStart=>exact kA
    case round=>
    clear kA;obtain⟨wl,rfl⟩:=zJ wr;obtain⟨k2,l,V,hI,vA,qA⟩:=hrel.o
    cases gk with
    |zero=>exact absurd vA.symm HNE.o
    |succ f2=>
    obtain⟨va,vn,vc,rfl⟩:=Jk hI.own;rw[JlR]at vA;have hne3:pM f2 .expr (T.drop k2)≠.out:=KB (by rw[vA];exact HNE.o);have hD:Below wl.heap.size wl wl.drew:=(Below.refl wl.heap.size wl).drew;have HI:=Zh (hI.on (hI.pat.chg hD) (Chg.of_below hD [p]));have dA:=Zh vA;have xB:l.length<=100000000:=zo;have hf2:f2<=f:=zo;have zB:Hi (f2+1+l.length<=f):=qA;clear hI vA qA hrel hD;go_upto_region 8 with fail;have b4:=Ja HI.o.box 4;simp only[zW]at b4;refine LB (λW=>W.cell? ⟨bx,4,none⟩=some (.slice va vn vc)) 7 (by simp[*,World.cell?_alloc_some]) λhH=>?_
    refine LK 0 rfl ?_;refine LK 1 rfl ?_;refine LK 2 rfl ?_;refine LO 3 rfl λK hK=>?_
    go_simp;go_at_call 88;refine NdP.call (I1 f2 hf2 k2 _ HI.o.pat hne3) hne3 (λq _ hx4 hc6=>by exact⟨rfl,by rw[HR.o,<- dA.o,hx4];exact⟨rfl,HI.o.chg.trans hc6⟩⟩) λb w6 k4 yA yn yc hx4 hcg B=>?_
    have eA:=Zh (HI.o.on B.2.2.1 B.2.2.2);have bA:=Zh B;have HX4:=Zh hx4;have HOW:=Zh (eA.o.own.alloc (.cells #[Iv b.kind,Iv b.num,.string (bs b.name),Iv b.off,.slice yA yn yc] 127));have HRW:Hi ((w6.alloc (.cells #[Iv b.kind,Iv b.num,.string (bs b.name),Iv b.off,.slice yA yn yc] 127)).heap[w6.heap.size]?=some (.cells (Qaa b) 127 (0,0))):=by rw[Hi,hcg];exact zQ _ _
    have hlo6:lo<=(w6.alloc (.cells #[Iv b.kind,Iv b.num,.string (bs b.name),Iv b.off,.slice yA yn yc] 127)).heap.size:=by have:=eA.o.lle;rw[World.size_alloc];omega
    replace b4:=Ja eA.o.box 4;simp only[zW]at b4;clear hx4 B hcg hne3 eA;refine zU hK (b4) λhH=>?_
    clear hK K;refine LO 4 rfl λK hK=>?_
    go_simp;refine zU hK (by simp[*,World.cell?_alloc_some]) λhH=>?_
    clear hK K;refine LO 5 rfl λK hK=>?_
    (refine Km (w6.alloc (.cells #[Iv b.kind,Iv b.num,.string (bs b.name),Iv b.off,.slice yA yn yc] 127)) zt (.tmp 21) (.tmp 24) zt lo (.slice va vn vc) l b zt HOW.o w6.heap.size zt HRW.o xB hlo6 ?_;intro v7 w7 hown7 hgr7 hfr7)
    obtain⟨a7,m7,c7,rfl⟩:=Jk hown7;obtain⟨hst,hbx7⟩:=NmI.step HI.o bA.o.1 bA.o.2.1 bA.o.2.2.1 bA.o.2.2.2 HTL.o hown7 hgr7 hfr7;have HST:=Zh hst;replace b4:=Ja hbx7 4;simp only[zW]at b4;have f4:=Jc hbx7 4;have hl7:=Jb hbx7;clear hown7 hgr7 hfr7 hst hbx7 HOW HRW hlo6 bA;refine zU hK (b4) λhH=>?_
    clear hK K;refine LK 6 rfl ?_;refine LZ 7 rfl λK hK=>?_
    go_simp;clear b4 f4 hl7;refine hK.out _ _ ?_;clear hK K;go_wp2_with fail;generalize World.setCell w7 _ _=W7 at *;refine(Jt p A C T k4 3 [44] W7 HST.o.pat zp).mono ?_;intro e w8 h8;have zA:=dA.o;rw[HX4.o]at zA;simp only[PR.bind]at zA
    rcases h8 with⟨g1,g2,rfl,hp8,hc8⟩|⟨g1,rfl,hb8⟩
    ·rw[JN g1 g2]at zA;dsimp only at zA;have uA:=Zh (HST.o.on hp8 hc8);rw[<- Vf]at zA;have cA:=Zh zA;clear zA g1 g2 hp8 hc8 HST dA HX4;go_wp2;go_roundg f2
     case measure=>exact Nat.lt_succ_self _
     case rel=>exact⟨_,_,_,uA.o,cA.o,by have:=zB.o;rw[List.length_append,List.length_singleton];omega⟩
    ·rw[Kf g1]at zA;dsimp only at zA;have uA:=Zh (HST.o.on (HST.o.pat.chg hb8) (Chg.of_below hb8 [p]));rw[<- Vf]at zA;have cA:=Zh zA;clear zA g1 hb8 HST dA HX4 I1;go_wp2_with fail;refine(Qdv p A C T k4 [41] w8 uA.o.pat).mono ?_;intro e w9 h9
     rcases KD 3 [41] (T.drop k4) with⟨r9,ha⟩|ha
     ·rw[ha]at h9;obtain⟨rfl,⟨k9,vB,pA⟩,hc9⟩:=h9;subst vB;have gA:=Zh (uA.o.on pA hc9);obtain⟨g9,c9,hV,aA⟩:=gA.o.fin zq HTL.o;have aB:Hi (X=.ok (An.mk 20 0 nm of g9 c9 (l++[b])).nd (T.drop k9)):=by rw[Hi,<- cA.o,ha];rfl
      have HFIN:=Zh aA
      have HCF:Hi (Qaa (An.mk 20 0 nm of g9 c9 (l++[b]))=#[Iv 20,Iv 0,Sv nm,Iv of,.slice a7 m7 c7]):=by
       rw[Hi,hV]
       show #[_,_,_,_,Qaz g9 c9 (l++[b])]=_
       unfold Qaz;rw[if_neg zq]
      have hbx:=gA.o.box;have hrs:=gA.o.res;have b5:=Jl hbx;have z5:=Jl hrs;have y5:=Js hrs;have HRS:=Zh hrs;clear hrs hbx ha pA hc9 hV aA gA uA cA;go_wp2;refine bodyPost_ret (v:=.agg (Qaa (An.mk 20 0 nm of g9 c9 (l++[b])))) (by rw[HCF.o];exact results_cell_row rfl _ _ w.heap.size 127 _ (0,0) _ rfl (Qcv _ _ _ _ _ HRS.o) underlying127 rfl Qau) rfl ?_;rw[HR.o,aB.o];exact QgU
     ·rw[ha]at h9;obtain⟨rfl,hc9⟩:=h9;refine⟨rfl,?_⟩;rw[HR.o,<- cA.o,ha];exact⟨rfl,uA.o.chg.trans hc9⟩
  ·have xA:=HX1.o;rw[Kf g1]at xA;dsimp only at xA;have HX2:=Zh xA;replace HNB:=Zh (HNB.o.on (HNB.o.pat.chg hb2) (Chg.of_below hb2 [p]));clear g1 hb2 xA HX1;have hrs:=HNB.o.res;have hbx:=HNB.o.box;have b5:=Jl hbx;have z5:=Jl hrs;have y5:=Js hrs;clear hrs hbx I1;go_wp2;refine bodyPost_ret (v:=.agg (Qaa (QcL 2 0 nm of))) (by rw[Kg];exact results_cell_row rfl _ _ w.heap.size 127 _ (0,0) _ rfl (Qcv _ _ _ _ _ HNB.o.res) underlying127 rfl Qau) rfl ?_;exact Qid
 ·rw[hi]at h1;obtain⟨rfl,hc1⟩:=h1;refine⟨rfl,?_⟩;rw[HR.o,jA.o,hi];exact⟨rfl,(Chg.of_below HB.o [p]).trans hc1⟩
def Jnz(f:Nat){r r1:List Tok}(h:acc 0 QgA r=some r1):pM (f+1) .expr r=(Qbb r1).bind λnm r2=>(Qar 3 [61] r2).bind λ_ r3=>(pM f .expr r3).bind λv r4=>(Qar 0 kIn r4).bind λ_ r5=>(pM f .expr r5).bind λb r6=>.ok (.mk 19 0 nm.1 (hd r).off [v,b]) r6:=by rw[pM,h]
def Jos(f:Nat){r r1:List Tok}(h0:acc 0 QgA r=none)(h:acc 0 kIf r=some r1):pM (f+1) .expr r=(pM f .expr r1).bind λc r2=>(Qar 0 Qen r2).bind λ_ r3=>(pM f .expr r3).bind λy r4=>(Qar 0 Qfs r4).bind λ_ r5=>(pM f .expr r5).bind λz r6=>.ok (.mk 18 0 [] (hd r).off [c,y,z]) r6:=by rw[pM,h0,h]
def Jot(f:Nat){r:List Tok}(h0:acc 0 QgA r=none)(h:acc 0 kIf r=none):pM (f+1) .expr r=pM f (.level 1) r:=by rw[pM,h0,h]
def JgY{α β:Type}(a:α)(r:List Tok)(f:α->List Tok->PR β):(PR.ok a r).bind f=f a r:=rfl
structure Bx(p lo hi:Nat)(W:World)(bx:Nat)(a:An):Prop where
 at':a.At W
 made:Qce lo hi a
 hle:lo<=hi/\hi<=W.heap.size
 box:W.heap[bx]?=some (.cells (Qaa a) 127 (0,0))
 ne:bx≠p
 lt:p<lo
def Bx.on{p lo hi:Nat}{W W':World}{bx:Nat}{a:An}(h:Bx p lo hi W bx a)(hc:Chg [p] W W'):Bx p lo hi W' bx a:=
 ⟨JaE h.at' h.made hc h.hle.2 λb hb=>by have:=h.lt;simp at hb;omega,h.made,⟨h.hle.1,Nat.le_trans h.hle.2 hc.size⟩,hc.heap_some (by simp;exact h.ne) h.box,h.ne,h.lt⟩
def Bx.make{p:Nat}{w2 w3:World}{a:An}{A:Option Addr}{C:Nat}{T:List Tok}{k:Nat}(hat:a.At w3)(hm:Qce w2.heap.size w3.heap.size a)(hp:p<w2.heap.size)(hP:PAt w3 p A C T k)(hs:w2.heap.size<=w3.heap.size):Bx p w2.heap.size w3.heap.size (w3.alloc (.cells (Qaa a) 127)) w3.heap.size a:=
 ⟨K1 hat hm (zO.alloc zP _) zP,hm,⟨hs,by simp⟩,zQ _ _,Ne.symm (Nat.ne_of_lt hP.chg1),hp⟩
def Bx.cells{p lo hi:Nat}{W:World}{bx:Nat}{a:An}{xA:Option Addr}{xn xc:Nat}(h:Bx p lo hi W bx a)(hf:Qaa a=#[Iv a.kind,Iv a.num,.string (bs a.name),Iv a.off,.slice xA xn xc]) :
  C5 W bx (Iv a.kind) (Iv a.num) (.string (bs a.name)) (Iv a.off) (.slice xA xn xc):=by
 have:=h.box;rw[hf]at this;exact Jl this
def JjA(f p:Nat)(A:Option Addr)(C:Nat)(T:List Tok)(hx:∀t∈T,t.text.length<=1000000)
  (I1:∀k w,PAt w p A C T k->pM f .expr (T.drop k)≠.out->Calls prog 88 #[Pt p] w (NdP p A C T w (pM f .expr (T.drop k))))
  (I2:∀k w,PAt w p A C T k->pM f (.level 1) (T.drop k)≠.out->Calls prog 136 #[Pt p,Iv 1] w (NdP p A C T w (pM f (.level 1) (T.drop k))))
  (k:Nat) (w:World) (h:PAt w p A C T k) (hne:pM (f+1) .expr (T.drop k)≠.out) :
  Calls prog 88 #[Pt p] w (NdP p A C T w (pM (f+1) .expr (T.drop k))):=by
 obtain⟨X,hX⟩:∃X,pM (f+1) .expr (T.drop k)=X:=⟨_,rfl⟩
 have HX0:=Zh hX;rw[hX]at hne |-;obtain⟨R,hR⟩:∃R,R=NdP p A C T w X:=⟨_,rfl⟩
 rw[<- hR];have HR:=Zh hR;have HNE:=Zh hne;have HS:=Zh (NS.start h);have cp:=Kp p A C T k _ HS.o.pat;obtain⟨of,nA⟩:∃of,(hd (T.drop k)).off=of:=⟨_,rfl⟩
 unfold Qfh at cp;have hfl:=JdG (hd (T.drop k));rw[nA]at hfl;have HOF:=Zh nA;generalize Qda (hd (T.drop k))=tv at *;clear h hne hR nA hX;go_enter func88,ntmps88;go_wp2_with fail;refine cp.mono ?_;rintro e w1 ⟨rfl,hb1⟩;replace HS:=Zh (HS.o.up hb1);clear cp hb1;go_wp2_with fail;refine(Jt p A C T k 0 QgA w1 HS.o.pat zp).mono ?_;intro e w2 h2
 rcases h2 with⟨g1,g2,rfl,hp2,hc2⟩|⟨g1,rfl,hb2⟩
 ·have eA:=HX0.o;rw[Jnz f (JN g1 g2),HOF.o]at eA;have HX1:=Zh eA;replace HS:=Zh (HS.o.on hp2 hc2);clear g1 g2 hp2 hc2 eA I2 HX0 HOF;go_wp2_with fail;refine PRp.call (VO p A C T (k+1) _ HS.o.pat hx) (JO HX1.o HNE.o) (λq _ hx hc=>by exact⟨rfl,HS.o.bad HR.o HX1.o hx hc⟩) λnm w3 k3 hxx hp hc=>?_
  obtain⟨nm,qA⟩:=nm;replace HX1:=Zh (Jx HX1.o hxx);have bA:=Zh (zQ w3 (.cells #[Sv nm,Iv qA] 144));have hA:w3.heap.size≠p:=Ne.symm (Nat.ne_of_lt hp.chg1);replace HS:=Zh ((HS.o.on hp hc).new (.cells #[Sv nm,Iv qA] 144));clear hxx hp hc hx;unfold Qgh;dsimp only;go_wp2_with fail;generalize World.alloc w3 _=w3' at *;generalize w3.heap.size=lb at *;go_wp2_with fail;refine PRp.call (Qdv p A C T k3 [61] _ HS.o.pat) (J6 _ _ _) (λq _ hx hc=>by exact⟨rfl,HS.o.bad HR.o HX1.o hx hc⟩) λ_ w4 k4 hx hp hc=>?_
  replace HX1:=Zh (Jx HX1.o hx);replace HS:=Zh (HS.o.on hp hc);replace bA:=Zh (hc.heap_some (by simp;exact hA) bA.o);clear hx hp hc;go_wp2_with fail;refine NdP.call (I1 k4 _ HS.o.pat (JO HX1.o HNE.o)) (JO HX1.o HNE.o) (λq _ hx hc=>by exact⟨rfl,HS.o.bad HR.o HX1.o hx hc⟩) λva w5 k5 vaA van vac hx hcf B=>?_
  have hc:=B.2.2.2.alloc (.cells (Qaa va) 127);have zA:=Zh (Bx.make B.1 B.2.1 HS.o.plt B.2.2.1 B.2.2.2.size);have cA:=Zh HS.o.lt;replace HX1:=Zh (Jx HX1.o hx);replace HS:=Zh ((HS.o.on B.2.2.1 B.2.2.2).new (.cells (Qaa va) 127));replace bA:=Zh (hc.heap_some (by simp;exact hA) bA.o);have vA:=Zh hcf;rw[hcf]at zA HS bA;clear hx hcf B hc;go_wp2_with fail;generalize World.alloc w5 _=w5' at *;generalize w5.heap.size=bxa at *;generalize w4.heap.size=lova at *;go_wp2_with fail;refine PRp.call (Qfn p A C T k5 kIn _ HS.o.pat) (J6 _ _ _) (λq _ hx hc=>by exact⟨rfl,HS.o.bad HR.o HX1.o hx hc⟩) λ_ w6 k6 hx hp hc=>?_
  replace HX1:=Zh (Jx HX1.o hx);replace HS:=Zh (HS.o.on hp hc);replace bA:=Zh (hc.heap_some (by simp;exact hA) bA.o);replace zA:=Zh (zA.o.on hc);clear hx hp hc;have aA:=JO HX1.o HNE.o;go_upto_region 7 with fail;have hc:=Chg.of_below (Below.refl w6.heap.size w6).drew [p];replace HS:=Zh HS.o.dr;replace bA:=Zh (hc.heap_some (by simp;exact hA) bA.o);replace zA:=Zh (zA.o.on hc);have q1:=Jcg bA.o;have q2:=zA.o.cells vA.o;have gA:Hi (bxa<=w6.drew.heap.size):=zA.o.hle.2;refine LB (λW=>W.cell? ⟨lb,0,none⟩=some (Sv nm)/\C5 W bxa (Iv va.kind) (Iv va.num) (.string (bs va.name)) (Iv va.off) (.slice vaA van vac)) 8 (⟨q1,q2⟩) λhH=>?_
  refine LK 0 rfl ?_;refine LK 1 rfl ?_;refine LK 2 rfl ?_;refine LK 3 rfl ?_;refine LK 4 rfl ?_;refine LO 5 rfl λK hK=>?_
  go_simp;go_at_call 88;refine NdP.call (I1 k6 _ HS.o.pat aA) aA (λq _ hx hc=>by exact⟨rfl,HS.o.bad HR.o HX1.o hx hc⟩) λb w9 k9 yA yn yc hx hcg B=>?_
  have hc:=B.2.2.2;have iA:=Zh B;have HCG:=Zh hcg;have kA:=Zh (Jx HX1.o hx);replace HS:=Zh (HS.o.on B.2.2.1 B.2.2.2);replace bA:=Zh (hc.heap_some (by simp;exact hA) bA.o);replace zA:=Zh (zA.o.on hc);replace q1:=Jcg bA.o;replace q2:=zA.o.cells vA.o;have r5:=Jl HS.o.res;have f5:=Js HS.o.res;have hl5:=HS.o.lt;clear hx hcg B hc aA;refine zU hK (⟨q1,q2⟩) λhH=>?_
  clear hK K;refine LO 6 rfl λK hK=>?_
  go_simp;refine zU hK (by simp[*,C5,World.cell?_alloc_some,World.cell?_setCell_far]) λhH=>?_
  clear hK K;refine LK 7 rfl ?_;refine LZ 8 rfl λK hK=>?_
  go_simp;clear q1 q2 r5 f5 hl5;refine hK.out _ _ ?_;clear hK K;have mA:Hi (Qdi lova w9.heap.size [va,b]):=⟨bxa,zA.o.hle.1,zA.o.made,w9.heap.size,zA.o.hle.2,iA.o.2.1.mono gA.o zP,le_refl _⟩
  have HFIN:=Zh (λv0 v1 v2 v3 v4=>Zj (w:=w) (W3:=w9) (kids:=[va,b]) (cs:=#[Iv va.kind,Iv va.num,.string (bs va.name),Iv va.off,.slice vaA van vac,Iv b.kind,Iv b.num,.string (bs b.name),Iv b.off,.slice yA yn yc]) zq (by simp[Qdb,vA.o,HCG.o]) (by simp;exact⟨zA.o.at',iA.o.1⟩) mA.o cA.o HS.o.pat HS.o.chg HS.o.pl HS.o.tl 19 0 nm of 2 v0 v1 v2 v3 v4);go_wp2;refine bodyPost_ret (v:=.agg (Qaa (An.mk 19 0 nm of w9.heap.size 2 [va,b]))) (results_cell_row rfl _ _ w.heap.size 127 _ (0,0) _ rfl (V6 _ _ _ _ _ _ HS.o.res) underlying127 rfl Qau) rfl ?_;rw[HR.o,<- kA.o];exact QgU
 ·have hn1:=Kf g1;replace HS:=Zh (HS.o.up hb2);clear g1 hb2;go_wp2_with fail;refine(Jt p A C T k 0 kIf w2 HS.o.pat zp).mono ?_;intro e w3 h3
  rcases h3 with⟨g1,g2,rfl,hp2,hc2⟩|⟨g1,rfl,hb2⟩
  ·have eA:=HX0.o;rw[Jos f hn1 (JN g1 g2),HOF.o]at eA;have HX1:=Zh eA;replace HS:=Zh (HS.o.on hp2 hc2);clear g1 g2 hp2 hc2 eA I2 HX0 HOF hn1 hx;go_wp2_with fail;refine NdP.call (I1 (k+1) _ HS.o.pat (JO HX1.o HNE.o)) (JO HX1.o HNE.o) (λq _ hx hc=>by exact⟨rfl,HS.o.bad HR.o HX1.o hx hc⟩) λva w4 k4 vaA van vac hx hcf B=>?_
   have hc:=B.2.2.2.alloc (.cells (Qaa va) 127);have zA:=Zh (Bx.make B.1 B.2.1 HS.o.plt B.2.2.1 B.2.2.2.size);have cA:=Zh HS.o.lt;replace HX1:=Zh (Jx HX1.o hx);replace HS:=Zh ((HS.o.on B.2.2.1 B.2.2.2).new (.cells (Qaa va) 127));have vA:=Zh hcf;rw[hcf]at zA HS;clear hx hcf B hc;go_wp2_with fail;generalize World.alloc w4 _=w4' at *;generalize w4.heap.size=bxa at *;generalize w3.heap.size=lova at *;go_wp2_with fail;refine PRp.call (Qfn p A C T k4 Qen _ HS.o.pat) (J6 _ _ _) (λq _ hx hc=>by exact⟨rfl,HS.o.bad HR.o HX1.o hx hc⟩) λ_ w5 k5 hx hp hc=>?_
   replace HX1:=Zh (Jx HX1.o hx);replace HS:=Zh (HS.o.on hp hc);replace zA:=Zh (zA.o.on hc);clear hx hp hc;go_wp2_with fail;refine NdP.call (I1 k5 _ HS.o.pat (JO HX1.o HNE.o)) (JO HX1.o HNE.o) (λq _ hx hc=>by exact⟨rfl,HS.o.bad HR.o HX1.o hx hc⟩) λvb w6 k6 vbA vbn vbc hx hcf B=>?_
   have hc:=B.2.2.2.alloc (.cells (Qaa vb) 127);have jA:Hi (bxa<=w5.heap.size):=zA.o.hle.2;have uA:=Zh (Bx.make B.1 B.2.1 HS.o.plt B.2.2.1 B.2.2.2.size);have pA:=Zh HS.o.lt;replace HX1:=Zh (Jx HX1.o hx);replace HS:=Zh ((HS.o.on B.2.2.1 B.2.2.2).new (.cells (Qaa vb) 127));replace zA:=Zh (zA.o.on hc);have dA:=Zh hcf;rw[hcf]at uA HS zA;clear hx hcf B hc;go_wp2_with fail;generalize World.alloc w6 _=w6' at *;generalize w6.heap.size=bxb at *;generalize w5.heap.size=lovb at *;go_wp2_with fail;refine PRp.call (Qfn p A C T k6 Qfs _ HS.o.pat) (J6 _ _ _) (λq _ hx hc=>by exact⟨rfl,HS.o.bad HR.o HX1.o hx hc⟩) λ_ w7 k7 hx hp hc=>?_
   replace HX1:=Zh (Jx HX1.o hx);replace HS:=Zh (HS.o.on hp hc);replace zA:=Zh (zA.o.on hc);replace uA:=Zh (uA.o.on hc);clear hx hp hc;have aA:=JO HX1.o HNE.o;go_upto_region 13 with fail;have hc:=Chg.of_below (Below.refl w7.heap.size w7).drew [p];replace HS:=Zh HS.o.dr;replace zA:=Zh (zA.o.on hc);replace uA:=Zh (uA.o.on hc);have q1:=zA.o.cells vA.o;have q2:=uA.o.cells dA.o;have gA:Hi (bxb<=w7.drew.heap.size):=uA.o.hle.2;refine LB (λW=>C5 W bxa (Iv va.kind) (Iv va.num) (.string (bs va.name)) (Iv va.off) (.slice vaA van vac)/\C5 W bxb (Iv vb.kind) (Iv vb.num) (.string (bs vb.name)) (Iv vb.off) (.slice vbA vbn vbc)) 7 (⟨q1,q2⟩) λhH=>?_
   refine LK 0 rfl ?_;refine LK 1 rfl ?_;refine LK 2 rfl ?_;refine LK 3 rfl ?_;refine LO 4 rfl λK hK=>?_
   go_simp;go_at_call 88;refine NdP.call (I1 k7 _ HS.o.pat aA) aA (λq _ hx hc=>by exact⟨rfl,HS.o.bad HR.o HX1.o hx hc⟩) λb w9 k9 yA yn yc hx hcg B=>?_
   have hc:=B.2.2.2;have iA:=Zh B;have HCG:=Zh hcg;have kA:=Zh (Jx HX1.o hx);replace HS:=Zh (HS.o.on B.2.2.1 B.2.2.2);replace zA:=Zh (zA.o.on hc);replace uA:=Zh (uA.o.on hc);replace q1:=zA.o.cells vA.o;replace q2:=uA.o.cells dA.o;have r5:=Jl HS.o.res;have f5:=Js HS.o.res;have hl5:=HS.o.lt;clear hx hcg B hc aA;refine zU hK (⟨q1,q2⟩) λhH=>?_
   clear hK K;refine LO 5 rfl λK hK=>?_
   go_simp;refine zU hK (by simp[*,C5,World.cell?_alloc_some,World.cell?_setCell_far]) λhH=>?_
   clear hK K;refine LK 6 rfl ?_;refine LZ 7 rfl λK hK=>?_
   go_simp;clear q1 q2 r5 f5 hl5;refine hK.out _ _ ?_;clear hK K;have mA:Hi (Qdi lova w9.heap.size [va,vb,b]):=⟨bxa,zA.o.hle.1,zA.o.made,bxb,Nat.le_trans jA.o uA.o.hle.1,uA.o.made.mono jA.o zP,w9.heap.size,uA.o.hle.2,iA.o.2.1.mono gA.o zP,le_refl _⟩
   have HFIN:=Zh (λv0 v1 v2 v3 v4=>Zj (w:=w) (W3:=w9) (kids:=[va,vb,b]) (cs:=#[Iv va.kind,Iv va.num,.string (bs va.name),Iv va.off,.slice vaA van vac,Iv vb.kind,Iv vb.num,.string (bs vb.name),Iv vb.off,.slice vbA vbn vbc,Iv b.kind,Iv b.num,.string (bs b.name),Iv b.off,.slice yA yn yc]) zq (by simp[Qdb,vA.o,dA.o,HCG.o]) (by simp;exact⟨zA.o.at',uA.o.at',iA.o.1⟩) mA.o cA.o HS.o.pat HS.o.chg HS.o.pl HS.o.tl 18 0 [] of 3 v0 v1 v2 v3 v4);go_wp2;refine bodyPost_ret (v:=.agg (Qaa (An.mk 18 0 [] of w9.heap.size 3 [va,vb,b]))) (results_cell_row rfl _ _ w.heap.size 127 _ (0,0) _ rfl (V6 _ _ _ _ _ _ HS.o.res) underlying127 rfl Qau) rfl ?_;rw[HR.o,<- kA.o];exact QgU
  ·have eA:=HX0.o;rw[Jot f hn1 (Kf g1)]at eA;subst eA;replace HS:=Zh (HS.o.up hb2);clear g1 hb2 HX0 HOF hn1 hx I1;go_wp2_with fail;refine NdP.call (I2 k _ HS.o.pat HNE.o) HNE.o (λq _ hx hc=>by exact⟨rfl,by rw[HR.o,hx];exact⟨rfl,HS.o.chg.trans hc⟩⟩) λa w4 k4 xA xn xc hx hcf B=>?_
   have HPS:=Zh (HS.o.pass B);have HX4:=Zh hx;have HCF:=Zh hcf;have h5:=Jl (HS.o.on B.2.2.1 B.2.2.2).res;have y5:=Js (HS.o.on B.2.2.1 B.2.2.2).res;have HZZ:=Zh (HS.o.on B.2.2.1 B.2.2.2).res;clear hx hcf B I2;go_wp2;refine bodyPost_ret (v:=.agg (Qaa a)) (by rw[HCF.o];exact results_cell_row rfl _ _ w.heap.size 127 _ (0,0) _ rfl (Qcv _ _ _ _ _ HZZ.o) underlying127 rfl Qau) rfl ?_;rw[HR.o,HX4.o];obtain⟨e1,e2,e3,e4⟩:=HPS.o _ _ _ _ _;exact⟨_,rfl,rfl,e1,e2,⟨k4,rfl,e3⟩,e4⟩
end Go.Proofs.YtfafpklefknomaaGreatDoor
