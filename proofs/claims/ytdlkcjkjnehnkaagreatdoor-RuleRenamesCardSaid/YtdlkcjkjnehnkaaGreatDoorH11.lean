import Derived.Test.YtdlkcjkjnehnkaaGreatDoorH10
open Nat(le_refl)
namespace Go.Proofs.YtdlkcjkjnehnkaaGreatDoor
open Go.ChangeShapes Go.WideShapes Go.ChangeAt Go.RowKit Go.Lib
open _root_.Go.Proofs.Tryz
set_option linter.all false
set_option maxRecDepth 100000
set_option maxHeartbeats 32000000
theorem QgW:(prog.info? 103).map (fun i=>(i.zero,i.size,i.bytes))=some (some (.agg #[.int .i64 0,.int .i64 0,.string ⟨#[]⟩,.int .i64 0,.slice none 0 0]),5,64):=by kernel_rfl
theorem Jz{S:List Nat}{w w':World}{base e size n:Nat}{v:Value}{xs:List Value}(h:w.ownsRow base e size v n xs)(hc:Chg S w w')(hs:∀ b∈S,b<base):w'.ownsRow base e size v n xs:=by
 refine⟨h.1,h.2.imp id ?_⟩;rintro⟨g,cap,cur,h1,h2,h3,h4⟩;exact⟨g,cap,cur,h1,h2,hc.heap_some (fun hm=>by have:=hs g hm;omega) h3,h4⟩
theorem Jh{w:World}{base e size n:Nat}{v:Value}{xs:List Value}(h:w.ownsRow base e size v n xs):∃ a m c,v=.slice a m c:=by
 rcases h.2 with⟨rfl,_⟩|⟨g,cap,cur,rfl,_⟩<;>exact⟨_,_,_,rfl⟩
theorem K3(l:List An)(a:An):ndL (l++[a])=ndL l++[a.nd]:=by
 induction l with
 |nil=>simp[ndL]
 |cons x r ih=>simp[ndL,ih]
theorem Vf(l:List An)(a:An):Qah (l++[a])=Qah l++foot a:=by
 induction l with
 |nil=>simp[Qah]
 |cons x r ih=>simp[Qah,ih]
theorem JhM(l:List An)(a:An):QcV (l++[a])=QcV l++(Qaa a).toList:=by simp[QcV]
theorem Jep(a:An):∀ u∈(Qaa a).toList,u.oneCell'=true:=by
 obtain⟨xA,xn,xc,h⟩:=Jf a;rw[h];intro u hu;simp at hu
 rcases hu with rfl|rfl|rfl|rfl|rfl<;>rfl
theorem K9{P:Program}(w:World)(base:Nat)(t ty e:TypeId)(i:TypeInfo)(z:Value)(size bytes:Nat)(ht:P.underlying t=some (.slice e))(hi:P.info? e=some i)(hz:i.zero=some z)
  (hsize:i.size=size) (hby:i.bytes=bytes) (hzs:z.cells.size=size) (hsz:0<size)
  (v:Value) (n:Nat) (xs:List Value) (hown:w.ownsRow base e size v n xs)
  (a:Addr) (m c:Nat) (news:List Value) (hl:news.length=m*size) (hnews:∀ j u,news[j]?=some u->w.cell? (a.add j)=some u) (h1:∀ u∈news,u.oneCell'=true) (h0:0<m)
  (h63:n+m<=maxLen) (hbytes:(n+m)*bytes<=140737488355328) (hbase:base<=w.heap.size) :
  ∃ v' w',(Builtin.append_ #[t,t] ty #[v,.slice (some a) m c]).run P w=.ok v' w'/\w'.ownsRow base e size v' (n+m) (xs++news)/\w.grownBy w' v.ownBlock/\
   (v'.ownBlock=v.ownBlock\/v'.ownBlock=some w.heap.size):=by
 obtain⟨v',w',hr,h2,h3,_⟩:=run_append_own (P:=P) w base t ty e i z size bytes ht hi hz hsize hby hzs hsz v n xs hown a m c news hl hnews h1 h63 hbytes hbase;refine⟨v',w',hr,h2,h3,?_⟩;subst hsize;subst hby;have hsmall:n+m<=9223372036854775807:=by simp only[maxLen]at h63;omega
 rcases hown.2 with⟨rfl,rfl⟩|⟨g,cap,cur,rfl,hbg,hg,hnc,hcm,hcs,htake⟩
 ·have hb:=hbytes;simp only[Nat.zero_add]at hb;have hq:=run_append_nil (P:=P) w t ty e i z ht hi hz a m c news hl hnews h0 (by omega) (by omega);rw[hr]at hq;injection hq with h4 h5;rw[h4];exact .inr rfl
 ·by_cases hroom:n+m<=cap
  ·have hfit:n*i.size+news.length<=cur.size:=by rw[hl,hcs,<- Nat.add_mul];exact Nat.mul_le_mul_right _ hroom
   have hq:=run_append_room (P:=P) w t ty e i ht hi g n cap cur hg a m c news hl hnews h1 hroom hfit;rw[hr]at hq;injection hq with h4 h5;rw[h4];exact .inl rfl
  ·have holds:∀ j u,xs[j]?=some u->w.cell? ((⟨g,0,none⟩:Addr).add j)=some u:=hown.cells (g:=g) rfl;have hq:=run_append_grow (P:=P) w t ty e i z ht hi hz ⟨g,0,none⟩ n cap xs hown.1 holds a m c news hl hnews (by omega) (by omega) (growslice_fits (by omega) hbytes);rw[hr]at hq;injection hq with h4 h5;rw[h4];exact .inr rfl
theorem Kl{ops:Array Oper}{o:Oper}{ac:Act}{K:Act->World->Prop}{Q:Exit->Act->World->Prop}{E:Prop}(w:World)(hgd:o.guard=none)(s x:Operand)
  (ho:o.op=.call { callee:=.builtin .append,args:=#[s,x],argTypes:=#[101,101] }) (base:Nat) (v:Value) (l:List An) (a:An) (hs:ac.eval s=v)
  (hown:w.ownsRow base 103 5 v l.length (QcV l)) (rb:Nat) (hx:ac.eval x=.slice (some ⟨rb,0,none⟩) 1 1) (hrow:w.heap[rb]?=some (.cells (Qaa a) 103 (0,0)))
  (h63:l.length<=100000000) (hbase:base<=w.heap.size)
  (h:∀ v' w',w'.ownsRow base 103 5 v' (l++[a]).length (QcV (l++[a]))->w.grownBy w' v.ownBlock->(v'.ownBlock=v.ownBlock\/v'.ownBlock=some w.heap.size)->K (ac.put o.dst v') w') :
  if Region.wanted o (yielded ops ac.tmps)=true then Oper.wp prog o ac w K Q else E:=by
 have hw:Region.wanted o (yielded ops ac.tmps)=true:=by simp[Region.wanted,hgd]
 rw[if_pos hw];obtain⟨i0,hi,hz0,hz1,hz2⟩:=info_parts QgW
 obtain⟨v',w',hr,h1,h2,h3⟩:=K9 (P:=prog) w base 101 o.type 103 i0 _ 5 64 underlying101 hi hz0 hz1 hz2 rfl (by decide) v l.length (QcV l) hown ⟨rb,0,none⟩ 1 1 (Qaa a).toList (by rw[Array.length_toList,J4]) (fun j u hj=>by
  rw[show (⟨rb,0,none⟩:Addr).add j=⟨rb,j,none⟩ by unfold Addr.add;split<;>simp_all]
  exact KO hrow hj) (Jep a) (by decide) (by unfold maxLen;omega) (by omega) hbase
 unfold Oper.wp execOp;simp only[ho,resolve,invoke,builtin,Sem.run_bind,Sem.run_pure,Result.andThen_ok,List.map_toArray,List.map_cons,List.map_nil,hs,hx,hr];rw[<- JhM]at h1;exact h v' w' (by rw[List.length_append];exact h1) h2 h3
structure NmI(nm:List UInt8)(of:Int)(p:Nat)(A:Option Addr)(C:Nat)(T:List Tok)(w:World)(lo bx:Nat)(wr:World)(k2:Nat)(l:List An)(V:Value):Prop where
 pat:PAt wr p A C T k2
 own:wr.ownsRow lo 103 5 V l.length (QcV l)
 ats:∀ a∈l,a.At wr
 fts:(Qah l).Nodup/\∀ b∈Qah l,lo<=b/\b<wr.heap.size
 dis:∀ g,V.ownBlock=some g->g∉Qah l
 box:wr.heap[bx]?=some (.cells #[.int .i64 20,.int .i64 0,.string (bs nm),.int .i64 of,V] 103 (0,0))
 res:wr.heap[w.heap.size]?=some (.cells #[.int .i64 0,.int .i64 0,.string ⟨#[]⟩,.int .i64 0,.slice none 0 0] 103 (0,0))
 chg:Chg [p] w wr
 low:w.heap.size<bx/\bx<lo/\p<w.heap.size
 lle:lo<=wr.heap.size
theorem JB{a:An}{l:List An}(ha:a∈l):∀ b∈foot a,b∈Qah l:=by
 induction l with
 |nil=>cases ha
 |cons x r ih=>
  intro b hb;unfold Qah
  rcases List.mem_cons.1 ha with rfl|ha
  ·exact List.mem_append_left _ hb
  ·exact List.mem_append_right _ (ih ha b hb)
theorem NmI.on{nm:List UInt8}{of:Int}{p:Nat}{A:Option Addr}{C:Nat}{T:List Tok}{w:World}{lo bx:Nat}{wr W:World}{k2 k3:Nat}{l:List An}{V:Value}(h:NmI nm of p A C T w lo bx wr k2 l V)(hP:PAt W p A C T k3)(hc:Chg [p] wr W):NmI nm of p A C T w lo bx W k3 l V:=by
 obtain⟨l1,l2,l3⟩:=h.low
 exact⟨hP,Jz h.own hc (by simp;omega),fun a ha=>JJ a (h.ats a ha) fun b hb=>by
  have:=h.fts.2 b (JB ha b hb)
  exact hc.block b this.2 (by simp;omega),⟨h.fts.1,fun b hb=>⟨(h.fts.2 b hb).1,Nat.lt_of_lt_of_le (h.fts.2 b hb).2 hc.size⟩⟩,h.dis,hc.heap_some (by simp;omega) h.box,hc.heap_some (by simp;omega) h.res,h.chg.trans hc,h.low,Nat.le_trans h.lle hc.size⟩
theorem NmI.step{nm:List UInt8}{of:Int}{p:Nat}{A:Option Addr}{C:Nat}{T:List Tok}{w:World}{lo bx:Nat}{wr w6 w7:World}{k2 k4:Nat}{l:List An}{V V':Value}{b:An}{cs:Array Value}(h:NmI nm of p A C T w lo bx wr k2 l V)
  (hbt:b.At w6) (hbm:QbY wr.heap.size w6.heap.size b) (hp4:PAt w6 p A C T k4) (hc6:Chg [p] wr w6) (hT:∀ b o,A=some ⟨b,o,none⟩->b<w.heap.size)
  (hown:w7.ownsRow lo 103 5 V' (l++[b]).length (QcV (l++[b]))) (hgr:(w6.alloc (.cells cs 103)).grownBy w7 V.ownBlock) (hfr:V'.ownBlock=V.ownBlock\/V'.ownBlock=some (w6.alloc (.cells cs 103)).heap.size) :
  NmI nm of p A C T w lo bx (w7.setCell ⟨bx,4,none⟩ V') k4 (l++[b]) V'/\w7.heap[bx]?=some (.cells #[.int .i64 20,.int .i64 0,.string (bs nm),.int .i64 of,V] 103 (0,0)):=by
 have h6:=h.on hp4 hc6;obtain⟨l1,l2,l3⟩:=h.low;have hb1:Below w6.heap.size w6 (w6.alloc (.cells cs 103)):=zzb.alloc zzl _;have hrow:∀ g,V.ownBlock=some g->lo<=g/\g<w6.heap.size:=fun g hg=>h6.own.lt g hg
 have hg7:∀ q,q<w6.heap.size->some q≠V.ownBlock->w7.heap[q]?=w6.heap[q]?:=fun q hq hn=>(hgr.block q (by simp;omega) hn).trans (hb1.block q hq)
 have hsz:w6.heap.size<w7.heap.size:=by have:=hgr.size;simp at this;omega
 have hbx7:w7.heap[bx]?=some (.cells #[.int .i64 20,.int .i64 0,.string (bs nm),.int .i64 of,V] 103 (0,0)):=(hg7 bx (Jb h6.box) (fun e=>by have:=hrow bx e.symm;omega)).trans h6.box;have hs7:(w7.setCell ⟨bx,4,none⟩ V').heap.size=w7.heap.size:=by simp[World.setCell]
 have hst:Chg [bx] w7 (w7.setCell ⟨bx,4,none⟩ V'):=(Chg.refl _ _).setCell (.inl (by simp:bx∈[bx])) (p:=⟨bx,4,none⟩) V';have hkeep:∀ q,q<w6.heap.size->some q≠V.ownBlock->q≠bx->(w7.setCell ⟨bx,4,none⟩ V').heap[q]?=w6.heap[q]?:=fun q hq hn hne=>(hst.block q (by omega) (by simpa using hne)).trans (hg7 q hq hn)
 have hcell:∀ (q:Addr) u,q.block<w6.heap.size->some q.block≠V.ownBlock->q.block≠bx->w6.cell? q=some u->(w7.setCell ⟨bx,4,none⟩ V').cell? q=some u:=fun q u h1 h2 h3 h4=>(World.cell?_of_block (hkeep q.block h1 h2 h3)).trans h4
 have hft:∀ q∈Qah (l++[b]),lo<=q/\q<w6.heap.size:=by
  intro q hq;rw[Vf]at hq
  rcases List.mem_append.1 hq with hq|hq
  ·have h1:=h.fts.2 q hq;have h2:=hc6.size;exact⟨h1.1,by omega⟩
  ·have h1:=hbm.2 q hq;have h2:=h.lle;exact⟨by omega,h1.2⟩
 have hnV:∀ q∈Qah (l++[b]),some q≠V.ownBlock:=by
  intro q hq e;rw[Vf]at hq
  rcases List.mem_append.1 hq with hq|hq
  ·exact h.dis q e.symm hq
  ·have h1:=(h.own.lt q e.symm).2;have h2:=(hbm.2 q hq).1;omega
 obtain⟨tb,ot,hA,htp,htc⟩:=hp4.toks;have htb:=hT _ _ hA;refine⟨⟨⟨?_,⟨tb,ot,hA,htp,fun i t hi j u hu=>?_⟩,hp4.lt,hp4.fin,hp4.room⟩,?_,?_,⟨?_,?_⟩,?_,?_,?_,?_,h.low,?_⟩,hbx7⟩
 ·exact(hkeep p hp4.chg1 (fun e=>by have:=hrow p e.symm;omega) (by omega)).trans hp4.self
 ·exact hcell _ u (by have:=h6.chg.size;show tb<_;omega) (fun e=>by have:=hrow tb e.symm;omega) (by show tb≠bx;omega) (htc i t hi j u hu)
 ·exact Jz hown hst (by simp;omega)
 ·intro a ha
  rcases List.mem_append.1 ha with ha'|ha'
  ·exact JJ a (h6.ats a ha') fun q hq=>hkeep q (hft q (JB ha q hq)).2 (hnV q (JB ha q hq)) (by have:=(hft q (JB ha q hq)).1;omega)
  ·obtain rfl:a=b:=by simpa using ha'
   exact JJ a hbt fun q hq=>hkeep q (hft q (JB ha q hq)).2 (hnV q (JB ha q hq)) (by have:=(hft q (JB ha q hq)).1;omega)
 ·rw[Vf]
  exact List.nodup_append.2 ⟨h.fts.1,hbm.1,fun x hx y hy e=>by
   subst e;have:=(h.fts.2 x hx).2;have:=(hbm.2 x hy).1
   omega⟩
 ·intro q hq;have:=hft q hq;rw[hs7];omega
 ·intro g hg hm;have h1:=hft g hm
  rcases hfr with e|e
  ·exact hnV g hm (hg.symm.trans e)
  ·rw[e]at hg;simp at hg;omega
 ·have:=J3 hbx7 4 V';exact this
 ·exact(hkeep _ (Jb h6.res) (fun e=>by have:=hrow _ e.symm;omega) (by omega)).trans h6.res
 ·refine⟨?_,?_,?_,?_,fun q hq hn=>?_⟩
  ·exact hgr.os.trans h6.chg.os
  ·exact hgr.tape.trans h6.chg.tape
  ·exact hgr.output.trans h6.chg.output
  ·have:=h6.chg.size;rw[hs7];omega
  ·exact(hkeep q (Nat.lt_of_lt_of_le hq h6.chg.size) (fun e=>by have:=hrow q e.symm;omega) (by omega)).trans (h6.chg.block q hq hn)
 ·have:=h6.lle;rw[hs7];omega
theorem Jbg(r:List Tok):(∃ nm r',Qau r=.ok nm r')\/Qau r=.bad (hd r).off:=by
 unfold Qau;split
 ·exact .inl ⟨_,_,rfl⟩
 ·exact .inr rfl
theorem JhN(f:Nat)(r:List Tok):pM (f+1) .named r=(Qau r).bind fun nm r1=>
   match acc 3 [40] r1 with
   |none=>.ok (.mk 2 0 nm.1 nm.2 []) r1
   |some r2=>
    match acc 3 [41] r2 with
    |some r3=>.ok (.mk 20 0 nm.1 nm.2 []) r3
    |none=>pM f (.args nm.1 nm.2 []) r2:=by rw[pM];rfl
theorem Jkf(f:Nat)(nm:List UInt8)(o:Int)(l:List Nd)(r:List Tok):pM (f+1) (.args nm o l) r=(pM f .expr r).bind fun a r1=>
   match acc 3 [44] r1 with
   |some r2=>pM f (.args nm o (l++[a])) r2
   |none=>(Qaf 3 [41] r1).bind fun _ r2=>.ok (.mk 20 0 nm o (l++[a])) r2:=by rw[pM];rfl
theorem Jg{W:World}{b:Nat}{o X:Obj}(h:W.heap[b]?=some o):(W.alloc X).heap[b]?=some o:=(heap_alloc_old _ _ (Jb h)).trans h
structure NmB(nm:List UInt8)(of kd:Int)(p:Nat)(A:Option Addr)(C:Nat)(T:List Tok)(w:World)(bx:Nat)(W:World)(k2:Nat):Prop where
 pat:PAt W p A C T k2
 box:W.heap[bx]?=some (.cells #[.int .i64 kd,.int .i64 0,.string (bs nm),.int .i64 of,.slice none 0 0] 103 (0,0))
 res:W.heap[w.heap.size]?=some (.cells #[.int .i64 0,.int .i64 0,.string ⟨#[]⟩,.int .i64 0,.slice none 0 0] 103 (0,0))
 chg:Chg [p] w W
 low:w.heap.size<bx/\p<w.heap.size
theorem NmB.on{nm:List UInt8}{of kd:Int}{p:Nat}{A:Option Addr}{C:Nat}{T:List Tok}{w:World}{bx:Nat}{wr W:World}{k2 k3:Nat}(h:NmB nm of kd p A C T w bx wr k2)(hP:PAt W p A C T k3)(hc:Chg [p] wr W):NmB nm of kd p A C T w bx W k3:=by
 obtain⟨l1,l2⟩:=h.low;exact⟨hP,hc.heap_some (by simp;omega) h.box,hc.heap_some (by simp;omega) h.res,h.chg.trans hc,h.low⟩
theorem NmB.set{nm:List UInt8}{of kd:Int}{p:Nat}{A:Option Addr}{C:Nat}{T:List Tok}{w:World}{bx:Nat}{W:World}{k2:Nat}(h:NmB nm of kd p A C T w bx W k2)(hT:∀ b o,A=some ⟨b,o,none⟩->b<w.heap.size)(kd':Int):NmB nm of kd' p A C T w bx (W.setCell ⟨bx,0,none⟩ (.int .i64 kd')) k2:=by
 obtain⟨l1,l2⟩:=h.low;have hc:Chg [bx] W (W.setCell ⟨bx,0,none⟩ (.int .i64 kd')):=(Chg.refl _ _).setCell (.inl (by simp:bx∈[bx])) (p:=⟨bx,0,none⟩) _;refine⟨h.pat.setFar (by omega) (fun b o e=>by have:=hT b o e;omega) 0 _,?_,hc.heap_some (by simp;omega) h.res,h.chg.step hc fun q hq=>.inr (by simp at hq;omega),h.low⟩;have:=J3 h.box 0 (.int .i64 kd');exact this
theorem NmB.start{nm:List UInt8}{of:Int}{p:Nat}{A:Option Addr}{C:Nat}{T:List Tok}{w:World}{bx:Nat}{W:World}{k2:Nat}(h:NmB nm of 20 p A C T w bx W k2):NmI nm of p A C T w W.heap.size bx W k2 [] (.slice none 0 0):=by
 obtain⟨l1,l2⟩:=h.low;exact⟨h.pat,World.ownsRow_nil _ _ _ _,by simp,by simp[Qah],by simp[Qah],h.box,h.res,h.chg,⟨l1,Jb h.box,l2⟩,le_refl _⟩
theorem NmI.fin{nm:List UInt8}{of:Int}{p:Nat}{A:Option Addr}{C:Nat}{T:List Tok}{w:World}{lo bx:Nat}{wr:World}{k2:Nat}{l:List An}{V:Value}(h:NmI nm of p A C T w lo bx wr k2 l V)(hl:l≠[])(hT:∀ b o,A=some ⟨b,o,none⟩->b<w.heap.size) :
  ∃ g c,V=.slice (some ⟨g,0,none⟩) l.length c/\∀ v0 v1 v2 v3 v4,(An.mk 20 0 nm of g c l).At (put5 wr w.heap.size v0 v1 v2 v3 v4)/\QbY w.heap.size (put5 wr w.heap.size v0 v1 v2 v3 v4).heap.size (An.mk 20 0 nm of g c l)/\PAt (put5 wr w.heap.size v0 v1 v2 v3 v4) p A C T k2/\Chg [p] w (put5 wr w.heap.size v0 v1 v2 v3 v4):=by
 obtain⟨l1,l2,l3⟩:=h.low
 rcases h.own.2 with⟨_,e⟩|⟨g,c,cur,rfl,hg,hgg,hn,hm,hs,ht⟩
 ·exact absurd (List.eq_nil_of_length_eq_zero e) hl
 have hlt:=Jb hgg;refine⟨g,c,rfl,fun v0 v1 v2 v3 v4=>?_⟩;have hc:=Ki (S:=[w.heap.size]) (W:=wr) v0 v1 v2 v3 v4 (by simp:w.heap.size∈[w.heap.size]);have hrow:(put5 wr w.heap.size v0 v1 v2 v3 v4).heap[g]?=some (.cells cur 103 (0,0)):=hc.heap_some (by simp;omega) hgg;refine⟨?_,?_,h.pat.put5 (by omega) (fun b o e=>by have:=hT b o e;omega) _ _ _ _ _,h.chg.step hc fun b hb=>.inr (by simp at hb;omega)⟩
 ·unfold An.At;refine⟨fun _ j=>Jc hrow j,KI l 0 (fun j u hu=>?_) fun a ha=>?_⟩
  ·rw[Nat.zero_mul,Nat.zero_add,Ja hrow];rw[<- ht,List.getElem?_take]at hu;split at hu
   ·simpa using hu
   ·cases hu
  ·exact JJ a (h.ats a ha) fun b hb=>by
    have:=h.fts.2 b (JB ha b hb);exact hc.block b this.2 (by simp;omega)
 ·rw[Kk]
  cases l with
  |nil=>exact absurd rfl hl
  |cons x r=>
   unfold QbY foot;refine⟨List.nodup_cons.2 ⟨h.dis g rfl,h.fts.1⟩,fun q hq=>?_⟩
   rcases List.mem_cons.1 hq with rfl|hq
   ·exact⟨by omega,hlt⟩
   ·have:=h.fts.2 q hq;exact⟨by omega,this.2⟩
theorem Qmk{P:Prop}(h:P:=by
  rw[HR.out,HX2.out];obtain⟨e1,e2⟩:=Jaz HNB.out.pat HNB.out.chg HPL.out HTL.out _ _ _ _ _
  exact⟨_,Jcv _ _ _ _,rfl,Jcr _ _ _ _ _,Y0 _ _ _ _ _ _,⟨_,rfl,e1⟩,e2⟩):P:=h
theorem JfD(f p:Nat)(A:Option Addr)(C:Nat)(T:List Tok)(hf:f<=100000000)(hx:∀ t∈T,t.text.length<=1000000)
  (I1:∀ g,g<=f->∀ k w,PAt w p A C T k->pM g .expr (T.drop k)≠.out->Calls prog 67 #[.pointer (some ⟨p,0,none⟩)] w (NdP p A C T w (pM g .expr (T.drop k))))
  (k:Nat) (w:World) (h:PAt w p A C T k) (hne:pM (f+1) .named (T.drop k)≠.out) :
  Calls prog 130 #[.pointer (some ⟨p,0,none⟩)] w (NdP p A C T w (pM (f+1) .named (T.drop k))):=by
 obtain⟨X,hX⟩:∃ X,pM (f+1) .named (T.drop k)=X:=⟨_,rfl⟩
 have hcm:=JhN f (T.drop k);rw[hX]at hne hcm |-;obtain⟨R,hR⟩:∃ R,NdP p A C T w X=R:=⟨_,rfl⟩
 rw[hR];have HR:Hid (R=NdP p A C T w X):=hR.symm;have HNE:=Zh hne;have hZ:=zzw w (.cells #[.int .i64 0,.int .i64 0,.string ⟨#[]⟩,.int .i64 0,.slice none 0 0] 103);have hB:=(Below.refl w.heap.size w).alloc zzl (.cells #[.int .i64 0,.int .i64 0,.string ⟨#[]⟩,.int .i64 0,.slice none 0 0] 103);have HP:=Zh (h.chg hB);have HZ:=Zh hZ;have HB:=Zh hB;have HPL:=Zh h.chg1;have HTL:=Zh h.tokLt;have HLV:=Zh hcm;have hpz:w.heap.size≠p:=by have:=HPL.out;omega
 clear h hne hR hZ hB hcm hX;go_enter func130,ntmps130;go_wp2_with fail;refine(Vp p A C T k _ HP.out hx).mono ?_;intro e w1 h1
 rcases Jbg (T.drop k) with⟨nm,r,hi⟩|hi
 ·rw[hi]at h1;obtain⟨rfl,⟨k1,rfl,hp1⟩,hc1⟩:=h1;have hz1:=hc1.heap_some (by simp;exact hpz) HZ.out
  have HX1:Hid (X=(match acc 3 [40] (T.drop k1) with
   |none=>.ok (.mk 2 0 nm.1 nm.2 []) (T.drop k1)
   |some r2=>
    match acc 3 [41] r2 with
    |some r3=>.ok (.mk 20 0 nm.1 nm.2 []) r3
    |none=>pM f (.args nm.1 nm.2 []) r2)):=by rw[Hid,HLV.out,hi];rfl
  have HP1:=Zh hp1;have HC1:=Zh ((Chg.of_below HB.out [p]).trans hc1);have HZ1:=Zh hz1;clear hi hp1 hc1 hz1 HLV HP HB HZ;obtain⟨nm,of⟩:=nm;unfold Qim;dsimp only at HX1 |-
  have HNB:Hid (NmB nm of 2 p A C T w (w1.heap.size+1) ((w1.alloc (.cells #[.string (bs nm),.int .i64 of] 123)).alloc (.cells #[.int .i64 2,.int .i64 0,.string (bs nm),.int .i64 of,.slice none 0 0] 103)) k1):=by
   have hb:Below w1.heap.size w1 ((w1.alloc (.cells #[.string (bs nm),.int .i64 of] 123)).alloc (.cells #[.int .i64 2,.int .i64 0,.string (bs nm),.int .i64 of,.slice none 0 0] 103)):=(zzb.alloc zzl _).alloc (by simp) _;have hn:=zzw (w1.alloc (.cells #[.string (bs nm),.int .i64 of] 123)) (.cells #[.int .i64 2,.int .i64 0,.string (bs nm),.int .i64 of,.slice none 0 0] 103);rw[World.size_alloc]at hn;exact⟨HP1.out.chg hb,hn,(hb.block _ (Jb HZ1.out)).trans HZ1.out,HC1.out.trans (Chg.of_below hb [p]),by have:=Jb HZ1.out;omega,HPL.out⟩
  clear HP1 HC1 HZ1;go_wp2_with fail;generalize World.alloc (World.alloc w1 _) _=W2 at *;generalize w1.heap.size+1=bx at *;generalize w1.heap.size=lb at *;have hbx1:bx≠w.heap.size:=by have:=HNB.out.low;omega
  have hbx2:w.heap.size≠bx:=by have:=HNB.out.low;omega
  have hbx3:bx≠p:=by have:=HNB.out.low;omega
  have hbx4:p≠bx:=by have:=HNB.out.low;omega
  refine(Jr p A C T k1 3 [40] W2 HNB.out.pat (by decide)).mono ?_;intro e w3 h2
  rcases h2 with⟨g1,g2,rfl,hp2,hc2⟩|⟨g1,rfl,hb2⟩
  ·have hx1:=HX1.out;rw[JP g1 g2]at hx1;dsimp only at hx1;have HX2:=Zh hx1;replace HNB:=Zh (HNB.out.on hp2 hc2);have HNS:=Zh (HNB.out.set HTL.out 20);have f0:=Jc HNB.out.box 0;have b0:=Ja HNB.out.box 0;have hl3:=Jb HNB.out.box;simp only[ZD,ZE,ZF]at b0;clear g1 g2 hp2 hc2 hx1 HX1;go_wp2_with fail;clear f0 b0 hl3 HNB;have HNB:=HNS;clear HNS;generalize World.setCell w3 _ _=W3 at *;refine(Jr p A C T (k1+1) 3 [41] W3 HNB.out.pat (by decide)).mono ?_;intro e w4 h4
   rcases h4 with⟨g1,g2,rfl,hp2,hc2⟩|⟨g1,rfl,hb2⟩
   ·have hx1:=HX2.out;rw[JP g1 g2]at hx1;dsimp only at hx1;replace HX2:=Zh hx1;replace HNB:=Zh (HNB.out.on hp2 hc2);clear g1 g2 hp2 hc2 hx1;have hrs:=HNB.out.res;have hbx:=HNB.out.box;have b5:=Ji hbx;have z5:=Ji hrs;have y5:=Jq hrs;clear hrs hbx I1;go_wp2;refine bodyPost_ret (v:=.agg (Qaa (QcH 20 0 nm of))) (by rw[Kg];exact results_cell_row rfl _ _ w.heap.size 103 _ (0,0) _ rfl (Qct _ _ _ _ _ HNB.out.res) underlying103 rfl Qaw) rfl ?_;exact Qmk
   ·have hx1:=HX2.out;rw[Kf g1]at hx1;dsimp only at hx1;replace HX2:=Zh hx1;replace HNB:=Zh (HNB.out.on (HNB.out.pat.chg hb2) (Chg.of_below hb2 [p]));have HLI:Hid (∃ k2 l V,NmI nm of p A C T w w4.heap.size bx w4 k2 l V/\pM f (.args nm of (ndL l)) (T.drop k2)=X/\f+l.length<=f):=⟨_,[],_,HNB.out.start,HX2.out.symm,le_refl _⟩
    generalize w4.heap.size=lo at *;clear g1 hb2 hx1 HX2 HNB;go_wp2_with fail;go_loopg [] f (fun g wr=>Hid (∃ k2 l V,NmI nm of p A C T w lo bx wr k2 l V/\pM g (.args nm of (ndL l)) (T.drop k2)=X/\g+l.length<=f))
    case atStart=>exact HLI
    case round=>
    clear HLI;obtain⟨wl,rfl⟩:∃ wl:World,wl=wr:=⟨_,rfl⟩
    obtain⟨k2,l,V,hI,heq,hle⟩:=hrel.out
    cases gk with
    |zero=>exact absurd heq.symm HNE.out
    |succ f2=>
    obtain⟨va,vn,vc,rfl⟩:=Jh hI.own;rw[Jkf]at heq;have hne3:pM f2 .expr (T.drop k2)≠.out:=Ky (by rw[heq];exact HNE.out);have hD:Below wl.heap.size wl wl.drew:=(Below.refl wl.heap.size wl).drew;have HI:=Zh (hI.on (hI.pat.chg hD) (Chg.of_below hD [p]));have HEQ:=Zh heq;have hll:l.length<=100000000:=by omega
    have hf2:f2<=f:=by omega
    have HLL:Hid (f2+1+l.length<=f):=hle;clear hI heq hle hrel hD;go_upto_region 8 with fail;have b4:=Ja HI.out.box 4;simp only[ZD,ZE,ZF]at b4;refine LB (fun W=>W.cell? ⟨bx,4,none⟩=some (.slice va vn vc)) 7 (by simp[*,World.cell?_alloc_some]) fun hH=>?_
    refine LK 0 rfl ?_;refine LK 1 rfl ?_;refine LK 2 rfl ?_;refine LO 3 rfl fun K hK=>?_
    go_simp;go_at_call 67;refine NdP.call (I1 f2 hf2 k2 _ HI.out.pat hne3) hne3 (fun q _ hx4 hc6=>by exact⟨rfl,by rw[HR.out,<- HEQ.out,hx4];exact⟨rfl,HI.out.chg.trans hc6⟩⟩) fun b w6 k4 yA yn yc hx4 hcg B=>?_
    have HI6:=Zh (HI.out.on B.2.2.1 B.2.2.2);have HB4:=Zh B;have HX4:=Zh hx4;have HOW:=Zh (HI6.out.own.alloc (.cells #[.int .i64 b.kind,.int .i64 b.num,.string (bs b.name),.int .i64 b.off,.slice yA yn yc] 103));have HRW:Hid ((w6.alloc (.cells #[.int .i64 b.kind,.int .i64 b.num,.string (bs b.name),.int .i64 b.off,.slice yA yn yc] 103)).heap[w6.heap.size]?=some (.cells (Qaa b) 103 (0,0))):=by rw[Hid,hcg];exact zzw _ _
    have hlo6:lo<=(w6.alloc (.cells #[.int .i64 b.kind,.int .i64 b.num,.string (bs b.name),.int .i64 b.off,.slice yA yn yc] 103)).heap.size:=by have:=HI6.out.lle;rw[World.size_alloc];omega
    replace b4:=Ja HI6.out.box 4;simp only[ZD,ZE,ZF]at b4;clear hx4 B hcg hne3 HI6;refine hK.out _ _ (b4) fun hH=>?_
    clear hK K;refine LO 4 rfl fun K hK=>?_
    go_simp;refine hK.out _ _ (by simp[*,World.cell?_alloc_some]) fun hH=>?_
    clear hK K;refine LO 5 rfl fun K hK=>?_
    (refine Kl (w6.alloc (.cells #[.int .i64 b.kind,.int .i64 b.num,.string (bs b.name),.int .i64 b.off,.slice yA yn yc] 103)) (by rfl) (.tmp 21) (.tmp 24) (by rfl) lo (.slice va vn vc) l b (by rfl) HOW.out w6.heap.size (by rfl) HRW.out hll hlo6 ?_;intro v7 w7 hown7 hgr7 hfr7)
    obtain⟨a7,m7,c7,rfl⟩:=Jh hown7;obtain⟨hst,hbx7⟩:=NmI.step HI.out HB4.out.1 HB4.out.2.1 HB4.out.2.2.1 HB4.out.2.2.2 HTL.out hown7 hgr7 hfr7;have HST:=Zh hst;replace b4:=Ja hbx7 4;simp only[ZD,ZE,ZF]at b4;have f4:=Jc hbx7 4;have hl7:=Jb hbx7;clear hown7 hgr7 hfr7 hst hbx7 HOW HRW hlo6 HB4;refine hK.out _ _ (b4) fun hH=>?_
    clear hK K;refine LK 6 rfl ?_;refine LZ 7 rfl fun K hK=>?_
    go_simp;clear b4 f4 hl7;refine hK.out _ _ ?_;clear hK K;go_wp2_with fail;generalize World.setCell w7 _ _=W7 at *;refine(Jr p A C T k4 3 [44] W7 HST.out.pat (by decide)).mono ?_;intro e w8 h8;have hx5:=HEQ.out;rw[HX4.out]at hx5;simp only[PR.bind]at hx5
    rcases h8 with⟨g1,g2,rfl,hp8,hc8⟩|⟨g1,rfl,hb8⟩
    ·rw[JP g1 g2]at hx5;dsimp only at hx5;have HN8:=Zh (HST.out.on hp8 hc8);rw[<- K3]at hx5;have HX5:=Zh hx5;clear hx5 g1 g2 hp8 hc8 HST HEQ HX4;go_wp2;go_roundg f2
     case measure=>exact Nat.lt_succ_self _
     case rel=>exact⟨_,_,_,HN8.out,HX5.out,by have:=HLL.out;rw[List.length_append,List.length_singleton];omega⟩
    ·rw[Kf g1]at hx5;dsimp only at hx5;have HN8:=Zh (HST.out.on (HST.out.pat.chg hb8) (Chg.of_below hb8 [p]));rw[<- K3]at hx5;have HX5:=Zh hx5;clear hx5 g1 hb8 HST HEQ HX4 I1;go_wp2_with fail;refine(QdA p A C T k4 [41] w8 HN8.out.pat).mono ?_;intro e w9 h9
     rcases KC 3 [41] (T.drop k4) with⟨r9,ha⟩|ha
     ·rw[ha]at h9;obtain⟨rfl,⟨k9,hr9,hp9⟩,hc9⟩:=h9;subst hr9;have HN9:=Zh (HN8.out.on hp9 hc9);obtain⟨g9,c9,hV,hfin⟩:=HN9.out.fin (by simp) HTL.out;have HX6:Hid (X=.ok (An.mk 20 0 nm of g9 c9 (l++[b])).nd (T.drop k9)):=by rw[Hid,<- HX5.out,ha];rfl
      have HFIN:=Zh hfin
      have HCF:Hid (Qaa (An.mk 20 0 nm of g9 c9 (l++[b]))=#[.int .i64 20,.int .i64 0,.string (bs nm),.int .i64 of,.slice a7 m7 c7]):=by
       rw[Hid,hV]
       show #[_,_,_,_,QaB g9 c9 (l++[b])]=_
       unfold QaB;rw[if_neg (by simp)]
      have hbx:=HN9.out.box;have hrs:=HN9.out.res;have b5:=Ji hbx;have z5:=Ji hrs;have y5:=Jq hrs;have HRS:=Zh hrs;clear hrs hbx ha hp9 hc9 hV hfin HN9 HN8 HX5;go_wp2;refine bodyPost_ret (v:=.agg (Qaa (An.mk 20 0 nm of g9 c9 (l++[b])))) (by rw[HCF.out];exact results_cell_row rfl _ _ w.heap.size 103 _ (0,0) _ rfl (Qct _ _ _ _ _ HRS.out) underlying103 rfl Qaw) rfl ?_;rw[HR.out,HX6.out];exact QjW
     ·rw[ha]at h9;obtain⟨rfl,hc9⟩:=h9;refine⟨rfl,?_⟩;rw[HR.out,<- HX5.out,ha];exact⟨rfl,HN8.out.chg.trans hc9⟩
  ·have hx1:=HX1.out;rw[Kf g1]at hx1;dsimp only at hx1;have HX2:=Zh hx1;replace HNB:=Zh (HNB.out.on (HNB.out.pat.chg hb2) (Chg.of_below hb2 [p]));clear g1 hb2 hx1 HX1;have hrs:=HNB.out.res;have hbx:=HNB.out.box;have b5:=Ji hbx;have z5:=Ji hrs;have y5:=Jq hrs;clear hrs hbx I1;go_wp2;refine bodyPost_ret (v:=.agg (Qaa (QcH 2 0 nm of))) (by rw[Kg];exact results_cell_row rfl _ _ w.heap.size 103 _ (0,0) _ rfl (Qct _ _ _ _ _ HNB.out.res) underlying103 rfl Qaw) rfl ?_;exact Qmk
 ·rw[hi]at h1;obtain⟨rfl,hc1⟩:=h1;refine⟨rfl,?_⟩;rw[HR.out,HLV.out,hi];exact⟨rfl,(Chg.of_below HB.out [p]).trans hc1⟩
theorem Jlw(f:Nat){r r1:List Tok}(h:acc 0 QeN r=some r1):pM (f+1) .expr r=(Qau r1).bind fun nm r2=>(Qaf 3 [61] r2).bind fun _ r3=>(pM f .expr r3).bind fun v r4=>(Qaf 0 kIn r4).bind fun _ r5=>(pM f .expr r5).bind fun b r6=>.ok (.mk 19 0 nm.1 (hd r).off [v,b]) r6:=by rw[pM,h]
theorem Jmo(f:Nat){r r1:List Tok}(h0:acc 0 QeN r=none)(h:acc 0 kIf r=some r1):pM (f+1) .expr r=(pM f .expr r1).bind fun c r2=>(Qaf 0 QbJ r2).bind fun _ r3=>(pM f .expr r3).bind fun y r4=>(Qaf 0 QdP r4).bind fun _ r5=>(pM f .expr r5).bind fun z r6=>.ok (.mk 18 0 [] (hd r).off [c,y,z]) r6:=by rw[pM,h0,h]
theorem Jmp(f:Nat){r:List Tok}(h0:acc 0 QeN r=none)(h:acc 0 kIf r=none):pM (f+1) .expr r=pM f (.level 1) r:=by rw[pM,h0,h]
theorem JfE{α β:Type}(a:α)(r:List Tok)(f:α->List Tok->PR β):(PR.ok a r).bind f=f a r:=rfl
structure Bx(p lo hi:Nat)(W:World)(bx:Nat)(a:An):Prop where
 at':a.At W
 made:QbY lo hi a
 hle:lo<=hi/\hi<=W.heap.size
 box:W.heap[bx]?=some (.cells (Qaa a) 103 (0,0))
 ne:bx≠p
 lt:p<lo
theorem Bx.on{p lo hi:Nat}{W W':World}{bx:Nat}{a:An}(h:Bx p lo hi W bx a)(hc:Chg [p] W W'):Bx p lo hi W' bx a:=
 ⟨Z2 h.at' h.made hc h.hle.2 (fun b hb=>by have:=h.lt;simp at hb;omega),h.made,⟨h.hle.1,Nat.le_trans h.hle.2 hc.size⟩,hc.heap_some (by simp;exact h.ne) h.box,h.ne,h.lt⟩
theorem Bx.make{p:Nat}{w2 w3:World}{a:An}{A:Option Addr}{C:Nat}{T:List Tok}{k:Nat}(hat:a.At w3)(hm:QbY w2.heap.size w3.heap.size a)(hp:p<w2.heap.size)(hP:PAt w3 p A C T k)(hs:w2.heap.size<=w3.heap.size):Bx p w2.heap.size w3.heap.size (w3.alloc (.cells (Qaa a) 103)) w3.heap.size a:=
 ⟨KU hat hm (zzb.alloc zzl _) zzl,hm,⟨hs,by simp⟩,zzw _ _,Ne.symm (Nat.ne_of_lt hP.chg1),hp⟩
theorem Bx.cells{p lo hi:Nat}{W:World}{bx:Nat}{a:An}{xA:Option Addr}{xn xc:Nat}(h:Bx p lo hi W bx a)(hf:Qaa a=#[.int .i64 a.kind,.int .i64 a.num,.string (bs a.name),.int .i64 a.off,.slice xA xn xc]) :
  C5 W bx (.int .i64 a.kind) (.int .i64 a.num) (.string (bs a.name)) (.int .i64 a.off) (.slice xA xn xc):=by
 have:=h.box;rw[hf]at this;exact Ji this
theorem JhO(f p:Nat)(A:Option Addr)(C:Nat)(T:List Tok)(hx:∀ t∈T,t.text.length<=1000000)
  (I1:∀ k w,PAt w p A C T k->pM f .expr (T.drop k)≠.out->Calls prog 67 #[.pointer (some ⟨p,0,none⟩)] w (NdP p A C T w (pM f .expr (T.drop k))))
  (I2:∀ k w,PAt w p A C T k->pM f (.level 1) (T.drop k)≠.out->Calls prog 97 #[.pointer (some ⟨p,0,none⟩),.int .i64 1] w (NdP p A C T w (pM f (.level 1) (T.drop k))))
  (k:Nat) (w:World) (h:PAt w p A C T k) (hne:pM (f+1) .expr (T.drop k)≠.out) :
  Calls prog 67 #[.pointer (some ⟨p,0,none⟩)] w (NdP p A C T w (pM (f+1) .expr (T.drop k))):=by
 obtain⟨X,hX⟩:∃ X,pM (f+1) .expr (T.drop k)=X:=⟨_,rfl⟩
 have HX0:=Zh hX;rw[hX]at hne |-;obtain⟨R,hR⟩:∃ R,R=NdP p A C T w X:=⟨_,rfl⟩
 rw[<- hR];have HR:=Zh hR;have HNE:=Zh hne;have HS:=Zh (NS.start h);have cp:=Ko p A C T k _ HS.out.pat;obtain⟨of,hof⟩:∃ of,(hd (T.drop k)).off=of:=⟨_,rfl⟩
 unfold Qgn at cp;have hfl:=Jcu (hd (T.drop k));rw[hof]at hfl;have HOF:=Zh hof;generalize QcU (hd (T.drop k))=tv at *;clear h hne hR hof hX;go_enter func67,ntmps67;go_wp2_with fail;refine cp.mono ?_;rintro e w1 ⟨rfl,hb1⟩;replace HS:=Zh (HS.out.up hb1);clear cp hb1;go_wp2_with fail;refine(Jr p A C T k 0 QeN w1 HS.out.pat (by decide)).mono ?_;intro e w2 h2
 rcases h2 with⟨g1,g2,rfl,hp2,hc2⟩|⟨g1,rfl,hb2⟩
 ·have hx1:=HX0.out;rw[Jlw f (JP g1 g2),HOF.out]at hx1;have HX1:=Zh hx1;replace HS:=Zh (HS.out.on hp2 hc2);clear g1 g2 hp2 hc2 hx1 I2 HX0 HOF;go_wp2_with fail;refine PRp.call (Vp p A C T (k+1) _ HS.out.pat hx) (JQ HX1.out HNE.out) (fun q _ hx hc=>by exact⟨rfl,HS.out.bad HR.out HX1.out hx hc⟩) fun nm w3 k3 hxx hp hc=>?_
  obtain⟨nm,of2⟩:=nm;replace HX1:=Zh (Jw HX1.out hxx);have HLB:=Zh (zzw w3 (.cells #[.string (bs nm),.int .i64 of2] 123));have hlp:w3.heap.size≠p:=Ne.symm (Nat.ne_of_lt hp.chg1);replace HS:=Zh ((HS.out.on hp hc).new (.cells #[.string (bs nm),.int .i64 of2] 123));clear hxx hp hc hx;unfold Qim;dsimp only;go_wp2_with fail;generalize World.alloc w3 _=w3' at *;generalize w3.heap.size=lb at *;go_wp2_with fail;refine PRp.call (QdA p A C T k3 [61] _ HS.out.pat) (J7 _ _ _) (fun q _ hx hc=>by exact⟨rfl,HS.out.bad HR.out HX1.out hx hc⟩) fun _ w4 k4 hx hp hc=>?_
  replace HX1:=Zh (Jw HX1.out hx);replace HS:=Zh (HS.out.on hp hc);replace HLB:=Zh (hc.heap_some (by simp;exact hlp) HLB.out);clear hx hp hc;go_wp2_with fail;refine NdP.call (I1 k4 _ HS.out.pat (JQ HX1.out HNE.out)) (JQ HX1.out HNE.out) (fun q _ hx hc=>by exact⟨rfl,HS.out.bad HR.out HX1.out hx hc⟩) fun va w5 k5 vaA van vac hx hcf B=>?_
  have hc:=B.2.2.2.alloc (.cells (Qaa va) 103);have HBXva:=Zh (Bx.make B.1 B.2.1 HS.out.plt B.2.2.1 B.2.2.2.size);have HLHva:=Zh HS.out.lt;replace HX1:=Zh (Jw HX1.out hx);replace HS:=Zh ((HS.out.on B.2.2.1 B.2.2.2).new (.cells (Qaa va) 103));replace HLB:=Zh (hc.heap_some (by simp;exact hlp) HLB.out);have HCFva:=Zh hcf;rw[hcf]at HBXva HS HLB;clear hx hcf B hc;go_wp2_with fail;generalize World.alloc w5 _=w5' at *;generalize w5.heap.size=bxa at *;generalize w4.heap.size=lova at *;go_wp2_with fail;refine PRp.call (Qgr p A C T k5 kIn _ HS.out.pat) (J7 _ _ _) (fun q _ hx hc=>by exact⟨rfl,HS.out.bad HR.out HX1.out hx hc⟩) fun _ w6 k6 hx hp hc=>?_
  replace HX1:=Zh (Jw HX1.out hx);replace HS:=Zh (HS.out.on hp hc);replace HLB:=Zh (hc.heap_some (by simp;exact hlp) HLB.out);replace HBXva:=Zh (HBXva.out.on hc);clear hx hp hc;have hne9:=JQ HX1.out HNE.out;go_upto_region 7 with fail;have hc:=Chg.of_below (Below.refl w6.heap.size w6).drew [p];replace HS:=Zh HS.out.dr;replace HLB:=Zh (hc.heap_some (by simp;exact hlp) HLB.out);replace HBXva:=Zh (HBXva.out.on hc);have q1:=Jbc HLB.out;have q2:=HBXva.out.cells HCFva.out;have HLO9:Hid (bxa<=w6.drew.heap.size):=HBXva.out.hle.2;refine LB (fun W=>W.cell? ⟨lb,0,none⟩=some (.string (bs nm))/\C5 W bxa (.int .i64 va.kind) (.int .i64 va.num) (.string (bs va.name)) (.int .i64 va.off) (.slice vaA van vac)) 8 (⟨q1,q2⟩) fun hH=>?_
  refine LK 0 rfl ?_;refine LK 1 rfl ?_;refine LK 2 rfl ?_;refine LK 3 rfl ?_;refine LK 4 rfl ?_;refine LO 5 rfl fun K hK=>?_
  go_simp;go_at_call 67;refine NdP.call (I1 k6 _ HS.out.pat hne9) hne9 (fun q _ hx hc=>by exact⟨rfl,HS.out.bad HR.out HX1.out hx hc⟩) fun b w9 k9 yA yn yc hx hcg B=>?_
  have hc:=B.2.2.2;have HB9:=Zh B;have HCG:=Zh hcg;have HX9:=Zh (Jw HX1.out hx);replace HS:=Zh (HS.out.on B.2.2.1 B.2.2.2);replace HLB:=Zh (hc.heap_some (by simp;exact hlp) HLB.out);replace HBXva:=Zh (HBXva.out.on hc);replace q1:=Jbc HLB.out;replace q2:=HBXva.out.cells HCFva.out;have r5:=Ji HS.out.res;have f5:=Jq HS.out.res;have hl5:=HS.out.lt;clear hx hcg B hc hne9;refine hK.out _ _ (⟨q1,q2⟩) fun hH=>?_
  clear hK K;refine LO 6 rfl fun K hK=>?_
  go_simp;refine hK.out _ _ (by simp[*,C5,World.cell?_alloc_some,World.cell?_setCell_far]) fun hH=>?_
  clear hK K;refine LK 7 rfl ?_;refine LZ 8 rfl fun K hK=>?_
  go_simp;clear q1 q2 r5 f5 hl5;refine hK.out _ _ ?_;clear hK K;have HMD:Hid (Qdg lova w9.heap.size [va,b]):=⟨bxa,HBXva.out.hle.1,HBXva.out.made,w9.heap.size,HBXva.out.hle.2,HB9.out.2.1.mono HLO9.out zzl,le_refl _⟩
  have HFIN:=Zh (fun v0 v1 v2 v3 v4=>Yz (w:=w) (W3:=w9) (kids:=[va,b]) (cs:=#[.int .i64 va.kind,.int .i64 va.num,.string (bs va.name),.int .i64 va.off,.slice vaA van vac,.int .i64 b.kind,.int .i64 b.num,.string (bs b.name),.int .i64 b.off,.slice yA yn yc]) (by simp) (by simp[QcV,HCFva.out,HCG.out]) (by simp;exact⟨HBXva.out.at',HB9.out.1⟩) HMD.out HLHva.out HS.out.pat HS.out.chg HS.out.pl HS.out.tl 19 0 nm of 2 v0 v1 v2 v3 v4);go_wp2;refine bodyPost_ret (v:=.agg (Qaa (An.mk 19 0 nm of w9.heap.size 2 [va,b]))) (results_cell_row rfl _ _ w.heap.size 103 _ (0,0) _ rfl (VB _ _ _ _ _ _ HS.out.res) underlying103 rfl Qaw) rfl ?_;rw[HR.out,<- HX9.out];exact QjW
 ·have hn1:=Kf g1;replace HS:=Zh (HS.out.up hb2);clear g1 hb2;go_wp2_with fail;refine(Jr p A C T k 0 kIf w2 HS.out.pat (by decide)).mono ?_;intro e w3 h3
  rcases h3 with⟨g1,g2,rfl,hp2,hc2⟩|⟨g1,rfl,hb2⟩
  ·have hx1:=HX0.out;rw[Jmo f hn1 (JP g1 g2),HOF.out]at hx1;have HX1:=Zh hx1;replace HS:=Zh (HS.out.on hp2 hc2);clear g1 g2 hp2 hc2 hx1 I2 HX0 HOF hn1 hx;go_wp2_with fail;refine NdP.call (I1 (k+1) _ HS.out.pat (JQ HX1.out HNE.out)) (JQ HX1.out HNE.out) (fun q _ hx hc=>by exact⟨rfl,HS.out.bad HR.out HX1.out hx hc⟩) fun va w4 k4 vaA van vac hx hcf B=>?_
   have hc:=B.2.2.2.alloc (.cells (Qaa va) 103);have HBXva:=Zh (Bx.make B.1 B.2.1 HS.out.plt B.2.2.1 B.2.2.2.size);have HLHva:=Zh HS.out.lt;replace HX1:=Zh (Jw HX1.out hx);replace HS:=Zh ((HS.out.on B.2.2.1 B.2.2.2).new (.cells (Qaa va) 103));have HCFva:=Zh hcf;rw[hcf]at HBXva HS;clear hx hcf B hc;go_wp2_with fail;generalize World.alloc w4 _=w4' at *;generalize w4.heap.size=bxa at *;generalize w3.heap.size=lova at *;go_wp2_with fail;refine PRp.call (Qgr p A C T k4 QbJ _ HS.out.pat) (J7 _ _ _) (fun q _ hx hc=>by exact⟨rfl,HS.out.bad HR.out HX1.out hx hc⟩) fun _ w5 k5 hx hp hc=>?_
   replace HX1:=Zh (Jw HX1.out hx);replace HS:=Zh (HS.out.on hp hc);replace HBXva:=Zh (HBXva.out.on hc);clear hx hp hc;go_wp2_with fail;refine NdP.call (I1 k5 _ HS.out.pat (JQ HX1.out HNE.out)) (JQ HX1.out HNE.out) (fun q _ hx hc=>by exact⟨rfl,HS.out.bad HR.out HX1.out hx hc⟩) fun vb w6 k6 vbA vbn vbc hx hcf B=>?_
   have hc:=B.2.2.2.alloc (.cells (Qaa vb) 103);have HLAB:Hid (bxa<=w5.heap.size):=HBXva.out.hle.2;have HBXvb:=Zh (Bx.make B.1 B.2.1 HS.out.plt B.2.2.1 B.2.2.2.size);have HLHvb:=Zh HS.out.lt;replace HX1:=Zh (Jw HX1.out hx);replace HS:=Zh ((HS.out.on B.2.2.1 B.2.2.2).new (.cells (Qaa vb) 103));replace HBXva:=Zh (HBXva.out.on hc);have HCFvb:=Zh hcf;rw[hcf]at HBXvb HS HBXva;clear hx hcf B hc;go_wp2_with fail;generalize World.alloc w6 _=w6' at *;generalize w6.heap.size=bxb at *;generalize w5.heap.size=lovb at *;go_wp2_with fail;refine PRp.call (Qgr p A C T k6 QdP _ HS.out.pat) (J7 _ _ _) (fun q _ hx hc=>by exact⟨rfl,HS.out.bad HR.out HX1.out hx hc⟩) fun _ w7 k7 hx hp hc=>?_
   replace HX1:=Zh (Jw HX1.out hx);replace HS:=Zh (HS.out.on hp hc);replace HBXva:=Zh (HBXva.out.on hc);replace HBXvb:=Zh (HBXvb.out.on hc);clear hx hp hc;have hne9:=JQ HX1.out HNE.out;go_upto_region 13 with fail;have hc:=Chg.of_below (Below.refl w7.heap.size w7).drew [p];replace HS:=Zh HS.out.dr;replace HBXva:=Zh (HBXva.out.on hc);replace HBXvb:=Zh (HBXvb.out.on hc);have q1:=HBXva.out.cells HCFva.out;have q2:=HBXvb.out.cells HCFvb.out;have HLO9:Hid (bxb<=w7.drew.heap.size):=HBXvb.out.hle.2;refine LB (fun W=>C5 W bxa (.int .i64 va.kind) (.int .i64 va.num) (.string (bs va.name)) (.int .i64 va.off) (.slice vaA van vac)/\C5 W bxb (.int .i64 vb.kind) (.int .i64 vb.num) (.string (bs vb.name)) (.int .i64 vb.off) (.slice vbA vbn vbc)) 7 (⟨q1,q2⟩) fun hH=>?_
   refine LK 0 rfl ?_;refine LK 1 rfl ?_;refine LK 2 rfl ?_;refine LK 3 rfl ?_;refine LO 4 rfl fun K hK=>?_
   go_simp;go_at_call 67;refine NdP.call (I1 k7 _ HS.out.pat hne9) hne9 (fun q _ hx hc=>by exact⟨rfl,HS.out.bad HR.out HX1.out hx hc⟩) fun b w9 k9 yA yn yc hx hcg B=>?_
   have hc:=B.2.2.2;have HB9:=Zh B;have HCG:=Zh hcg;have HX9:=Zh (Jw HX1.out hx);replace HS:=Zh (HS.out.on B.2.2.1 B.2.2.2);replace HBXva:=Zh (HBXva.out.on hc);replace HBXvb:=Zh (HBXvb.out.on hc);replace q1:=HBXva.out.cells HCFva.out;replace q2:=HBXvb.out.cells HCFvb.out;have r5:=Ji HS.out.res;have f5:=Jq HS.out.res;have hl5:=HS.out.lt;clear hx hcg B hc hne9;refine hK.out _ _ (⟨q1,q2⟩) fun hH=>?_
   clear hK K;refine LO 5 rfl fun K hK=>?_
   go_simp;refine hK.out _ _ (by simp[*,C5,World.cell?_alloc_some,World.cell?_setCell_far]) fun hH=>?_
   clear hK K;refine LK 6 rfl ?_;refine LZ 7 rfl fun K hK=>?_
   go_simp;clear q1 q2 r5 f5 hl5;refine hK.out _ _ ?_;clear hK K;have HMD:Hid (Qdg lova w9.heap.size [va,vb,b]):=⟨bxa,HBXva.out.hle.1,HBXva.out.made,bxb,Nat.le_trans HLAB.out HBXvb.out.hle.1,HBXvb.out.made.mono HLAB.out zzl,w9.heap.size,HBXvb.out.hle.2,HB9.out.2.1.mono HLO9.out zzl,le_refl _⟩
   have HFIN:=Zh (fun v0 v1 v2 v3 v4=>Yz (w:=w) (W3:=w9) (kids:=[va,vb,b]) (cs:=#[.int .i64 va.kind,.int .i64 va.num,.string (bs va.name),.int .i64 va.off,.slice vaA van vac,.int .i64 vb.kind,.int .i64 vb.num,.string (bs vb.name),.int .i64 vb.off,.slice vbA vbn vbc,.int .i64 b.kind,.int .i64 b.num,.string (bs b.name),.int .i64 b.off,.slice yA yn yc]) (by simp) (by simp[QcV,HCFva.out,HCFvb.out,HCG.out]) (by simp;exact⟨HBXva.out.at',HBXvb.out.at',HB9.out.1⟩) HMD.out HLHva.out HS.out.pat HS.out.chg HS.out.pl HS.out.tl 18 0 [] of 3 v0 v1 v2 v3 v4);go_wp2;refine bodyPost_ret (v:=.agg (Qaa (An.mk 18 0 [] of w9.heap.size 3 [va,vb,b]))) (results_cell_row rfl _ _ w.heap.size 103 _ (0,0) _ rfl (VB _ _ _ _ _ _ HS.out.res) underlying103 rfl Qaw) rfl ?_;rw[HR.out,<- HX9.out];exact QjW
  ·have hx1:=HX0.out;rw[Jmp f hn1 (Kf g1)]at hx1;subst hx1;replace HS:=Zh (HS.out.up hb2);clear g1 hb2 HX0 HOF hn1 hx I1;go_wp2_with fail;refine NdP.call (I2 k _ HS.out.pat HNE.out) HNE.out (fun q _ hx hc=>by exact⟨rfl,by rw[HR.out,hx];exact⟨rfl,HS.out.chg.trans hc⟩⟩) fun a w4 k4 xA xn xc hx hcf B=>?_
   have HPS:=Zh (HS.out.pass B);have HX4:=Zh hx;have HCF:=Zh hcf;have h5:=Ji (HS.out.on B.2.2.1 B.2.2.2).res;have y5:=Jq (HS.out.on B.2.2.1 B.2.2.2).res;have HZZ:=Zh (HS.out.on B.2.2.1 B.2.2.2).res;clear hx hcf B I2;go_wp2;refine bodyPost_ret (v:=.agg (Qaa a)) (by rw[HCF.out];exact results_cell_row rfl _ _ w.heap.size 103 _ (0,0) _ rfl (Qct _ _ _ _ _ HZZ.out) underlying103 rfl Qaw) rfl ?_;rw[HR.out,HX4.out];obtain⟨e1,e2,e3,e4⟩:=HPS.out _ _ _ _ _;exact⟨_,rfl,rfl,e1,e2,⟨k4,rfl,e3⟩,e4⟩
end Go.Proofs.YtdlkcjkjnehnkaaGreatDoor
