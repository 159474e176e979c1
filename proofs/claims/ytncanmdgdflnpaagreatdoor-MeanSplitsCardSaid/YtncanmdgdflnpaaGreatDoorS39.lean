
import Derived.Test.YtncanmdgdflnpaaGreatDoorS38
namespace Go.Proofs.YtncanmdgdflnpaaGreatDoor
open Go.ChangeShapes Go.WideShapes Go.ChangeAt Go.RowKit Go.Lib
open _root_.Go.Proofs.Tryz
set_option linter.all false
set_option maxRecDepth 100000
set_option maxHeartbeats 32000000
theorem RowOf.take {α:Type} {R:α→List Value→Prop} {m:Nat} (hR:∀ a c,R a c→c.length=m):∀ {l:List α} {xs:List Value} (k:Nat),RowOf R l xs→RowOf R (l.take k) (xs.take (k*m))
 | [],xs,k,h=>by
  obtain rfl:xs=[]:=h;simp[RowOf]
 | a::l,xs,0,h=>by simp[RowOf]
 | a::l,xs,k+1,⟨c,r,h1,h2,h3⟩=>by
  refine ⟨c,r.take (k*m),h1,?_,h3.take hR k⟩;have hl:=hR _ _ h1;rw[h2,List.take_append,hl,List.take_of_length_le (by rw[hl,Nat.add_mul]; omega),show (k+1)*m-m=k*m by rw[Nat.add_mul]; omega]
theorem RowOf.drop {α:Type} {R:α→List Value→Prop} {m:Nat} (hR:∀ a c,R a c→c.length=m):∀ {l:List α} {xs:List Value} (k:Nat),RowOf R l xs→RowOf R (l.drop k) (xs.drop (k*m))
 | [],xs,k,h=>by
  obtain rfl:xs=[]:=h;simp[RowOf]
 | a::l,xs,0,h=>by simpa using h
 | a::l,xs,k+1,⟨c,r,h1,h2,h3⟩=>by
  have hl:=hR _ _ h1
  have e1:(c++r).drop ((k+1)*m)=r.drop (k*m):=by
   rw[List.drop_append,hl,List.drop_of_length_le (l:=c) (by rw[hl,Nat.add_mul]; omega),List.nil_append,show (k+1)*m-m=k*m by rw[Nat.add_mul]; omega]
  rw[List.drop_succ_cons,h2,e1];exact h3.drop hR k
def cutA (ca:Option Addr) (k cc:Nat):Option Addr:=if cc=k then ca else ca.map (·.add (k*6))
theorem ClxAt.take {W:World} {ca:Option Addr} {n cc k:Nat} {l:List ClM} (h:ClxAt W (.slice ca n cc) l) (hk:k≤l.length):ClxAt W (.slice ca (l.take k).length cc) (l.take k):=by
 obtain ⟨ad,c',xs,h1,h2,h3,h4⟩:=h;injection h1 with e1 e2 e3;subst e1 e3;refine ⟨_,_,xs.take (k*6),rfl,Nat.le_trans (by rw[List.length_take]; omega) h2,h3.take ClX.len k,?_⟩
 rcases h4 with rfl | ⟨b,o,h5,h6,h7⟩
 ·exact .inl (by simp)
 ·refine .inr ⟨b,o,h5,h6,fun j u hj=>h7 j u ?_⟩;rw[List.getElem?_take] at hj;split at hj
  ·exact hj
  ·simp at hj
theorem ClxAt.drop {W:World} {ca:Option Addr} {n cc k:Nat} {l:List ClM} (h:ClxAt W (.slice ca n cc) l) (hk:k≤l.length):ClxAt W (.slice (cutA ca k cc) (l.drop k).length (cc-k)) (l.drop k):=by
 obtain ⟨ad,c',xs,h1,h2,h3,h4⟩:=h;injection h1 with e1 e2 e3;subst e1 e3;refine ⟨_,_,xs.drop (k*6),rfl,by rw[List.length_drop]; omega,h3.drop ClX.len k,?_⟩
 by_cases hkl:k=l.length
 ·exact .inl (by rw[hkl,List.drop_length])
 rcases h4 with rfl | ⟨b,o,h5,h6,h7⟩
 ·exact .inl (by simp)
 ·refine .inr ⟨b,o+k*6,?_,h6,fun j u hj=>?_⟩
  ·unfold cutA;rw[if_neg (by omega),h5];simp only[Option.map_some,Option.some.injEq];unfold Addr.add;split
   ·next e=>simp_all
   ·rfl
  ·rw[List.getElem?_drop] at hj;have:=h7 _ u hj;rw[← Nat.add_assoc] at this;exact this
theorem RSz.some {r:RuleM} (h:RSz r) {l:List ClM} {a:Int} (hl:∀ c∈l,c∈r.clauses) (hn:l.length≤r.clauses.length):RSz ⟨r.funcs,l,a⟩:=
 ⟨h.nf,Nat.le_trans hn h.nc,h.fn,fun c hc=>h.cl c (hl c hc)⟩
theorem Jfz (a:Addr):a.add 0=a:=by simp[Addr.add]
theorem Jdw (W:World) (ca:Option Addr) (n cc k:Nat) (hk:k≤cc):(Instr.slice 28 (.slice ca n cc) none (some (.int .i64 (k:Int))) none).run prog W=.ok (.slice ca k cc) W:=by
 have he:prog.elem 28=62:=by kernel_rfl
 have hz:(Go.sizeOf 62).run prog W=.ok 6 W:=by kernel_rfl
 have ht:prog.underlying 28=some (.slice (prog.elem 28)):=by kernel_rfl
 rw[run_slice_h W 28 _ _ _ ht .i64 _ (by omega) (by omega),he,hz];simp only[Result.andThen,sliced,Nat.zero_mul,Int.toNat_natCast,Nat.sub_zero]
 by_cases h:cc=0
 ·rw[if_pos h]
 ·rw[if_neg h]
  cases ca with
  | none=>rfl
  | some a=>simp only[Option.map_some,Jfz]
theorem Jdx (W:World) (ca:Option Addr) (n cc k:Nat) (hk:k≤n):(Instr.slice 28 (.slice ca n cc) (some (.int .i64 (k:Int))) none none).run prog W=.ok (.slice (cutA ca k cc) (n-k) (cc-k)) W:=by
 have he:prog.elem 28=62:=by kernel_rfl
 have hz:(Go.sizeOf 62).run prog W=.ok 6 W:=by kernel_rfl
 have ht:prog.underlying 28=some (.slice (prog.elem 28)):=by kernel_rfl
 rw[run_slice_l W 28 _ _ _ ht .i64 _ (by omega) (by omega),he,hz];simp only[Result.andThen,sliced,Int.toNat_natCast];rfl
theorem JcD (w W1:World) (t:TypeId) (z1 z2:Obj) (f a:Value) (c u v:Value) (X Y:Nat) (hxy:X≠Y) (hX:w.heap.size+1+1<X) (hY:w.heap.size+1+1<Y)
  (k1:W1.heap[w.heap.size+1]?=some z1) (k2:W1.heap[w.heap.size+1+1]?=some z2) (kX:W1.heap[X]?=some (.cells #[f,c,a] t (0,0))) (kY:W1.heap[Y]?=some (.cells #[f,c,a] t (0,0))) (kb:Below w.heap.size w W1) :
  let W2:=(W1.setCell ⟨X,1,none⟩ u).setCell ⟨Y,1,none⟩ v
  W2.heap[w.heap.size+1]?=some z1∧W2.heap[w.heap.size+1+1]?=some z2∧W2.heap[X]?=some (.cells #[f,u,a] t (0,0))∧W2.heap[Y]?=some (.cells #[f,v,a] t (0,0))∧Below w.heap.size w W2:=by
 intro W2;refine ⟨?_,?_,?_,?_,?_⟩
 ·exact Jf (Jf k1 (by show w.heap.size+1≠X; omega) _) (by show w.heap.size+1≠Y; omega) _
 ·exact Jf (Jf k2 (by show w.heap.size+1+1≠X; omega) _) (by show w.heap.size+1+1≠Y; omega) _
 ·exact Jf (Jv kX 1 u) (by show X≠Y; exact hxy) _
 ·exact Jv (Jf kY (by show Y≠X; exact fun h=>hxy h.symm) _) 1 v
 ·exact (kb.setCell (p:=⟨X,1,none⟩) (by show w.heap.size≤X; omega) u).setCell (p:=⟨Y,1,none⟩) (by show w.heap.size≤Y; omega) v
theorem JfA (W:World) (b:Nat):W.drew.heap[b]?=W.heap[b]?:=rfl
theorem Yn (w W2:World) (f0 f1 f2 g0 g1 g2 a0 a1 a2 b0 b1 b2:Value) (t:TypeId) (p q:Nat) (hpq:p≠q) (hp:w.heap.size≤p) (hq:w.heap.size≤q) (jp:W2.heap[p]?=some (.cells #[f0,f1,f2] t (0,0))) (jq:W2.heap[q]?=some (.cells #[g0,g1,g2] t (0,0))) (jb:Below w.heap.size w W2) :
  let W3:=((((((W2.setCell ⟨p,0,none⟩ a0).setCell ⟨p,1,none⟩ a1).setCell ⟨p,2,none⟩ a2).setCell ⟨q,0,none⟩ b0).setCell ⟨q,1,none⟩ b1).setCell ⟨q,2,none⟩ b2).drew
  W3.heap[p]?=some (.cells #[a0,a1,a2] t (0,0))∧W3.heap[q]?=some (.cells #[b0,b1,b2] t (0,0))∧Below w.heap.size w W3:=by
 have e1:=blk3Z a0 a1 a2 jp;have e2:=Jf (p:=⟨q,0,none⟩) e1 (show p≠q from hpq) b0;have e3:=Jf (p:=⟨q,1,none⟩) e2 (show p≠q from hpq) b1;have e4:=Jf (p:=⟨q,2,none⟩) e3 (show p≠q from hpq) b2;have d1:=Jf (p:=⟨p,0,none⟩) jq (show q≠p from hpq.symm) a0;have d2:=Jf (p:=⟨p,1,none⟩) d1 (show q≠p from hpq.symm) a1;have d3:=Jf (p:=⟨p,2,none⟩) d2 (show q≠p from hpq.symm) a2;have d4:=blk3Z b0 b1 b2 d3;have c1:=jb.setCell (p:=⟨p,0,none⟩) hp a0;have c2:=c1.setCell (p:=⟨p,1,none⟩) hp a1;have c3:=c2.setCell (p:=⟨p,2,none⟩) hp a2;have c4:=c3.setCell (p:=⟨q,0,none⟩) hq b0;have c5:=c4.setCell (p:=⟨q,1,none⟩) hq b1;have c6:=c5.setCell (p:=⟨q,2,none⟩) hq b2;have c7:=c6.drew;exact ⟨(JfA _ _).trans e4,(JfA _ _).trans d4,c7⟩
theorem VK {W:World} {p q:Nat} {a0 a1 a2 b0 b1 b2:Value} (hp:W.heap[p]?=some (.cells #[a0,a1,a2] 30 (0,0))) (hq:W.heap[q]?=some (.cells #[b0,b1,b2] 30 (0,0))) (tmps:Array Value) (h2:tmps.getD 4 undef=.pointer (some ⟨p,0,none⟩)) (h3:tmps.getD 5 undef=.pointer (some ⟨q,0,none⟩)) :
  (results Tryz.f16 tmps).run prog W=.ok (.tuple #[.agg #[a0,a1,a2],.agg #[b0,b1,b2]]) W:=by
 have q2:tmps[4]?.getD undef=.pointer (some ⟨p,0,none⟩):=by simpa using h2
 have q3:tmps[5]?.getD undef=.pointer (some ⟨q,0,none⟩):=by simpa using h3
 have l1:=run_loadVar_row (P:=prog) W p 30 30 #[a0,a1,a2] (0,0) _ hp underlying30 rfl infoRule;have l2:=run_loadVar_row (P:=prog) W q 30 30 #[b0,b1,b2] (0,0) _ hq underlying30 rfl infoRule;simp[results,Tryz.results16,q2,q3,asAddr,l1,l2]
theorem Jdy (w:World) (o0 o1:Obj):let W:=(w.alloc o0).alloc o1
  W.heap[w.heap.size]?=some o0∧W.heap[w.heap.size+1]?=some o1∧Below w.heap.size w W:=by
 intro W;have hb:Below w.heap.size w W:=((Below.refl w.heap.size w).alloc (Nat.le_refl _) o0).alloc (by simp) o1;have h0:=heap_alloc_new w o0;have h1:=heap_alloc_new (w.alloc o0) o1;have s1:(w.alloc o0).heap.size=w.heap.size+1:=by simp
 rw[s1] at h1;exact ⟨(heap_alloc_old _ _ (by omega)).trans h0,h1,hb⟩
theorem JbQ (w:World) (o0 o1 o2 o3 o4:Obj):let W:=(((((w.alloc o0).alloc o1).alloc o2).alloc o3).alloc o4).drew
  W.heap[w.heap.size]?=some o0∧W.heap[w.heap.size+1]?=some o1∧W.heap[w.heap.size+1+1]?=some o2∧W.heap[w.heap.size+1+1+1]?=some o3∧W.heap[w.heap.size+1+1+1+1]?=some o4∧Below w.heap.size w W:=by
 intro W;have hb:Below w.heap.size w W:=(((((Below.refl w.heap.size w).alloc (Nat.le_refl _) o0).alloc (by simp) o1).alloc (by simp; omega) o2).alloc (by simp; omega) o3).alloc (by simp; omega) o4 |>.drew;have h0:=heap_alloc_new w o0;have h1:=heap_alloc_new (w.alloc o0) o1;have h2:=heap_alloc_new ((w.alloc o0).alloc o1) o2;have h3:=heap_alloc_new (((w.alloc o0).alloc o1).alloc o2) o3;have h4:=heap_alloc_new ((((w.alloc o0).alloc o1).alloc o2).alloc o3) o4;have s1:(w.alloc o0).heap.size=w.heap.size+1:=by simp
 have s2:((w.alloc o0).alloc o1).heap.size=w.heap.size+1+1:=by simp
 have s3:(((w.alloc o0).alloc o1).alloc o2).heap.size=w.heap.size+1+1+1:=by simp
 have s4:((((w.alloc o0).alloc o1).alloc o2).alloc o3).heap.size=w.heap.size+1+1+1+1:=by simp
 rw[s1] at h1;rw[s2] at h2;rw[s3] at h3;rw[s4] at h4;refine ⟨?_,?_,?_,?_,h4,hb⟩
 ·exact (heap_alloc_old _ _ (by omega)).trans ((heap_alloc_old _ _ (by omega)).trans ((heap_alloc_old _ _ (by omega)).trans ((heap_alloc_old _ _ (by omega)).trans h0)))
 ·exact (heap_alloc_old _ _ (by omega)).trans ((heap_alloc_old _ _ (by omega)).trans ((heap_alloc_old _ _ (by omega)).trans h1))
 ·exact (heap_alloc_old _ _ (by omega)).trans ((heap_alloc_old _ _ (by omega)).trans h2)
 ·exact (heap_alloc_old _ _ (by omega)).trans h3
theorem JfB (fa ca:Option Addr) (nf fc n cc k:Nat) (act:Int) (w:World) (hk:k≤n) (hc:n≤cc) (hn:n≤1000000) :
  Calls prog 16 #[.agg #[.slice fa nf fc,.slice ca n cc,.int .i64 act],.int .i64 (k:Int)] w
   (fun e w'=>e=.returned (.tuple #[.agg #[.slice fa nf fc,.slice ca k cc,.int .i64 act],.agg #[.slice fa nf fc,.slice (cutA ca k cc) (n-k) (cc-k),.int .i64 act]])∧Below w.heap.size w w'):=by
 have s1:=fun W=>Jdw W ca n cc k (by omega)
 have s2:=fun W=>Jdx W ca n cc k hk
 go_enter func16,ntmps16;have HRB:=Zh (heap_alloc_new w (.cells #[.slice fa nf fc,.slice ca n cc,.int .i64 act] 30));go_upto_region 1 with fail;have HRL:=Zh (Jb HRB.out);have hf:=heap_alloc_old (w.alloc (.cells #[.slice fa nf fc,.slice ca n cc,.int .i64 act] 30)) (.cells #[.slice none 0 0,.slice none 0 0,.int .i64 0] 30) HRL.out;have hf2:=(heap_alloc_old ((w.alloc (.cells #[.slice fa nf fc,.slice ca n cc,.int .i64 act] 30)).alloc (.cells #[.slice none 0 0,.slice none 0 0,.int .i64 0] 30)) (.cells #[.slice none 0 0,.slice none 0 0,.int .i64 0] 30) (by have:=HRL.out; simp at this ⊢; omega)).trans (hf.trans HRB.out);have b0:=Ja hf2 0;have b1:=Ja hf2 1;have b2:=Ja hf2 2;simp only[ZD,ZE,ZF] at b0 b1 b2;clear hf hf2;go_region_held (fun W=>W.cell? ⟨w.heap.size,0,none⟩=some (.slice fa nf fc)∧W.cell? ⟨w.heap.size,1,none⟩=some (.slice ca n cc)∧W.cell? ⟨w.heap.size,2,none⟩=some (.int .i64 act)) (go_keep) (fail)
 all_goals
  clear b0 b1 b2;have hh:=JbQ w (.cells #[.slice fa nf fc,.slice ca n cc,.int .i64 act] 30) (.cells #[.slice none 0 0,.slice none 0 0,.int .i64 0] 30) (.cells #[.slice none 0 0,.slice none 0 0,.int .i64 0] 30) (.cells #[.slice fa nf fc,.slice ca n cc,.int .i64 act] 30) (.cells #[.slice fa nf fc,.slice ca n cc,.int .i64 act] 30);rename_i hH;clear hH HRB HRL;generalize World.drew _=W1 at *;obtain ⟨k0,k1,k2,k3,k4,kb⟩:=hh;have c1:=Ja k0 1;have c3:=Ja k3 1;have c4:=Ja k4 1;have f3:=Jc k3 1;have f4:=Jc k4 1;simp only[ZD,ZE,ZF] at c1 c3 c4;have d3:(W1.setCell ⟨w.heap.size+1+1+1,1,none⟩ (.slice ca k cc)).cell? ⟨w.heap.size,1,none⟩=some (.slice ca n cc):=(Ja (Jf k0 (by show w.heap.size≠w.heap.size+1+1+1; omega) _) 1).trans rfl;have e3:(W1.setCell ⟨w.heap.size+1+1+1,1,none⟩ (.slice ca k cc)).cell? ⟨w.heap.size+1+1+1+1,1,none⟩=some (.slice ca n cc):=(Ja (Jf k4 (by show w.heap.size+1+1+1+1≠w.heap.size+1+1+1; omega) _) 1).trans rfl;have l3:(W1.setCell ⟨w.heap.size+1+1+1,1,none⟩ (.slice ca k cc)).frozen? ⟨w.heap.size+1+1+1+1,1,none⟩=false:=Jc (Jf k4 (by show w.heap.size+1+1+1+1≠w.heap.size+1+1+1; omega) _) 1;have d4:(W1.setCell ⟨w.heap.size+1+1+1+1,1,none⟩ (.slice ca k cc)).cell? ⟨w.heap.size,1,none⟩=some (.slice ca n cc):=(Ja (Jf k0 (by show w.heap.size≠w.heap.size+1+1+1+1; omega) _) 1).trans rfl;have e4:(W1.setCell ⟨w.heap.size+1+1+1+1,1,none⟩ (.slice ca k cc)).cell? ⟨w.heap.size+1+1+1,1,none⟩=some (.slice ca n cc):=(Ja (Jf k3 (by show w.heap.size+1+1+1≠w.heap.size+1+1+1+1; omega) _) 1).trans rfl;have l4:(W1.setCell ⟨w.heap.size+1+1+1+1,1,none⟩ (.slice ca k cc)).frozen? ⟨w.heap.size+1+1+1,1,none⟩=false:=Jc (Jf k3 (by show w.heap.size+1+1+1≠w.heap.size+1+1+1+1; omega) _) 1;have HK:=Zh (And.intro k1 (And.intro k2 (And.intro k3 (And.intro k4 kb))));clear k0 k1 k2 k3 k4 kb;go_upto_region 4 with fail;clear c1 c3 c4 f3 f4 d3 e3 l3 d4 e4 l4;generalize hW2:World.setCell (World.setCell _ _ _) _ _=W2
  first
    | (
     have hz:=JcD w W1 30 _ _ _ _ _ (.slice ca k cc) (.slice (cutA ca k cc) (n-k) (cc-k)) (w.heap.size+1+1+1) (w.heap.size+1+1+1+1) (by omega) (by omega) (by omega) HK.out.1 HK.out.2.1 HK.out.2.2.1 HK.out.2.2.2.1 HK.out.2.2.2.2;dsimp only at hz;rw[hW2] at hz;obtain ⟨j1,j2,j3,j4,jb⟩:=hz;have r0:=Ja j3 0;have r1:=Ja j3 1;have r2:=Ja j3 2;have r3:=Ja j4 0;have r4:=Ja j4 1;have r5:=Ja j4 2;simp only[ZD,ZE,ZF] at r0 r1 r2 r3 r4 r5;have x0:=Ja j1 0;have gx0:=Jc j1 0;have x1:=Ja j1 1;have gx1:=Jc j1 1;have x2:=Ja j1 2;have gx2:=Jc j1 2;have y0:=Ja j2 0;have gy0:=Jc j2 0;have y1:=Ja j2 1;have gy1:=Jc j2 1;have y2:=Ja j2 2;have gy2:=Jc j2 2;simp only[ZD,ZE,ZF] at x0 x1 x2 y0 y1 y2;have HJ1:=Zh j1;have HJ2:=Zh j2;have HJB:=Zh jb;clear j1 j2 j3 j4 jb hW2;go_region_held (fun W=>W.cell? ⟨w.heap.size+1+1+1,0,none⟩=some (.slice fa nf fc)∧W.cell? ⟨w.heap.size+1+1+1,1,none⟩=some (.slice ca k cc)∧W.cell? ⟨w.heap.size+1+1+1,2,none⟩=some (.int .i64 act)∧W.cell? ⟨w.heap.size+1+1+1+1,0,none⟩=some (.slice fa nf fc)∧W.cell? ⟨w.heap.size+1+1+1+1,1,none⟩=some (.slice (cutA ca k cc) (n-k) (cc-k))∧W.cell? ⟨w.heap.size+1+1+1+1,2,none⟩=some (.int .i64 act)) (go_keep) (fail)
     all_goals
      rename_i hH;clear hH r0 r1 r2 r3 r4 r5 x0 x1 x2 y0 y1 y2 gx0 gx1 gx2 gy0 gy1 gy2;generalize hW3:World.drew _=W3
      first
      | (
       have hz:=Yn w W2 _ _ _ _ _ _ (.slice fa nf fc) (.slice ca k cc) (.int .i64 act) (.slice fa nf fc) (.slice (cutA ca k cc) (n-k) (cc-k)) (.int .i64 act) _ (w.heap.size+1) (w.heap.size+1+1) (by omega) (by omega) (by omega) HJ1.out HJ2.out HJB.out;dsimp only at hz;rw[hW3] at hz;obtain ⟨m1,m2,mb⟩:=hz;have HM:=Zh (And.intro m1 (And.intro m2 mb))
       clear m1 m2 mb)
      | (
       have hz:=Yn w W2 _ _ _ _ _ _ (.slice fa nf fc) (.slice (cutA ca k cc) (n-k) (cc-k)) (.int .i64 act) (.slice fa nf fc) (.slice ca k cc) (.int .i64 act) _ (w.heap.size+1+1) (w.heap.size+1) (by omega) (by omega) (by omega) HJ2.out HJ1.out HJB.out;dsimp only at hz;rw[hW3] at hz;obtain ⟨m2,m1,mb⟩:=hz;have HM:=Zh (And.intro m1 (And.intro m2 mb))
       clear m1 m2 mb)
      clear hW3;go_wp2_with fail;refine bodyPost_ret (v:=.tuple #[.agg #[.slice fa nf fc,.slice ca k cc,.int .i64 act],.agg #[.slice fa nf fc,.slice (cutA ca k cc) (n-k) (cc-k),.int .i64 act]]) (VK HM.out.1 HM.out.2.1 _ rfl rfl) rfl ?_
      exact ⟨rfl,HM.out.2.2⟩)
    | (
     have hz:=JcD w W1 30 _ _ _ _ _ (.slice ca k cc) (.slice (cutA ca k cc) (n-k) (cc-k)) (w.heap.size+1+1+1+1) (w.heap.size+1+1+1) (by omega) (by omega) (by omega) HK.out.1 HK.out.2.1 HK.out.2.2.2.1 HK.out.2.2.1 HK.out.2.2.2.2;dsimp only at hz;rw[hW2] at hz;obtain ⟨j1,j2,j3,j4,jb⟩:=hz;have r0:=Ja j3 0;have r1:=Ja j3 1;have r2:=Ja j3 2;have r3:=Ja j4 0;have r4:=Ja j4 1;have r5:=Ja j4 2;simp only[ZD,ZE,ZF] at r0 r1 r2 r3 r4 r5;have x0:=Ja j1 0;have gx0:=Jc j1 0;have x1:=Ja j1 1;have gx1:=Jc j1 1;have x2:=Ja j1 2;have gx2:=Jc j1 2;have y0:=Ja j2 0;have gy0:=Jc j2 0;have y1:=Ja j2 1;have gy1:=Jc j2 1;have y2:=Ja j2 2;have gy2:=Jc j2 2;simp only[ZD,ZE,ZF] at x0 x1 x2 y0 y1 y2;have HJ1:=Zh j1;have HJ2:=Zh j2;have HJB:=Zh jb;clear j1 j2 j3 j4 jb hW2;go_region_held (fun W=>W.cell? ⟨w.heap.size+1+1+1+1,0,none⟩=some (.slice fa nf fc)∧W.cell? ⟨w.heap.size+1+1+1+1,1,none⟩=some (.slice ca k cc)∧W.cell? ⟨w.heap.size+1+1+1+1,2,none⟩=some (.int .i64 act)∧W.cell? ⟨w.heap.size+1+1+1,0,none⟩=some (.slice fa nf fc)∧W.cell? ⟨w.heap.size+1+1+1,1,none⟩=some (.slice (cutA ca k cc) (n-k) (cc-k))∧W.cell? ⟨w.heap.size+1+1+1,2,none⟩=some (.int .i64 act)) (go_keep) (fail)
     all_goals
      rename_i hH;clear hH r0 r1 r2 r3 r4 r5 x0 x1 x2 y0 y1 y2 gx0 gx1 gx2 gy0 gy1 gy2;generalize hW3:World.drew _=W3
      first
      | (
       have hz:=Yn w W2 _ _ _ _ _ _ (.slice fa nf fc) (.slice ca k cc) (.int .i64 act) (.slice fa nf fc) (.slice (cutA ca k cc) (n-k) (cc-k)) (.int .i64 act) _ (w.heap.size+1) (w.heap.size+1+1) (by omega) (by omega) (by omega) HJ1.out HJ2.out HJB.out;dsimp only at hz;rw[hW3] at hz;obtain ⟨m1,m2,mb⟩:=hz;have HM:=Zh (And.intro m1 (And.intro m2 mb))
       clear m1 m2 mb)
      | (
       have hz:=Yn w W2 _ _ _ _ _ _ (.slice fa nf fc) (.slice (cutA ca k cc) (n-k) (cc-k)) (.int .i64 act) (.slice fa nf fc) (.slice ca k cc) (.int .i64 act) _ (w.heap.size+1+1) (w.heap.size+1) (by omega) (by omega) (by omega) HJ2.out HJ1.out HJB.out;dsimp only at hz;rw[hW3] at hz;obtain ⟨m2,m1,mb⟩:=hz;have HM:=Zh (And.intro m1 (And.intro m2 mb))
       clear m1 m2 mb)
      clear hW3;go_wp2_with fail;refine bodyPost_ret (v:=.tuple #[.agg #[.slice fa nf fc,.slice ca k cc,.int .i64 act],.agg #[.slice fa nf fc,.slice (cutA ca k cc) (n-k) (cc-k),.int .i64 act]]) (VK HM.out.1 HM.out.2.1 _ rfl rfl) rfl ?_
      exact ⟨rfl,HM.out.2.2⟩)
theorem sx86 {P:Prop}(h:P:=by
  have h1:=Jb HXB.out;have h2:=hb.size;unfold Hid
  omega):P:=h
theorem JbR (l:List UInt8) (F:FactsM) (la wa:Option Addr) (lc wc:Nat) (k:Int) (w:World) (hl:l.length≤140737488355328) (hlab:LabsAt w (.slice la F.labels.length lc) F.labels) (hwd:WordsAt w (.slice wa F.words.length wc) F.words) (hkw:wf64 k) (hL:Laid w) :
  Calls prog 4 #[.string (bs l),.agg (factsC F (.slice la F.labels.length lc) (.slice wa F.words.length wc)),.int .i64 k] w (BoolPost w true):=by
 have z1:=JN l;unfold factsC;have hb1:Below w.heap.size w (w.alloc (.cells #[.slice la F.labels.length lc,.int .i64 F.likes,.int .i64 F.boosts,.int .i64 F.replies,.int .i64 F.reports,.int .i64 F.age,.int .i64 F.home,.int .i64 F.scope,.int .i64 F.length,.bool F.follows,.bool F.reply,.slice wa F.words.length wc] 25)):=(Below.refl _ _).alloc (Nat.le_refl _) _;have HB1:Hid (Bel w (w.alloc (.cells #[.slice la F.labels.length lc,.int .i64 F.likes,.int .i64 F.boosts,.int .i64 F.replies,.int .i64 F.reports,.int .i64 F.age,.int .i64 F.home,.int .i64 F.scope,.int .i64 F.length,.bool F.follows,.bool F.reply,.slice wa F.words.length wc] 25))):=hb1;have HFB:=Zh (heap_alloc_new w (.cells #[.slice la F.labels.length lc,.int .i64 F.likes,.int .i64 F.boosts,.int .i64 F.replies,.int .i64 F.reports,.int .i64 F.age,.int .i64 F.home,.int .i64 F.scope,.int .i64 F.length,.bool F.follows,.bool F.reply,.slice wa F.words.length wc] 25));have HLAB:=Zh hlab;have HWD:=Zh hwd;have HL:=Zh hL;obtain ⟨n,hn⟩:∃ n,l.length=n:=⟨_,rfl⟩
 rw[hn] at z1 hl;have HN:=Zh hn;clear hb1 hlab hwd hL hn;go_enter func4,ntmps4;go_upto_region 1 with fail;have HFL:=Zh (Jb HFB.out);generalize World.alloc w _=w1 at *;generalize w.heap.size=fb at *
 have FF:Hid (∀ W,Below w1.heap.size w1 W→W.cell? ⟨fb,0,none⟩=some (.slice la F.labels.length lc)∧W.cell? ⟨fb,1,none⟩=some (.int .i64 F.likes)∧W.cell? ⟨fb,2,none⟩=some (.int .i64 F.boosts)∧W.cell? ⟨fb,3,none⟩=some (.int .i64 F.replies)∧W.cell? ⟨fb,4,none⟩=some (.int .i64 F.reports)∧W.cell? ⟨fb,5,none⟩=some (.int .i64 F.age)∧W.cell? ⟨fb,6,none⟩=some (.int .i64 F.home)∧W.cell? ⟨fb,7,none⟩=some (.int .i64 F.scope)∧W.cell? ⟨fb,8,none⟩=some (.int .i64 F.length)∧W.cell? ⟨fb,9,none⟩=some (.bool F.follows)∧W.cell? ⟨fb,10,none⟩=some (.bool F.reply)∧W.cell? ⟨fb,11,none⟩=some (.slice wa F.words.length wc)):=by
  intro W hW;have hf:=(hW.block _ HFL.out).trans HFB.out;refine ⟨?_,?_,?_,?_,?_,?_,?_,?_,?_,?_,?_,?_⟩ <;> (rw[Ja hf]; rfl)
 go_wp2_with fail;refine (Jfs w1 (HL.out.below HB1.out)).mono ?_;rintro e w2 ⟨rfl,hb2⟩;have HX2:Hid (Below w1.heap.size w1 w2):=hb2;have HB2:Hid (Bel w w2):=Ji HB1.out hb2;clear hb2 HB1
 by_cases hn2:2000<n
 ·have d1:decide (2000<(n:Int))=true:=decide_eq_true (by omega);have d1N:decide (2000<n)=true:=decide_eq_true hn2;clear hn2;go_wp2;go_ret;exact ⟨rfl,HB2.out⟩
 have d1:decide (2000<(n:Int))=false:=decide_eq_false (by omega);have d1N:decide (2000<n)=false:=decide_eq_false hn2;clear hn2;have cp:=parse_any' l w2 (by rw[HN.out]; omega) (HL.out.below HB2.out);have HPF:Hid ((parseM l).2.1=0→rightM (parseM l).1=true∧RSz (parseM l).1):=fun h=>Jbb h
 obtain ⟨⟨r,er,at0⟩,hpm⟩:∃ x,parseM l=x:=⟨_,rfl⟩
 rw[hpm] at cp HPF;dsimp only at HPF;clear hpm;go_wp2_with fail;refine cp.mono ?_;intro e u hps;obtain ⟨c,rfl,hx,hb⟩:=hps.inw;dsimp only at hx;dsimp only;clear cp hps d1 d1N;obtain ⟨fa,fc,ca,cc,rfl,_,_⟩:=hx.parts;have hq:Below u.heap.size u (u.alloc (.cells #[.slice fa r.funcs.length fc,.slice ca r.clauses.length cc,.int .i64 r.action] 30)):=(Below.refl _ _).alloc (Nat.le_refl _) _;have HX3:Hid (Below w1.heap.size w1 (u.alloc (.cells #[.slice fa r.funcs.length fc,.slice ca r.clauses.length cc,.int .i64 r.action] 30))):=Ji HX2.out (Ji hb hq);have HB3:Hid (Bel w (u.alloc (.cells #[.slice fa r.funcs.length fc,.slice ca r.clauses.length cc,.int .i64 r.action] 30))):=Ji HB2.out (Ji hb hq);have HRB:=Zh (heap_alloc_new u (.cells #[.slice fa r.funcs.length fc,.slice ca r.clauses.length cc,.int .i64 r.action] 30));have HRX:=Zh (hx.up hq);clear hx hb hq HX2 HB2;go_upto_region 5 with fail;have HRL:=Zh (Jb HRB.out);generalize World.alloc u _=v at *;generalize u.heap.size=rb at *
 have FR:Hid (∀ W,Below v.heap.size v W→W.cell? ⟨rb,0,none⟩=some (.slice fa r.funcs.length fc)∧W.cell? ⟨rb,1,none⟩=some (.slice ca r.clauses.length cc)∧W.cell? ⟨rb,2,none⟩=some (.int .i64 r.action)):=by
  intro W hW;have hf:=(hW.block _ HRL.out).trans HRB.out;refine ⟨?_,?_,?_⟩ <;> (rw[Ja hf]; rfl)
 by_cases her:er=0
 ·subst her;obtain ⟨hrr,hrz⟩:=HPF.out rfl;have HZ:=Zh hrz;have HR:=Zh hrr;clear hrr hrz HPF;obtain ⟨b0,b1,b2,b3,b4,b5,b6,b7,b8,b9,b10,b11⟩:=FF.out _ HX3.out;obtain ⟨r0,r1,r2⟩:=FR.out _ (Below.refl _ _);have cl:=Jft r F _ la wa lc wc v HRX.out ⟨HZ.out.len.1,HZ.out.len.2.1,HZ.out.len.2.2⟩;unfold factsC at cl;go_wp2_with fail;refine cl.mono ?_;rintro e v2 ⟨rfl,hb⟩;have HV2:Hid (Below v.heap.size v v2):=hb;clear cl hb b0 b1 b2 b3 b4 b5 b6 b7 b8 b9 b10 b11 r0 r1 r2
  cases hli:lightM r F with
  | false=>
   have HFIN:Hid (Bel w v2):=Ji HB3.out HV2.out;clear hli;go_wp2;go_ret;exact ⟨rfl,HFIN.out⟩
  | true=>
  have HFZ:=Zh (JgV hli);clear hli;obtain ⟨b0,b1,b2,b3,b4,b5,b6,b7,b8,b9,b10,b11⟩:=FF.out _ (Ji HX3.out HV2.out);have hbw2:Bel w v2:=Ji HB3.out HV2.out;have cf:=Zr F (.slice la F.labels.length lc) (.slice wa F.words.length wc) v2 HFZ.out (HLAB.out.up hbw2) (HWD.out.up hbw2);unfold factsC at cf;go_wp2_with fail;refine cf.mono ?_;rintro e v5 ⟨rfl,hb⟩;have HV5:Hid (Below v.heap.size v v5):=Ji HV2.out hb;have HFIN:Hid (Bel w v5):=Ji hbw2 hb;clear cf hb hbw2 b0 b1 b2 b3 b4 b5 b6 b7 b8 b9 b10 b11 HV2
  cases hff:factsM F with
  | false=>
   clear hff;go_wp2;go_ret;exact ⟨rfl,HFIN.out⟩
  | true=>
  have HFF:=Zh hff;clear hff
  by_cases hk0:k<0
  ·have dk:decide (k<0)=true:=decide_eq_true hk0;clear hk0;go_wp2;go_ret;exact ⟨rfl,HFIN.out⟩
  have dk:decide (k<0)=false:=decide_eq_false hk0;obtain ⟨r0,r1,r2⟩:=FR.out _ HV5.out
  by_cases hk1:(r.clauses.length:Int)<k
  ·have dk1:decide ((r.clauses.length:Int)<k)=true:=decide_eq_true hk1;clear hk0 hk1;go_wp2;go_ret;exact ⟨rfl,HFIN.out⟩
  have dk1:decide ((r.clauses.length:Int)<k)=false:=decide_eq_false hk1;obtain ⟨kk,rfl⟩:∃ kk:Nat,k=kk:=⟨k.toNat,by omega⟩
  have hkn:kk≤r.clauses.length:=by omega
  have HKN:=Zh hkn;have dk1N:decide (r.clauses.length<kk)=false:=decide_eq_false (by omega);have hcl5:=HRX.out.up HV5.out;obtain ⟨fa',fc',ca',cc',hce,hfx,hcx⟩:=hcl5.parts;injection hce with hce;injection hce with h1 h2;injection h2 with h2 h3;injection h1 with e1 _ e2;injection h2 with e3 _ e4;subst e1 e2 e3 e4
  have hcc:r.clauses.length≤cc:=by
   obtain ⟨_,_,h,hle⟩:=hcx.form;injection h with _ _ h;subst h;exact hle
  have HFX:=Zh hfx;have HCX:=Zh hcx;have cpa:=JfB fa ca r.funcs.length fc r.clauses.length cc kk r.action v5 hkn hcc HZ.out.nc;clear hk0 hk1 hkn hkw hcl5 hfx hcx hcc;go_wp2_with fail;refine cpa.mono ?_;rintro e v6 ⟨rfl,hb⟩;have HV6:Hid (Bel v5 v6):=hb;clear cpa hb r0 r1 r2 dk dk1 dk1N;have hsp:=JbP HR.out HFF.out kk;have hle2:=(JaN ⟨r.funcs,r.clauses.take kk,r.action⟩ F HFF.out).le;have hle3:=(JaN ⟨r.funcs,r.clauses.drop kk,r.action⟩ F HFF.out).le;obtain ⟨O1,hO1⟩:∃ o,runM r F=o:=⟨_,rfl⟩
  obtain ⟨O2,hO2⟩:∃ o,runM ⟨r.funcs,r.clauses.take kk,r.action⟩ F=o:=⟨_,rfl⟩
  obtain ⟨O3,hO3⟩:∃ o,runM ⟨r.funcs,r.clauses.drop kk,r.action⟩ F=o:=⟨_,rfl⟩
  obtain ⟨O4,hO4⟩:∃ o,runM ⟨r.funcs,r.clauses.take kk,0⟩ F=o:=⟨_,rfl⟩
  obtain ⟨O5,hO5⟩:∃ o,runM ⟨r.funcs,r.clauses.take kk,3⟩ F=o:=⟨_,rfl⟩
  rw[hO1,hO2,hO3,hO4,hO5] at hsp;rw[hO2] at hle2;rw[hO3] at hle3;have HSP:=Zh hsp;have HL2:=Zh hle2;have HL3:=Zh hle3;have HO1:=Zh hO1;have HO2:=Zh hO2;have HO3:=Zh hO3;have HO4:=Zh hO4;have HO5:=Zh hO5;clear hsp hle2 hle3 hO1 hO2 hO3 hO4 hO5
  have HCT:Hid (ClxAt v5 (.slice ca kk cc) (r.clauses.take kk)):=by
   have h:=HCX.out.take HKN.out;rw[List.length_take,Nat.min_eq_left HKN.out] at h;exact h
  have HCD:Hid (ClxAt v5 (.slice (cutA ca kk cc) (r.clauses.length-kk) (cc-kk)) (r.clauses.drop kk)):=by
   have h:=HCX.out.drop HKN.out;rw[List.length_drop] at h;exact h
  have HZT:Hid (∀ a,RSz ⟨r.funcs,r.clauses.take kk,a⟩):=fun a=>HZ.out.some (fun c hc=>List.mem_of_mem_take hc) (by rw[List.length_take]; exact Nat.min_le_right _ _)
  have HZD:Hid (RSz ⟨r.funcs,r.clauses.drop kk,r.action⟩):=HZ.out.some (fun c hc=>List.mem_of_mem_drop hc) (by rw[List.length_drop]; exact Nat.sub_le _ _);have hz:=Jdy v6 (.cells #[.slice fa r.funcs.length fc,.slice ca kk cc,.int .i64 r.action] 30) (.cells #[.slice fa r.funcs.length fc,.slice (cutA ca kk cc) (r.clauses.length-kk) (cc-kk),.int .i64 r.action] 30);dsimp only at hz;have HXV:Hid (v5.heap.size≤v6.heap.size):=Below.size HV6.out;go_upto_region 8 with fail;generalize World.alloc (World.alloc _ _) _=v7 at *;obtain ⟨hx0,hy0,hb⟩:=hz;have HG:Hid (Bel v5 v7):=Ji HV6.out hb;have HXB:=Zh hx0;have HYB:=Zh hy0;clear hx0 hy0 hb HV6 HCX HKN;generalize v6.heap.size=xb at *;obtain ⟨b0,b1,b2,b3,b4,b5,b6,b7,b8,b9,b10,b11⟩:=FF.out _ (Ji HX3.out (Ji HV5.out HG.out));obtain ⟨r0,r1,r2⟩:=FR.out _ (Ji HV5.out HG.out);have hbw:Bel w v7:=Ji HFIN.out HG.out;have cr:=KR r F _ (.slice la F.labels.length lc) (.slice wa F.words.length wc) v7 (HRX.out.up (Ji HV5.out HG.out)) HZ.out HFZ.out (HLAB.out.up hbw) (HWD.out.up hbw);rw[HO1.out] at cr;unfold factsC RunP outC at cr
  try dsimp only at cr
  go_wp2_with fail;refine cr.mono ?_;rintro e u1 ⟨rfl,hb⟩;have hq:Below u1.heap.size u1 (u1.alloc (.cells #[.int .i64 O1.action,.string (bs O1.reason),.int .i64 O1.used,.int .i64 O1.fault] 36)):=(Below.refl _ _).alloc (Nat.le_refl _) _;have hbq:=Ji hb hq;have HG2:Hid (Bel v5 (u1.alloc (.cells #[.int .i64 O1.action,.string (bs O1.reason),.int .i64 O1.used,.int .i64 O1.fault] 36))):=Ji HG.out hbq;have HXB2:=Zh ((hbq.block _ (Jb HXB.out)).trans HXB.out);have HYB2:=Zh ((hbq.block _ (Jb HYB.out)).trans HYB.out)
  have HN1:Hid (u1.heap.size≠xb):=by
   exact sx86
  have HB1:=Zh (heap_alloc_new u1 (.cells #[.int .i64 O1.action,.string (bs O1.reason),.int .i64 O1.used,.int .i64 O1.fault] 36));clear cr hb hq hbq hbw b0 b1 b2 b3 b4 b5 b6 b7 b8 b9 b10 b11 r0 r1 r2 HG HXB HYB;go_upto_region 9 with fail;generalize World.alloc u1 _=z1 at *;generalize u1.heap.size=ob1 at *;have HG:=HG2;clear HG2;have HXB:=HXB2;clear HXB2;have HYB:=HYB2;clear HYB2;obtain ⟨b0,b1,b2,b3,b4,b5,b6,b7,b8,b9,b10,b11⟩:=FF.out _ (Ji HX3.out (Ji HV5.out HG.out));have r0:=Ja HXB.out 0;have r1:=Ja HXB.out 1;have r2:=Ja HXB.out 2;simp only[ZD,ZE,ZF] at r0 r1 r2;have hbw:Bel w z1:=Ji HFIN.out HG.out;have cr:=KR ⟨r.funcs,r.clauses.take kk,r.action⟩ F _ (.slice la F.labels.length lc) (.slice wa F.words.length wc) z1 ⟨_,_,rfl,HFX.out.up HG.out,HCT.out.up HG.out⟩ (HZT.out _) HFZ.out (HLAB.out.up hbw) (HWD.out.up hbw);rw[HO2.out] at cr;unfold factsC RunP outC at cr
  try dsimp only at cr
  go_wp2_with fail;refine cr.mono ?_;rintro e u2 ⟨rfl,hb⟩;have hq:Below u2.heap.size u2 (u2.alloc (.cells #[.int .i64 O2.action,.string (bs O2.reason),.int .i64 O2.used,.int .i64 O2.fault] 36)):=(Below.refl _ _).alloc (Nat.le_refl _) _;have hbq:=Ji hb hq;have HG2:Hid (Bel v5 (u2.alloc (.cells #[.int .i64 O2.action,.string (bs O2.reason),.int .i64 O2.used,.int .i64 O2.fault] 36))):=Ji HG.out hbq;have HXB2:=Zh ((hbq.block _ (Jb HXB.out)).trans HXB.out);have HYB2:=Zh ((hbq.block _ (Jb HYB.out)).trans HYB.out);have HB12:=Zh ((hbq.block _ (Jb HB1.out)).trans HB1.out)
  have HN2:Hid (u2.heap.size≠xb):=by
   exact sx86
  have HB2:=Zh (heap_alloc_new u2 (.cells #[.int .i64 O2.action,.string (bs O2.reason),.int .i64 O2.used,.int .i64 O2.fault] 36));clear cr hb hq hbq hbw b0 b1 b2 b3 b4 b5 b6 b7 b8 b9 b10 b11 r0 r1 r2 HG HXB HYB HB1;go_upto_region 10 with fail;generalize World.alloc u2 _=z2 at *;generalize u2.heap.size=ob2 at *;have HG:=HG2;clear HG2;have HXB:=HXB2;clear HXB2;have HYB:=HYB2;clear HYB2;have HB1:=HB12;clear HB12;obtain ⟨b0,b1,b2,b3,b4,b5,b6,b7,b8,b9,b10,b11⟩:=FF.out _ (Ji HX3.out (Ji HV5.out HG.out));have r0:=Ja HYB.out 0;have r1:=Ja HYB.out 1;have r2:=Ja HYB.out 2;simp only[ZD,ZE,ZF] at r0 r1 r2;have hbw:Bel w z2:=Ji HFIN.out HG.out;have cr:=KR ⟨r.funcs,r.clauses.drop kk,r.action⟩ F _ (.slice la F.labels.length lc) (.slice wa F.words.length wc) z2 ⟨_,_,rfl,HFX.out.up HG.out,HCD.out.up HG.out⟩ HZD.out HFZ.out (HLAB.out.up hbw) (HWD.out.up hbw);rw[HO3.out] at cr;unfold factsC RunP outC at cr
  try dsimp only at cr
  go_wp2_with fail;refine cr.mono ?_;rintro e u3 ⟨rfl,hb⟩;have hq:Below u3.heap.size u3 (u3.alloc (.cells #[.int .i64 O3.action,.string (bs O3.reason),.int .i64 O3.used,.int .i64 O3.fault] 36)):=(Below.refl _ _).alloc (Nat.le_refl _) _;have hbq:=Ji hb hq;have HG2:Hid (Bel v5 (u3.alloc (.cells #[.int .i64 O3.action,.string (bs O3.reason),.int .i64 O3.used,.int .i64 O3.fault] 36))):=Ji HG.out hbq;have HXB2:=Zh ((hbq.block _ (Jb HXB.out)).trans HXB.out);have HYB2:=Zh ((hbq.block _ (Jb HYB.out)).trans HYB.out);have HB12:=Zh ((hbq.block _ (Jb HB1.out)).trans HB1.out);have HB22:=Zh ((hbq.block _ (Jb HB2.out)).trans HB2.out)
  have HN3:Hid (u3.heap.size≠xb):=by
   exact sx86
  have HN13:Hid (ob1≠u3.heap.size):=by
   have h1:=Jb HB1.out;have h2:=hb.size;unfold Hid;omega
  have HM3:Hid (xb<u3.heap.size):=by
   exact sx86
  have HB3:=Zh (heap_alloc_new u3 (.cells #[.int .i64 O3.action,.string (bs O3.reason),.int .i64 O3.used,.int .i64 O3.fault] 36));clear cr hb hq hbq hbw b0 b1 b2 b3 b4 b5 b6 b7 b8 b9 b10 b11 r0 r1 r2 HG HXB HYB HB1 HB2;go_upto_region 11 with fail;generalize World.alloc u3 _=z3 at *;generalize u3.heap.size=ob3 at *;have HG:=HG2;clear HG2;have HXB:=HXB2;clear HXB2;have HYB:=HYB2;clear HYB2;have HB1:=HB12;clear HB12;have HB2:=HB22;clear HB22;have hx2:=Jc HXB.out 2;have hx3:=Ja HXB.out 2;simp only[ZD,ZE,ZF] at hx3;go_upto_region 12 with fail;have HG2:Hid (Bel v5 (z3.setCell ⟨xb,2,none⟩ (.int .i64 0))):=HG.out.setCell (p:=⟨xb,2,none⟩) HXV.out _;have HXB2:=Zh (Jv HXB.out 2 (.int .i64 0));have HYB2:=Zh (Jf HYB.out (p:=⟨xb,2,none⟩) (by show xb+1≠xb; omega) (.int .i64 0));have HB12:=Zh (Jf HB1.out (p:=⟨xb,2,none⟩) (HN1.out) (.int .i64 0));have HB22:=Zh (Jf HB2.out (p:=⟨xb,2,none⟩) (HN2.out) (.int .i64 0));have HB32:=Zh (Jf HB3.out (p:=⟨xb,2,none⟩) (HN3.out) (.int .i64 0));clear hx2 hx3 HG HXB HYB HB1 HB2 HB3;generalize World.setCell _ _ _=s4 at *;have HG:=HG2;clear HG2;have HXB:=HXB2;clear HXB2;have HYB:=HYB2;clear HYB2;have HB1:=HB12;clear HB12;have HB2:=HB22;clear HB22;have HB3:=HB32;clear HB32;replace HXB:Hid (s4.heap[xb]?=some (.cells #[.slice fa r.funcs.length fc,.slice ca kk cc,.int .i64 0] 30 (0,0))):=HXB.out;obtain ⟨b0,b1,b2,b3,b4,b5,b6,b7,b8,b9,b10,b11⟩:=FF.out _ (Ji HX3.out (Ji HV5.out HG.out));have r0:=Ja HXB.out 0;have r1:=Ja HXB.out 1;have r2:=Ja HXB.out 2;simp only[ZD,ZE,ZF] at r0 r1 r2;have hbw:Bel w s4:=Ji HFIN.out HG.out;have cr:=KR ⟨r.funcs,r.clauses.take kk,0⟩ F _ (.slice la F.labels.length lc) (.slice wa F.words.length wc) s4 ⟨_,_,rfl,HFX.out.up HG.out,HCT.out.up HG.out⟩ (HZT.out _) HFZ.out (HLAB.out.up hbw) (HWD.out.up hbw);rw[HO4.out] at cr;unfold factsC RunP outC at cr
  try dsimp only at cr
  go_wp2_with fail;refine cr.mono ?_;rintro e u4 ⟨rfl,hb⟩;have hq:Below u4.heap.size u4 (u4.alloc (.cells #[.int .i64 O4.action,.string (bs O4.reason),.int .i64 O4.used,.int .i64 O4.fault] 36)):=(Below.refl _ _).alloc (Nat.le_refl _) _;have hbq:=Ji hb hq;have HG2:Hid (Bel v5 (u4.alloc (.cells #[.int .i64 O4.action,.string (bs O4.reason),.int .i64 O4.used,.int .i64 O4.fault] 36))):=Ji HG.out hbq;have HXB2:=Zh ((hbq.block _ (Jb HXB.out)).trans HXB.out);have HYB2:=Zh ((hbq.block _ (Jb HYB.out)).trans HYB.out);have HB12:=Zh ((hbq.block _ (Jb HB1.out)).trans HB1.out);have HB22:=Zh ((hbq.block _ (Jb HB2.out)).trans HB2.out);have HB32:=Zh ((hbq.block _ (Jb HB3.out)).trans HB3.out)
  have HN4:Hid (u4.heap.size≠xb):=by
   exact sx86
  have HB4:=Zh (heap_alloc_new u4 (.cells #[.int .i64 O4.action,.string (bs O4.reason),.int .i64 O4.used,.int .i64 O4.fault] 36));clear cr hb hq hbq hbw b0 b1 b2 b3 b4 b5 b6 b7 b8 b9 b10 b11 r0 r1 r2 HG HXB HYB HB1 HB2 HB3;go_upto_region 13 with fail;generalize World.alloc u4 _=z4 at *;generalize u4.heap.size=ob4 at *;have HG:=HG2;clear HG2;have HXB:=HXB2;clear HXB2;have HYB:=HYB2;clear HYB2;have HB1:=HB12;clear HB12;have HB2:=HB22;clear HB22;have HB3:=HB32;clear HB32;have hx2:=Jc HXB.out 2;have hx3:=Ja HXB.out 2;simp only[ZD,ZE,ZF] at hx3;go_upto_region 14 with fail;have HG2:Hid (Bel v5 (z4.setCell ⟨xb,2,none⟩ (.int .i64 3))):=HG.out.setCell (p:=⟨xb,2,none⟩) HXV.out _;have HXB2:=Zh (Jv HXB.out 2 (.int .i64 3));have HYB2:=Zh (Jf HYB.out (p:=⟨xb,2,none⟩) (by show xb+1≠xb; omega) (.int .i64 3));have HB12:=Zh (Jf HB1.out (p:=⟨xb,2,none⟩) (HN1.out) (.int .i64 3));have HB22:=Zh (Jf HB2.out (p:=⟨xb,2,none⟩) (HN2.out) (.int .i64 3));have HB32:=Zh (Jf HB3.out (p:=⟨xb,2,none⟩) (HN3.out) (.int .i64 3));have HB42:=Zh (Jf HB4.out (p:=⟨xb,2,none⟩) (HN4.out) (.int .i64 3));clear hx2 hx3 HG HXB HYB HB1 HB2 HB3 HB4;generalize World.setCell _ _ _=s5 at *;have HG:=HG2;clear HG2;have HXB:=HXB2;clear HXB2;have HYB:=HYB2;clear HYB2;have HB1:=HB12;clear HB12;have HB2:=HB22;clear HB22;have HB3:=HB32;clear HB32;have HB4:=HB42;clear HB42;replace HXB:Hid (s5.heap[xb]?=some (.cells #[.slice fa r.funcs.length fc,.slice ca kk cc,.int .i64 3] 30 (0,0))):=HXB.out;obtain ⟨b0,b1,b2,b3,b4,b5,b6,b7,b8,b9,b10,b11⟩:=FF.out _ (Ji HX3.out (Ji HV5.out HG.out));have r0:=Ja HXB.out 0;have r1:=Ja HXB.out 1;have r2:=Ja HXB.out 2;simp only[ZD,ZE,ZF] at r0 r1 r2;have hbw:Bel w s5:=Ji HFIN.out HG.out;have cr:=KR ⟨r.funcs,r.clauses.take kk,3⟩ F _ (.slice la F.labels.length lc) (.slice wa F.words.length wc) s5 ⟨_,_,rfl,HFX.out.up HG.out,HCT.out.up HG.out⟩ (HZT.out _) HFZ.out (HLAB.out.up hbw) (HWD.out.up hbw);rw[HO5.out] at cr;unfold factsC RunP outC at cr
  try dsimp only at cr
  go_wp2_with fail;refine cr.mono ?_;rintro e u5 ⟨rfl,hb⟩;have hq:Below u5.heap.size u5 (u5.alloc (.cells #[.int .i64 O5.action,.string (bs O5.reason),.int .i64 O5.used,.int .i64 O5.fault] 36)):=(Below.refl _ _).alloc (Nat.le_refl _) _;have hbq:=Ji hb hq;have HG2:Hid (Bel v5 (u5.alloc (.cells #[.int .i64 O5.action,.string (bs O5.reason),.int .i64 O5.used,.int .i64 O5.fault] 36))):=Ji HG.out hbq;have HXB2:=Zh ((hbq.block _ (Jb HXB.out)).trans HXB.out);have HYB2:=Zh ((hbq.block _ (Jb HYB.out)).trans HYB.out);have HB12:=Zh ((hbq.block _ (Jb HB1.out)).trans HB1.out);have HB22:=Zh ((hbq.block _ (Jb HB2.out)).trans HB2.out);have HB32:=Zh ((hbq.block _ (Jb HB3.out)).trans HB3.out);have HB42:=Zh ((hbq.block _ (Jb HB4.out)).trans HB4.out)
  have HN5:Hid (u5.heap.size≠xb):=by
   exact sx86
  have HB5:=Zh (heap_alloc_new u5 (.cells #[.int .i64 O5.action,.string (bs O5.reason),.int .i64 O5.used,.int .i64 O5.fault] 36));clear cr hb hq hbq hbw b0 b1 b2 b3 b4 b5 b6 b7 b8 b9 b10 b11 r0 r1 r2 HG HXB HYB HB1 HB2 HB3 HB4;go_upto_region 15 with fail;generalize World.alloc u5 _=z5 at *;generalize u5.heap.size=ob5 at *;have HG:=HG2;clear HG2;have HXB:=HXB2;clear HXB2;have HYB:=HYB2;clear HYB2;have HB1:=HB12;clear HB12;have HB2:=HB22;clear HB22;have HB3:=HB32;clear HB32;have HB4:=HB42;clear HB42;have c10:=Ja HB1.out 0;have c11:=Ja HB1.out 1;have c12:=Ja HB1.out 2;have c13:=Ja HB1.out 3;have c20:=Ja HB2.out 0;have c21:=Ja HB2.out 1;have c22:=Ja HB2.out 2;have c23:=Ja HB2.out 3;have c30:=Ja HB3.out 0;have c31:=Ja HB3.out 1;have c32:=Ja HB3.out 2;have c33:=Ja HB3.out 3;have c40:=Ja HB4.out 0;have c41:=Ja HB4.out 1;have c42:=Ja HB4.out 2;have c43:=Ja HB4.out 3;have c50:=Ja HB5.out 0;have c51:=Ja HB5.out 1;have c52:=Ja HB5.out 2;have c53:=Ja HB5.out 3;simp only[ZD,ZE,ZF] at c10 c11 c12 c13 c20 c21 c22 c23 c30 c31 c32 c33 c40 c41 c42 c43 c50 c51 c52 c53;have HF2:Hid (Bel w z5):=Ji HFIN.out HG.out
  by_cases hA:O2.fault=0
  ·have fA:(O2.fault==0)=true:=beq_iff_eq.2 hA;have fA':(O2.fault !=0)=false:=by rw[bne,fA]; rfl
   by_cases hB:O4.action=O5.action
   ·have fB:(O4.action==O5.action)=true:=beq_iff_eq.2 hB;have hw:=HSP.out.ends (.inr hB)
    have heq:∀ W,(binOp .eql 36 (.agg #[.int .i64 O1.action,.string (bs O1.reason),.int .i64 O1.used,.int .i64 O1.fault]) (.agg #[.int .i64 O2.action,.string (bs O2.reason),.int .i64 O2.used,.int .i64 O2.fault])).run prog W=.ok (.bool true) W:=by
     intro W;have h:=Z8 O1 O2 W;rw[decide_eq_true hw] at h;exact h
    clear hA hB hw;go_wp2;go_ret;exact ⟨rfl,HF2.out⟩
   ·have fB:(O4.action==O5.action)=false:=beq_eq_false_iff_ne.2 hB;have wk:IntKind.i64.wrap ((O2.used:Int)+(O3.used:Int))=(O2.used:Int)+(O3.used:Int):=IntWalk.i64_in _ (by have:=HL2.out; have:=HL3.out; omega)
    by_cases hU:10000<O2.used+O3.used
    ·have dU:decide ((10000:Int)<(O2.used:Int)+(O3.used:Int))=true:=decide_eq_true (by omega);have hw:=HSP.out.full hA hB hU
     have heq:∀ W,(binOp .eql 36 (.agg #[.int .i64 O1.action,.string (bs O1.reason),.int .i64 O1.used,.int .i64 O1.fault]) (.agg #[.int .i64 0,.string ⟨#[]⟩,.int .i64 10000,.int .i64 14])).run prog W=.ok (.bool true) W:=by
      intro W;have h:=Z8 O1 ⟨0,[],10000,14⟩ W;rw[decide_eq_true hw] at h;exact h
     clear hA hB hw hU;go_wp2;go_ret;exact ⟨rfl,HF2.out⟩
    ·have dU:decide ((10000:Int)<(O2.used:Int)+(O3.used:Int))=false:=decide_eq_false (by omega);have hw:=HSP.out.both hA hB (by omega);have f32:=Jc HB3.out 2
     have heq:∀ W,(binOp .eql 36 (.agg #[.int .i64 O1.action,.string (bs O1.reason),.int .i64 O1.used,.int .i64 O1.fault]) (.agg #[.int .i64 O3.action,.string (bs O3.reason),.int .i64 ((O2.used:Int)+(O3.used:Int)),.int .i64 O3.fault])).run prog W=.ok (.bool true) W:=by
      intro W;have h:=Z8 O1 { O3 with used:=O2.used+O3.used } W;rw[decide_eq_true hw] at h;exact h
     have HF3:Hid (Bel w (z5.setCell ⟨ob3,2,none⟩ (.int .i64 ((O2.used:Int)+(O3.used:Int))))):=Ji HFIN.out (HG.out.setCell (p:=⟨ob3,2,none⟩) (by show v5.heap.size≤ob3; have:=HXV.out; have:=HM3.out; omega) _);have HB11:=Zh (Jf HB1.out (p:=⟨ob3,2,none⟩) HN13.out (.int .i64 ((O2.used:Int)+(O3.used:Int))));have HB33:Hid ((z5.setCell ⟨ob3,2,none⟩ (.int .i64 ((O2.used:Int)+(O3.used:Int)))).heap[ob3]?=some (.cells #[.int .i64 O3.action,.string (bs O3.reason),.int .i64 ((O2.used:Int)+(O3.used:Int)),.int .i64 O3.fault] 36 (0,0))):=Jv HB3.out 2 _;clear hA hB hw hU;go_upto_region 20 with fail;clear c10 c11 c12 c13 c20 c21 c22 c23 c30 c31 c32 c33 c40 c41 c42 c43 c50 c51 c52 c53 f32 wk dU fA fA' fB;generalize World.setCell _ _ _=z6 at *;have c10:=Ja HB11.out 0;have c11:=Ja HB11.out 1;have c12:=Ja HB11.out 2;have c13:=Ja HB11.out 3;have c30:=Ja HB33.out 0;have c31:=Ja HB33.out 1;have c32:=Ja HB33.out 2;have c33:=Ja HB33.out 3;simp only[ZD,ZE,ZF] at c10 c11 c12 c13 c30 c31 c32 c33;go_wp2;go_ret;exact ⟨rfl,HF3.out⟩
  ·have fA:(O2.fault==0)=false:=beq_eq_false_iff_ne.2 hA;have fA':(O2.fault !=0)=true:=by rw[bne,fA]; rfl
   have hw:=HSP.out.ends (.inl hA)
   have heq:∀ W,(binOp .eql 36 (.agg #[.int .i64 O1.action,.string (bs O1.reason),.int .i64 O1.used,.int .i64 O1.fault]) (.agg #[.int .i64 O2.action,.string (bs O2.reason),.int .i64 O2.used,.int .i64 O2.fault])).run prog W=.ok (.bool true) W:=by
    intro W;have h:=Z8 O1 O2 W;rw[decide_eq_true hw] at h;exact h
   clear hA hw;go_wp2;go_ret;exact ⟨rfl,HF2.out⟩
 ·have e0:(er==0)=false:=beq_eq_false_iff_ne.2 her;have e0':(er !=0)=true:=by rw[bne,e0]; rfl
  clear her;go_wp2;go_ret;exact ⟨rfl,HB3.out⟩
end Go.Proofs.YtncanmdgdflnpaaGreatDoor
