import Derived.Test.YtdlkcjkjnehnkaaGreatDoorG45
import Derived.Test.YtdlkcjkjnehnkaaGreatDoorG48
namespace Go.Proofs.YtdlkcjkjnehnkaaGreatDoor
open Go Go.Lib
open Go.ChangeShapes Go.WideShapes Go.ChangeAt Go.RowKit
open Go.ChangeShapes Go.WideShapes Go.ChangeAt Go.RowKit
open Go.ChangeShapes Go.WideShapes Go.ChangeAt Go.RowKit Go.Lib
open Go.RowKit
open Go Go.ChangeShapes Go.WideShapes Go.ChangeAt Go.RowKit Go.Lib
open Go
open _root_.Go.Proofs.Tryz
set_option linter.all false
set_option maxRecDepth 100000
set_option maxHeartbeats 32000000
theorem rowg_keep {w W:World} {k:Nat} {o:Obj} (h:w.heap[k]?=some o) (hb:Below w.heap.size w W):W.heap[k]?=some o:=(hb.block _ (Jb h)).trans h
def CK.rel (c:Value) (v:Value) (_:Nat→Prop) (_:World):Prop:=v=c
set_option maxRecDepth 100000 in
set_option maxHeartbeats 16000000 in
theorem parsed_any {w0:World} (s:List UInt8) (x:Exp) (d:List Value) (W:World) (hp:parseM ([119,104,101,110,32]++(s++[32,116,104,101,110,32,115,104,111,119,32,34,34,32,100,101,102,97,117,108,116,32,115,104,111,119]))=(oneR x,0,0)) (hsl:s.length≤4096) (hz:siz (utN x)≤1000000)
  (h1:ExpX w0 x d) (hb:Bel w0 W) (hL:Laid W):Calls Tryz.prog 13 #[.string (bs s),.agg d.toArray] W (BelP W (.bool true)):=by
 have hxx:=h1;obtain ⟨kd,nm,sn,l⟩:=x;obtain ⟨a1,c1,e1,_⟩:=RowG.kids h1
 have hdl:d=[.int .i64 kd,.int .i64 nm,.string (bs sn),.slice a1 l.length c1]:=by
  have:=congrArg Array.toList e1;simpa using this
 rw[e1];obtain ⟨x,hxe⟩:∃ x,Exp.mk kd nm sn l=x:=⟨_,rfl⟩
 rw[hxe] at hxx hz hp;subst hdl;obtain ⟨m,hm⟩:∃ m,l.length=m:=⟨_,rfl⟩
 rw[hm] at hxx ⊢;have HXX:=Lib.hid hxx;have HZ:=Lib.hid hz;have HL:=Lib.hid hL;have HBB:=Lib.hid hb;have z1:=JF s;have hx1:=bs_append [119,104,101,110,32] s;have hx2:=bs_append ([119,104,101,110,32]++s) [32,116,104,101,110,32,115,104,111,119,32,34,34,32,100,101,102,97,117,108,116,32,115,104,111,119];rw[List.append_assoc] at hx2;obtain ⟨U,hU⟩:∃ U,[119,104,101,110,32]++(s++[32,116,104,101,110,32,115,104,111,119,32,34,34,32,100,101,102,97,117,108,116,32,115,104,111,119])=U:=⟨_,rfl⟩
 rw[hU] at hx2 hp;have hUl:U.length=s.length+31:=by rw[← hU]; simp only[List.length_append,List.length_cons,List.length_nil]; omega
 obtain ⟨V,hV⟩:∃ V,[119,104,101,110,32]++s=V:=⟨_,rfl⟩
 rw[hV] at hx1 hx2;have hVl:V.length=s.length+5:=by rw[← hV]; simp only[List.length_append,List.length_cons,List.length_nil]; omega
 have z2:=JF V;have k1:(⟨#[119,104,101,110,32]⟩:ByteArray)++bs s=bs V:=hx1;have k2:bs V++(⟨#[32,116,104,101,110,32,115,104,111,119,32,34,34,32,100,101,102,97,117,108,116,32,115,104,111,119]⟩:ByteArray)=bs U:=hx2;clear hxx h1 e1 hxe hm hz hb hx1 hx2 hU hV;have HX:=Lib.hid (BxB.of (heap_alloc_new W (.cells #[.int .i64 kd,.int .i64 nm,.string (bs sn),.slice a1 m c1] 30)));have HB0:Hid (Bel W (W.alloc (.cells #[.int .i64 kd,.int .i64 nm,.string (bs sn),.slice a1 m c1] 30))):=(Below.refl _ _).alloc (Nat.le_refl _) _;clear hL;go_enter Tryz.func13,Tryz.ntmps13;go_upto_region 1 with fail;generalize World.alloc W _=w1 at *;generalize W.heap.size=xb at *;replace HB0:Hid (Bel W w1):=HB0;have cp:=parse_any' U w1 (by omega) (HL.out.below HB0.out);rw[hp] at cp;clear hp;go_wp2_with fail;refine cp.mono ?_;rintro e w2 hpp;obtain ⟨c9,rfl,hx9,hb9⟩:=hpp.inw;obtain ⟨fv,cv,hce,hf9,hc9⟩:=hx9;obtain ⟨fa,fcc,hfe,_⟩:=RowG.of FnX.len hf9;obtain ⟨ga,gcc,hge,g2⟩:=RowG.of ClX.len hc9;subst hfe hge;subst hce;have HG2:=Lib.hid g2;have hq9:Below w2.heap.size w2 (w2.alloc (.cells #[.slice fa (oneR x).funcs.length fcc,.slice ga (oneR x).clauses.length gcc,.int .i64 (oneR x).action] 25)):=(Below.refl _ _).alloc (Nat.le_refl _) _;have HB9:Hid (Bel w1 (w2.alloc (.cells #[.slice fa (oneR x).funcs.length fcc,.slice ga (oneR x).clauses.length gcc,.int .i64 (oneR x).action] 25))):=Jd hb9 hq9;have HBW:Hid (Bel w2 (w2.alloc (.cells #[.slice fa (oneR x).funcs.length fcc,.slice ga (oneR x).clauses.length gcc,.int .i64 (oneR x).action] 25))):=hq9;have HN9:=Lib.hid (heap_alloc_new w2 (.cells #[.slice fa (oneR x).funcs.length fcc,.slice ga (oneR x).clauses.length gcc,.int .i64 (oneR x).action] 25));clear hf9 hc9 g2 hb9 hq9 cp hpp k1 k2;go_upto_region 2 with fail;generalize World.alloc w2 _=v9 at *;generalize w2.heap.size=k9 at *;obtain ⟨b1,o1,ha1,hk1⟩:=HG2.out (show [(⟨x,0,[]⟩:ClM)]≠[] by simp);subst ha1;obtain ⟨d1,hr1,hc1⟩:=hk1 0 ⟨x,0,[]⟩ rfl;obtain ⟨dx,hdx,hde⟩:=hr1;obtain ⟨xa,xc,hdf,_⟩:∃ xa xc,dx=#[.int .i64 x.kind,.int .i64 x.num,.string (bs x.name),.slice xa x.kids.length xc]∧x.kids.length≤xc:=hdx.form;subst hdf;subst hde;have HD:Hid (ExpX w2 x [.int .i64 x.kind,.int .i64 x.num,.string (bs x.name),.slice xa x.kids.length xc]):=hdx
 have HK:Hid (∀ w',Bel v9 w'→(w'.cell? ⟨k9,0,none⟩=some (.slice fa 0 fcc)∧w'.cell? ⟨k9,1,none⟩=some (.slice (some ⟨b1,o1,none⟩) 1 gcc))∧(w'.cell? ⟨b1,o1,none⟩=some (.int .i64 x.kind)∧w'.cell? ⟨b1,o1+1,none⟩=some (.int .i64 x.num)∧w'.cell? ⟨b1,o1+2,none⟩=some (.string (bs x.name))∧w'.cell? ⟨b1,o1+3,none⟩=some (.slice xa x.kids.length xc))∧(w'.cell? ⟨xb,0,none⟩=some (.int .i64 kd)∧w'.cell? ⟨xb,1,none⟩=some (.int .i64 nm)∧w'.cell? ⟨xb,2,none⟩=some (.string (bs sn))∧w'.cell? ⟨xb,3,none⟩=some (.slice a1 m c1))):=by
  intro w' hw;have hq:=Jd HBW.out hw;have e0:=hc1 w' hq 0 _ rfl;have e1:=hc1 w' hq 1 _ rfl;have e2:=hc1 w' hq 2 _ rfl;have e3:=hc1 w' hq 3 _ rfl;simp only[Nat.zero_mul,Nat.add_zero] at e0 e1 e2 e3;obtain ⟨t0,t1,_⟩:=wthree (rowg_keep HN9.out hw);exact ⟨⟨t0,t1⟩,⟨e0,e1,e2,e3⟩,wfour (HX.out _ (Jd HB9.out hw))⟩
 have HCR:Hid (∀ w',Bel v9 w'→Calls Tryz.prog 21 #[.agg #[.int .i64 x.kind,.int .i64 x.num,.string (bs x.name),.slice xa x.kids.length xc],.agg #[.int .i64 kd,.int .i64 nm,.string (bs sn),.slice a1 m c1]] w' (BelP w' (.bool true))):=by
  intro w' hw;have hw2:Bel w2 w':=Jd HBW.out hw;have hw3:Bel w0 w':=Jd (Jd HBB.out HB0.out) (Jd HB9.out hw);have g1:ExpX w' x [.int .i64 x.kind,.int .i64 x.num,.string (bs x.name),.slice xa x.kids.length xc]:=XAt.keep (fun q hq=>hw2.block q hq) (fun q hq=>Nat.lt_of_lt_of_le hq hw2.size) x _ HD.out;have g2:ExpX w' x [.int .i64 kd,.int .i64 nm,.string (bs sn),.slice a1 m c1]:=XAt.keep (fun q hq=>hw3.block q hq) (fun q hq=>Nat.lt_of_lt_of_le hq hw3.size) x _ HXX.out;have:=Vl (w0:=w') x x _ _ w' HZ.out g1 g2 (Below.refl _ _);rw[(JcV x x).2 rfl] at this;exact this
 clear hc1 hk1 hdx;refine KJ 18 [] (fun i_=>CK.rel (match i_ with | 0=>.int .i64 0 | 1=>.bool true | 2=>.bool true | 3=>.pointer (some ⟨k9,1,none⟩) | 4=>.slice (some ⟨b1,o1,none⟩) 1 gcc | 5=>.int .i64 1 | 6=>.bool true | 7=>.bool true | 8=>.bool true | 9=>.pointer (some ⟨k9,1,none⟩) | 10=>.slice (some ⟨b1,o1,none⟩) 1 gcc | 11=>.pointer (some ⟨b1,o1,none⟩) | 12=>.pointer (some ⟨b1,o1,none⟩) | 13=>.agg #[.int .i64 x.kind,.int .i64 x.num,.string (bs x.name),.slice xa x.kids.length xc] | 14=>.agg #[.int .i64 kd,.int .i64 nm,.string (bs sn),.slice a1 m c1] | 15=>.bool true | 16=>.bool true | 17=>.bool true | _=>undef)) (fun W=>Bel v9 W) (Below.refl _ _).drew (by decide) (fun _ _ h hb=>Jd h hb) (fun i_ v P P1 w0 w1 hP h hb hq=>h) (fun i_ hi_=>allOb ?_ i_ hi_) ?_
 ·refine ⟨⟨⟨⟨⟨⟨⟨⟨⟨⟨⟨⟨⟨⟨⟨⟨⟨⟨trivial,?_⟩,?_⟩,?_⟩,?_⟩,?_⟩,?_⟩,?_⟩,?_⟩,?_⟩,?_⟩,?_⟩,?_⟩,?_⟩,?_⟩,?_⟩,?_⟩,?_⟩,?_⟩
  ·refine OpOb.of 0 rfl fun a0 w0 Pr hb hP hn hd ho K hK=>?_
   have o6:a0.tmps[6]?.getD undef=.int .i64 0:=ho 6 (by kernel_rfl);go_simp;exact hK.out _ _ (Below.refl _ _) (fun _ _ _=>rfl) (fun h=>absurd h (by decide))
  ·refine OpOb.of 1 rfl fun a0 w0 Pr hb hP hn hd ho K hK=>?_
   obtain ⟨v0,rfl,e0⟩:=hd 0 16 (by kernel_rfl) rfl;go_simp;exact hK.out _ _ (Below.refl _ _) (fun _ _ _=>rfl) (fun h=>absurd h (by decide))
  ·refine OpOb.of 2 rfl fun a0 w0 Pr hb hP hn hd ho K hK=>?_
   obtain ⟨v1,rfl,e1⟩:=hd 1 17 (by kernel_rfl) rfl;go_simp;exact hK.out _ _ (Below.refl _ _) (fun _ _ _=>rfl) (fun h=>absurd h (by decide))
  ·refine OpOb.of 3 rfl fun a0 w0 Pr hb hP hn hd ho K hK=>?_
   obtain ⟨v2,rfl,e2⟩:=hd 2 18 (by kernel_rfl) rfl;rw[if_pos (JC e2 (by kernel_rfl))];have o5:a0.tmps[5]?.getD undef=.pointer (some ⟨k9,0,none⟩):=ho 5 (by kernel_rfl);go_simp;exact hK.out _ _ (Below.refl _ _) (fun _ _ _=>rfl) (fun h=>absurd h (by decide))
  ·refine OpOb.of 4 rfl fun a0 w0 Pr hb hP hn hd ho K hK=>?_
   obtain ⟨v2,rfl,e2⟩:=hd 2 18 (by kernel_rfl) rfl;rw[if_pos (JC e2 (by kernel_rfl))];obtain ⟨v3,rfl,e3⟩:=hd 3 19 (by kernel_rfl) rfl;obtain ⟨⟨t0,t1⟩,⟨y0,y1,y2,y3⟩,x0,x1,x2,x3⟩:=HK.out _ hb;go_simp;exact hK.out _ _ (Below.refl _ _) (fun _ _ _=>rfl) (fun h=>absurd h (by decide))
  ·refine OpOb.of 5 rfl fun a0 w0 Pr hb hP hn hd ho K hK=>?_
   obtain ⟨v2,rfl,e2⟩:=hd 2 18 (by kernel_rfl) rfl;rw[if_pos (JC e2 (by kernel_rfl))];obtain ⟨v4,rfl,e4⟩:=hd 4 20 (by kernel_rfl) rfl;go_simp;exact hK.out _ _ (Below.refl _ _) (fun _ _ _=>rfl) (fun h=>absurd h (by decide))
  ·refine OpOb.of 6 rfl fun a0 w0 Pr hb hP hn hd ho K hK=>?_
   obtain ⟨v2,rfl,e2⟩:=hd 2 18 (by kernel_rfl) rfl;rw[if_pos (JC e2 (by kernel_rfl))];obtain ⟨v5,rfl,e5⟩:=hd 5 21 (by kernel_rfl) rfl;go_simp;exact hK.out _ _ (Below.refl _ _) (fun _ _ _=>rfl) (fun h=>absurd h (by decide))
  ·refine OpOb.of 7 rfl fun a0 w0 Pr hb hP hn hd ho K hK=>?_
   obtain ⟨v2,rfl,e2⟩:=hd 2 18 (by kernel_rfl) rfl;obtain ⟨v6,rfl,e6⟩:=hd 6 22 (by kernel_rfl) rfl;go_simp;exact hK.out _ _ (Below.refl _ _) (fun _ _ _=>rfl) (fun h=>absurd h (by decide))
  ·refine OpOb.of 8 rfl fun a0 w0 Pr hb hP hn hd ho K hK=>?_
   obtain ⟨v7,rfl,e7⟩:=hd 7 23 (by kernel_rfl) rfl;go_simp;exact hK.out _ _ (Below.refl _ _) (fun _ _ _=>rfl) (fun h=>absurd h (by decide))
  ·refine OpOb.of 9 rfl fun a0 w0 Pr hb hP hn hd ho K hK=>?_
   obtain ⟨v8,rfl,e8⟩:=hd 8 24 (by kernel_rfl) rfl;rw[if_pos (JC e8 (by kernel_rfl))];have o5:a0.tmps[5]?.getD undef=.pointer (some ⟨k9,0,none⟩):=ho 5 (by kernel_rfl);go_simp;exact hK.out _ _ (Below.refl _ _) (fun _ _ _=>rfl) (fun h=>absurd h (by decide))
  ·refine OpOb.of 10 rfl fun a0 w0 Pr hb hP hn hd ho K hK=>?_
   obtain ⟨v8,rfl,e8⟩:=hd 8 24 (by kernel_rfl) rfl;rw[if_pos (JC e8 (by kernel_rfl))];obtain ⟨v9,rfl,e9⟩:=hd 9 25 (by kernel_rfl) rfl;obtain ⟨⟨t0,t1⟩,⟨y0,y1,y2,y3⟩,x0,x1,x2,x3⟩:=HK.out _ hb;go_simp;exact hK.out _ _ (Below.refl _ _) (fun _ _ _=>rfl) (fun h=>absurd h (by decide))
  ·refine OpOb.of 11 rfl fun a0 w0 Pr hb hP hn hd ho K hK=>?_
   obtain ⟨v8,rfl,e8⟩:=hd 8 24 (by kernel_rfl) rfl;rw[if_pos (JC e8 (by kernel_rfl))];obtain ⟨v10,rfl,e10⟩:=hd 10 26 (by kernel_rfl) rfl;go_simp;exact hK.out _ _ (Below.refl _ _) (fun _ _ _=>rfl) (fun h=>absurd h (by decide))
  ·refine OpOb.of 12 rfl fun a0 w0 Pr hb hP hn hd ho K hK=>?_
   obtain ⟨v8,rfl,e8⟩:=hd 8 24 (by kernel_rfl) rfl;rw[if_pos (JC e8 (by kernel_rfl))];obtain ⟨v11,rfl,e11⟩:=hd 11 27 (by kernel_rfl) rfl;go_simp;exact hK.out _ _ (Below.refl _ _) (fun _ _ _=>rfl) (fun h=>absurd h (by decide))
  ·refine OpOb.of 13 rfl fun a0 w0 Pr hb hP hn hd ho K hK=>?_
   obtain ⟨v8,rfl,e8⟩:=hd 8 24 (by kernel_rfl) rfl;rw[if_pos (JC e8 (by kernel_rfl))];obtain ⟨v12,rfl,e12⟩:=hd 12 28 (by kernel_rfl) rfl;obtain ⟨⟨t0,t1⟩,⟨y0,y1,y2,y3⟩,x0,x1,x2,x3⟩:=HK.out _ hb;go_simp;exact hK.out _ _ (Below.refl _ _) (fun _ _ _=>rfl) (fun h=>absurd h (by decide))
  ·refine OpOb.of 14 rfl fun a0 w0 Pr hb hP hn hd ho K hK=>?_
   obtain ⟨v8,rfl,e8⟩:=hd 8 24 (by kernel_rfl) rfl;rw[if_pos (JC e8 (by kernel_rfl))];have o3:a0.tmps[3]?.getD undef=.pointer (some ⟨xb,0,none⟩):=ho 3 (by kernel_rfl);obtain ⟨⟨t0,t1⟩,⟨y0,y1,y2,y3⟩,x0,x1,x2,x3⟩:=HK.out _ hb;go_simp;exact hK.out _ _ (Below.refl _ _) (fun _ _ _=>rfl) (fun h=>absurd h (by decide))
  ·refine OpOb.of 15 rfl fun a0 w0 Pr hb hP hn hd ho K hK=>?_
   obtain ⟨v8,rfl,e8⟩:=hd 8 24 (by kernel_rfl) rfl;rw[if_pos (JC e8 (by kernel_rfl))];obtain ⟨v13,rfl,e13⟩:=hd 13 29 (by kernel_rfl) rfl;obtain ⟨v14,rfl,e14⟩:=hd 14 30 (by kernel_rfl) rfl;have cr:=HCR.out _ hb;go_simp;go_at_call 21;refine cr.mono ?_;rintro e w9 ⟨rfl,hbb⟩;exact hK.out _ _ hbb (fun _ _ _=>rfl) (fun h=>absurd h (by decide))
  ·refine OpOb.of 16 rfl fun a0 w0 Pr hb hP hn hd ho K hK=>?_
   obtain ⟨v8,rfl,e8⟩:=hd 8 24 (by kernel_rfl) rfl;obtain ⟨v15,rfl,e15⟩:=hd 15 31 (by kernel_rfl) rfl;go_simp;exact hK.out _ _ (Below.refl _ _) (fun _ _ _=>rfl) (fun h=>absurd h (by decide))
  ·refine OpOb.of 17 rfl fun a0 w0 Pr hb hP hn hd ho K hK=>?_
   obtain ⟨v16,rfl,e16⟩:=hd 16 32 (by kernel_rfl) rfl;go_simp;exact hK.out _ _ (Below.refl _ _) (fun _ _ _=>rfl) (fun h=>absurd h (by decide))
 intro n9 vs w9 hn9 hb9 hp9 hd9 hr9;have e17:vs 17=.bool true:=hr9 17 (by decide);rw[show pairsOf _ 18 vs=[(16,vs 0),(17,vs 1),(18,vs 2),(19,vs 3),(20,vs 4),(21,vs 5),(22,vs 6),(23,vs 7),(24,vs 8),(25,vs 9),(26,vs 10),(27,vs 11),(28,vs 12),(29,vs 13),(30,vs 14),(31,vs 15),(32,vs 16),(4,vs 17)] from rfl];simp only[fillT,e17,List.setIfInBounds_toArray,List.set_cons_zero,List.set_cons_succ];have HF:Hid (Bel W w9):=Jd (Jd HB0.out HB9.out) hb9;clear hd9 hr9 hp9 hb9 e17;generalize vs 0=y0_;generalize vs 1=y1_;generalize vs 2=y2_;generalize vs 3=y3_;generalize vs 4=y4_;generalize vs 5=y5_;generalize vs 6=y6_;generalize vs 7=y7_;generalize vs 8=y8_;generalize vs 9=y9_;generalize vs 10=y10_;generalize vs 11=y11_;generalize vs 12=y12_;generalize vs 13=y13_;generalize vs 14=y14_;generalize vs 15=y15_;generalize vs 16=y16_;refine last0 ?_;go_wp2;go_ret;exact ⟨rfl,HF.out⟩
end Go.Proofs.YtdlkcjkjnehnkaaGreatDoor
