import Derived.KernelRfl
import Derived.Test.YtdlkcjkjnehnkaaGreatDoorG40
namespace Go.Proofs.YtdlkcjkjnehnkaaGreatDoor
open Go Go.ChangeShapes Go.WideShapes Go.ChangeAt Go.RowKit Go.Lib
open _root_.Go.Proofs.Tryz
set_option linter.all false
set_option maxRecDepth 100000
set_option maxHeartbeats 32000000
theorem JC {ops:Array Oper} {tm:Array Value} {d:Option Tmp} {oo:Op} {ty:TypeId} {p:String} {af:Array Edge} {j t:Nat} {b:Bool} (e:tm[t]?.getD undef=.bool b) (hj:(ops[j]?).bind (·.dst)=some t) :
  Region.wanted ⟨d,oo,ty,p,af,some (j,b)⟩ (yielded ops tm)=true:=by
 have h2:tm[t]?=some (.bool b):=by
  cases h:tm[t]? with
  | none=>rw[h] at e; exact absurd e (by unfold undef; simp)
  | some v=>rw[h] at e; simp at e; rw[e]
 simp[Region.wanted,yielded,hj,h2]
def lkN:List UInt8:=[108,105,107,101,115]
def ex1:RuleM:=⟨[⟨[102],[0],1,.mk 13 0 [] [.mk 0 3 [] [],.mk 2 0 [] []]⟩],[⟨.mk 20 0 [] [.mk 3 0 lkN []],3,[115,112,97,109]⟩],0⟩
def tx1:List UInt8:=[100,101,102,32,102,40,110,58,32,105,110,116,41,58,32,98,111,111,108,32,61,32,110,32,62,32,51,32,119,104,101,110,32,102,40,108,105,107,101,115,41,32,116,104,101,110,32,104,105,100,101,32,34,115,112,97,109,34,32,100,101,102,97,117,108,116,32,115,104,111,119]
theorem JiK:parseM tx1=(ex1,0,0):=by kernel_rfl
def tx2:List UInt8:=[119,104,101,110,32,108,105,107,101,115,32,116,104,101,110,32,104,105,100,101,32,34,120,34,32,100,101,102,97,117,108,116,32,115,104,111,119]
theorem JiL:parseM tx2=(noRule,15,5):=by kernel_rfl
def tx3:List UInt8:=[119,104,101,110,32,120,32,116,104,101,110,32,104,105,100,101,32,34,120,34,32,100,101,102,97,117,108,116,32,115,104,111,119]
theorem JiM:parseM tx3=(noRule,16,5):=by kernel_rfl
def tx4:List UInt8:=[119,104,101,110,32,49,32,60,32,50,32,60,32,51,32,116,104,101,110,32,104,105,100,101,32,34,120,34,32,100,101,102,97,117,108,116,32,115,104,111,119]
theorem JiN:parseM tx4=(noRule,2,11):=by kernel_rfl
def tx5:List UInt8:=[100,101,102,97,117,108,116]
theorem JiO:parseM tx5=(noRule,2,7):=by kernel_rfl
def wx1:List UInt8:=[100,101,102,32,102,40,118,48,58,32,105,110,116,41,58,32,98,111,111,108,32,61,32,51,32,60,32,118,48,10,119,104,101,110,32,102,40,108,105,107,101,115,41,32,116,104,101,110,32,104,105,100,101,32,34,115,112,97,109,34,10,100,101,102,97,117,108,116,32,115,104,111,119,10]
theorem JiP:writeM ex1=wx1:=by kernel_rfl
theorem Jmb:RSz ex1:=by
 refine ⟨by decide,by decide,fun f hf=>?_,fun c hc=>?_⟩
 ·simp[ex1] at hf;subst hf;exact ⟨by simp,by simp,by simp[NmN,NmL],by simp[utN,utL,JG,Ju,JE]⟩
 ·simp[ex1] at hc;subst hc;exact ⟨by simp[NmN,NmL,lkN],by simp[utN,utL,JG,Ju,JE],by simp⟩
theorem PsP.inw {w:World} {X:RuleM × Int × Int} {e:Ending} {w':World} (h:PsP w X e w'):∃ c,e=.returned (.tuple #[.agg c,.int .i64 X.2.1,.int .i64 X.2.2])∧RuleX w' (In w') X.1 c∧Below w.heap.size w w':=by
 obtain ⟨c,h1,h2,h3⟩:=h;exact ⟨c,h1,h2.keep (fun _ _=>rfl) (fun b hb=>hb.2),h3⟩
theorem JbK (W:World) (hL:Laid W):Calls prog 16 #[.string ⟨#[100,101,102,32,102,40,110,58,32,105,110,116,41,58,32,98,111,111,108,32,61,32,110,32,62,32,51,32,119,104,101,110,32,102,40,108,105,107,101,115,41,32,116,104,101,110,32,104,105,100,101,32,34,115,112,97,109,34,32,100,101,102,97,117,108,116,32,115,104,111,119]⟩] W (fun e w'=>∃ c,e=.returned (.tuple #[.agg c,.int .i64 0,.int .i64 0])∧RuleX w' (In w') ex1 c∧Below W.heap.size W w'):=by
 have h:=parse_any' tx1 W (by decide) hL;rw[JiK] at h;exact h.mono fun e w' hp=>hp.inw
theorem JbL (W:World) (hL:Laid W):Calls prog 16 #[.string ⟨#[119,104,101,110,32,108,105,107,101,115,32,116,104,101,110,32,104,105,100,101,32,34,120,34,32,100,101,102,97,117,108,116,32,115,104,111,119]⟩] W (fun e w'=>∃ c,e=.returned (.tuple #[.agg c,.int .i64 15,.int .i64 5])∧RuleX w' (In w') noRule c∧Below W.heap.size W w'):=by
 have h:=parse_any' tx2 W (by decide) hL;rw[JiL] at h;exact h.mono fun e w' hp=>hp.inw
theorem JbM (W:World) (hL:Laid W):Calls prog 16 #[.string ⟨#[119,104,101,110,32,120,32,116,104,101,110,32,104,105,100,101,32,34,120,34,32,100,101,102,97,117,108,116,32,115,104,111,119]⟩] W (fun e w'=>∃ c,e=.returned (.tuple #[.agg c,.int .i64 16,.int .i64 5])∧RuleX w' (In w') noRule c∧Below W.heap.size W w'):=by
 have h:=parse_any' tx3 W (by decide) hL;rw[JiM] at h;exact h.mono fun e w' hp=>hp.inw
theorem JbN (W:World) (hL:Laid W):Calls prog 16 #[.string ⟨#[119,104,101,110,32,49,32,60,32,50,32,60,32,51,32,116,104,101,110,32,104,105,100,101,32,34,120,34,32,100,101,102,97,117,108,116,32,115,104,111,119]⟩] W (fun e w'=>∃ c,e=.returned (.tuple #[.agg c,.int .i64 2,.int .i64 11])∧RuleX w' (In w') noRule c∧Below W.heap.size W w'):=by
 have h:=parse_any' tx4 W (by decide) hL;rw[JiN] at h;exact h.mono fun e w' hp=>hp.inw
theorem JbO (W:World) (hL:Laid W):Calls prog 16 #[.string ⟨#[100,101,102,97,117,108,116]⟩] W (fun e w'=>∃ c,e=.returned (.tuple #[.agg c,.int .i64 2,.int .i64 7])∧RuleX w' (In w') noRule c∧Below W.heap.size W w'):=by
 have h:=parse_any' tx5 W (by decide) hL;rw[JiO] at h;exact h.mono fun e w' hp=>hp.inw
theorem Jdb (W:World) (c:Array Value) (h:RuleX W (In W) ex1 c) (hL:Laid W):Calls prog 14 #[.agg c] W (fun e W'=>e=.returned (.string ⟨#[100,101,102,32,102,40,118,48,58,32,105,110,116,41,58,32,98,111,111,108,32,61,32,51,32,60,32,118,48,10,119,104,101,110,32,102,40,108,105,107,101,115,41,32,116,104,101,110,32,104,105,100,101,32,34,115,112,97,109,34,10,100,101,102,97,117,108,116,32,115,104,111,119,10]⟩)∧Bel W W'):=by
 have h1:=Zz ex1 c W h Jmb hL (fun _=>by decide +kernel);rw[JiP] at h1;exact h1
theorem JkR (w:World) (o0 o1 o2 o3:Obj):Below w.heap.size w ((((w.alloc o0).alloc o1).alloc o2).alloc o3)∧((((w.alloc o0).alloc o1).alloc o2).alloc o3).heap[w.heap.size]?=some o0∧((((w.alloc o0).alloc o1).alloc o2).alloc o3).heap[w.heap.size+1]?=some o1∧((((w.alloc o0).alloc o1).alloc o2).alloc o3).heap[w.heap.size+1+1]?=some o2∧((((w.alloc o0).alloc o1).alloc o2).alloc o3).heap[w.heap.size+1+1+1]?=some o3:=by
 obtain ⟨h0,h1⟩:=Zx w o0 o1;obtain ⟨h2,h3⟩:=Zx ((w.alloc o0).alloc o1) o2 o3;simp only[World.size_alloc] at h2 h3;refine ⟨?_,Jg (Jg h0),Jg (Jg h1),h2,h3⟩;exact (((K8 w o0 o1).alloc (by simp only[World.size_alloc]; omega) _).alloc (by simp only[World.size_alloc]; omega) _)
theorem JaM (W:World) (P:Nat→Prop) (k n:Int) (s:List UInt8):XAt W P (.mk k n s []) #[.int .i64 k,.int .i64 n,.string (bs s),.slice none 0 0]:=by
 unfold XAt RowX;exact ⟨none,0,[],rfl,Nat.le_refl _,rfl,.inl rfl⟩
theorem JiQ {W:World} {b t:Nat} {fr:Nat × Nat} (h:W.heap[b]?=some (.cells #[.int .i64 0,.int .i64 3,.string ⟨#[]⟩,.slice none 0 0,.int .i64 2,.int .i64 0,.string ⟨#[]⟩,.slice none 0 0] t fr)):ExpX W (.mk 13 0 [] [.mk 0 3 [] [],.mk 2 0 [] []]) [.int .i64 13,.int .i64 0,.string ⟨#[]⟩,.slice (some ⟨b,0,none⟩) 2 2]:=by
 unfold ExpX XAt;refine ⟨some ⟨b,0,none⟩,2,[.int .i64 0,.int .i64 3,.string ⟨#[]⟩,.slice none 0 0,.int .i64 2,.int .i64 0,.string ⟨#[]⟩,.slice none 0 0],rfl,Nat.le_refl _,?_,.inr ⟨b,0,rfl,Jb h,fun j u hj=>?_⟩⟩
 ·unfold RowX;refine ⟨_,_,JaM W _ 0 3 [],rfl,?_⟩;unfold RowX;refine ⟨_,[],JaM W _ 2 0 [],rfl,?_⟩;unfold RowX;rfl
 ·rw[Ja h,← hj,Nat.zero_add]; exact List.getElem?_toArray
theorem JiR {W:World} {b t:Nat} {fr:Nat × Nat} (h:W.heap[b]?=some (.cells #[.int .i64 3,.int .i64 0,.string ⟨#[108,105,107,101,115]⟩,.slice none 0 0] t fr)):ExpX W (.mk 20 0 [] [.mk 3 0 lkN []]) [.int .i64 20,.int .i64 0,.string ⟨#[]⟩,.slice (some ⟨b,0,none⟩) 1 1]:=by
 unfold ExpX XAt;refine ⟨some ⟨b,0,none⟩,1,[.int .i64 3,.int .i64 0,.string (bs lkN),.slice none 0 0],rfl,Nat.le_refl _,?_,.inr ⟨b,0,rfl,Jb h,fun j u hj=>?_⟩⟩
 ·unfold RowX;refine ⟨_,[],JaM W _ 3 0 lkN,rfl,?_⟩;unfold RowX;rfl
 ·rw[Ja h,← hj,Nat.zero_add]; exact List.getElem?_toArray
theorem bx51 {P:Prop}(h:P:=by
  have o1:a0.tmps[1]?.getD undef=.pointer (some ⟨k1,0,none⟩):=ho 1 (by kernel_rfl)
  exact bx4):P:=h
theorem bx109 {P:Prop}(h:P:=by
  go_simp;go_at_call 21;refine cr.mono ?_;rintro e w9 ⟨rfl,hbb⟩
  exact hK.out _ _ hbb (fun _ _ _=>rfl) (fun h=>absurd h (by decide))):P:=h
theorem Jhe (w:World) (hL:Laid w):Calls prog 8 #[] w (BelP w (.bool true)):=by
 have HL:=Zh hL;have HB0:Hid (Bel w w):=Below.refl _ _;clear hL;go_enter func8,ntmps8;go_wp2_with fail;refine (JbK w (HL.out.below HB0.out)).mono ?_;rintro e u1 ⟨c1,rfl,hx1,hb1⟩;obtain ⟨fa1,fc1,ca1,cc1,rfl,_,_⟩:=hx1.parts;have hq1:Below u1.heap.size u1 (u1.alloc (.cells #[.slice fa1 ex1.funcs.length fc1,.slice ca1 ex1.clauses.length cc1,.int .i64 ex1.action] 25)):=zzb.alloc zzl _;have HB1:Hid (Bel w (u1.alloc (.cells #[.slice fa1 ex1.funcs.length fc1,.slice ca1 ex1.clauses.length cc1,.int .i64 ex1.action] 25))):=Jd HB0.out (Jd hb1 hq1);have HN1:=Zh (zzw u1 (.cells #[.slice fa1 ex1.funcs.length fc1,.slice ca1 ex1.clauses.length cc1,.int .i64 ex1.action] 25));have HY1:=Zh (hx1.up hq1);clear hx1 hb1 hq1;go_upto_region 2 with fail;generalize World.alloc u1 _=v1 at *;generalize u1.heap.size=k1 at *;go_wp2_with fail;refine (JbL v1 (HL.out.below HB1.out)).mono ?_;rintro e u2 ⟨c2,rfl,hx2,hb2⟩;obtain ⟨fa2,fc2,ca2,cc2,rfl,_,_⟩:=hx2.parts;have hq2:Below u2.heap.size u2 (u2.alloc (.cells #[.slice fa2 noRule.funcs.length fc2,.slice ca2 noRule.clauses.length cc2,.int .i64 noRule.action] 25)):=zzb.alloc zzl _;have HB2:Hid (Bel w (u2.alloc (.cells #[.slice fa2 noRule.funcs.length fc2,.slice ca2 noRule.clauses.length cc2,.int .i64 noRule.action] 25))):=Jd HB1.out (Jd hb2 hq2);have HP2:Hid (Below v1.heap.size v1 (u2.alloc (.cells #[.slice fa2 noRule.funcs.length fc2,.slice ca2 noRule.clauses.length cc2,.int .i64 noRule.action] 25))):=Jd hb2 hq2;clear hx2 hb2 hq2;go_upto_region 3 with fail;generalize World.alloc u2 _=v2 at *;generalize u2.heap.size=k2 at *;go_wp2_with fail;refine (JbM v2 (HL.out.below HB2.out)).mono ?_;rintro e u3 ⟨c3,rfl,hx3,hb3⟩;obtain ⟨fa3,fc3,ca3,cc3,rfl,_,_⟩:=hx3.parts;have hq3:Below u3.heap.size u3 (u3.alloc (.cells #[.slice fa3 noRule.funcs.length fc3,.slice ca3 noRule.clauses.length cc3,.int .i64 noRule.action] 25)):=zzb.alloc zzl _;have HB3:Hid (Bel w (u3.alloc (.cells #[.slice fa3 noRule.funcs.length fc3,.slice ca3 noRule.clauses.length cc3,.int .i64 noRule.action] 25))):=Jd HB2.out (Jd hb3 hq3);have HP3:Hid (Below v2.heap.size v2 (u3.alloc (.cells #[.slice fa3 noRule.funcs.length fc3,.slice ca3 noRule.clauses.length cc3,.int .i64 noRule.action] 25))):=Jd hb3 hq3;clear hx3 hb3 hq3;go_upto_region 4 with fail;generalize World.alloc u3 _=v3 at *;generalize u3.heap.size=k3 at *;go_wp2_with fail;refine (JbN v3 (HL.out.below HB3.out)).mono ?_;rintro e u4 ⟨c4,rfl,hx4,hb4⟩;obtain ⟨fa4,fc4,ca4,cc4,rfl,_,_⟩:=hx4.parts;have hq4:Below u4.heap.size u4 (u4.alloc (.cells #[.slice fa4 noRule.funcs.length fc4,.slice ca4 noRule.clauses.length cc4,.int .i64 noRule.action] 25)):=zzb.alloc zzl _;have HB4:Hid (Bel w (u4.alloc (.cells #[.slice fa4 noRule.funcs.length fc4,.slice ca4 noRule.clauses.length cc4,.int .i64 noRule.action] 25))):=Jd HB3.out (Jd hb4 hq4);have HP4:Hid (Below v3.heap.size v3 (u4.alloc (.cells #[.slice fa4 noRule.funcs.length fc4,.slice ca4 noRule.clauses.length cc4,.int .i64 noRule.action] 25))):=Jd hb4 hq4;clear hx4 hb4 hq4;go_upto_region 5 with fail;generalize World.alloc u4 _=v4 at *;generalize u4.heap.size=k4 at *;go_wp2_with fail;refine (JbO v4 (HL.out.below HB4.out)).mono ?_;rintro e u5 ⟨c5,rfl,hx5,hb5⟩;obtain ⟨fa5,fc5,ca5,cc5,rfl,_,_⟩:=hx5.parts;have hq5:Below u5.heap.size u5 (u5.alloc (.cells #[.slice fa5 noRule.funcs.length fc5,.slice ca5 noRule.clauses.length cc5,.int .i64 noRule.action] 25)):=zzb.alloc zzl _;have HB5:Hid (Bel w (u5.alloc (.cells #[.slice fa5 noRule.funcs.length fc5,.slice ca5 noRule.clauses.length cc5,.int .i64 noRule.action] 25))):=Jd HB4.out (Jd hb5 hq5);have HP5:Hid (Below v4.heap.size v4 (u5.alloc (.cells #[.slice fa5 noRule.funcs.length fc5,.slice ca5 noRule.clauses.length cc5,.int .i64 noRule.action] 25))):=Jd hb5 hq5;clear hx5 hb5 hq5;go_upto_region 6 with fail;generalize World.alloc u5 _=v5 at *;generalize u5.heap.size=k5 at *;have HW5:Hid (Bel v1 v5):=Jd (Jd (Jd HP2.out HP3.out) HP4.out) HP5.out;clear HP2 HP3 HP4 HP5
 have F1:Hid (∀ W,Bel v1 W→W.cell? ⟨k1,0,none⟩=some (.slice fa1 1 fc1)∧W.cell? ⟨k1,1,none⟩=some (.slice ca1 1 cc1)∧W.cell? ⟨k1,2,none⟩=some (.int .i64 0)):=by
  intro W hW;have hh:=(hW.block _ (Jb HN1.out)).trans HN1.out;refine ⟨?_,?_,?_⟩ <;> (rw[Ja hh]; rfl)
 obtain ⟨r0,r1,r2⟩:=F1.out _ HW5.out;go_upto_region 8 with fail;clear r0 r1 r2;obtain ⟨hbv,hz1,hz2,hz3,hz4⟩:=JkR v5 (.cells #[.int .i64 0,.int .i64 3,.string ⟨#[]⟩,.slice none 0 0,.int .i64 2,.int .i64 0,.string ⟨#[]⟩,.slice none 0 0] 30) (.cells #[.int .i64 13,.int .i64 0,.string ⟨#[]⟩,.slice (some ⟨v5.heap.size,0,none⟩) 2 2] 30) (.cells #[.int .i64 3,.int .i64 0,.string ⟨#[108,105,107,101,115]⟩,.slice none 0 0] 30) (.cells #[.int .i64 20,.int .i64 0,.string ⟨#[]⟩,.slice (some ⟨v5.heap.size+1+1,0,none⟩) 1 1] 30);have HV6:=Zh (Jd HW5.out hbv);have HB6:=Zh (Jd HB5.out hbv);have HZ1:=Zh hz1;have HZ2:=Zh hz2;have HZ3:=Zh hz3;have HZ4:=Zh hz4;clear hbv hz1 hz2 hz3 hz4;go_upto_region 10 with fail;generalize World.alloc (World.alloc (World.alloc (World.alloc v5 _) _) _) _=v6 at *;generalize v5.heap.size+1+1+1=z4 at *;generalize v5.heap.size+1+1=z3 at *;generalize v5.heap.size+1=z2 at *;generalize v5.heap.size=z1 at *;have HEL1:Hid (ExpX v6 (.mk 13 0 [] [.mk 0 3 [] [],.mk 2 0 [] []]) [.int .i64 13,.int .i64 0,.string ⟨#[]⟩,.slice (some ⟨z1,0,none⟩) 2 2]):=JiQ HZ1.out;have HEL2:Hid (ExpX v6 (.mk 20 0 [] [.mk 3 0 lkN []]) [.int .i64 20,.int .i64 0,.string ⟨#[]⟩,.slice (some ⟨z3,0,none⟩) 1 1]):=JiR HZ3.out;replace HV6:Hid (Bel v1 v6):=HV6;replace HB6:Hid (Bel w v6):=HB6;replace HZ2:Hid (∀ W,Bel v6 W→_):=Zh fun W hW=>wfour (b:=z2) ((hW.block _ (Jb HZ2.out)).trans HZ2.out)
 replace HZ4:Hid (∀ W,Bel v6 W→_):=Zh fun W hW=>wfour (b:=z4) ((hW.block _ (Jb HZ4.out)).trans HZ4.out)
 obtain ⟨fv,cv,ee,hf1,hk1⟩:=HY1.out.up HV6.out;obtain ⟨fad,fcc,rfl,g1⟩:=RowG.of FnX.len hf1;obtain ⟨cad,ccc,rfl,g2⟩:=RowG.of ClX.len hk1;injection ee with ee;injection ee with e1 ee;injection ee with e2 _;injection e1 with e1 _ e3;injection e2 with e2 _ e4;subst e1;subst e2;subst e3;subst e4;obtain ⟨fb,fo,rfl,hk⟩:=g1 (List.cons_ne_nil _ _);obtain ⟨cb,co,rfl,hk2⟩:=g2 (List.cons_ne_nil _ _);obtain ⟨d,hr,hc⟩:=hk 0 _ rfl;obtain ⟨d2,hr2,hc2⟩:=hk2 0 _ rfl;obtain ⟨pa,pc,xa,xc,rfl,_,hbody⟩:=hr.form;obtain ⟨ya,yc,rfl,hcond⟩:=hr2.form;have HPF:Hid (∀ W,Bel v6 W→W.cell? ⟨fb,fo+3,none⟩=some (.int .i64 13)∧W.cell? ⟨fb,fo+3+1,none⟩=some (.int .i64 0)∧W.cell? ⟨fb,fo+3+2,none⟩=some (.string (bs []))∧W.cell? ⟨fb,fo+3+3,none⟩=some (.slice xa 2 xc)):=Zh fun W hW=>⟨hc W hW 3 _ rfl,hc W hW 4 _ rfl,hc W hW 5 _ rfl,hc W hW 6 _ rfl⟩
 have HPC:Hid (∀ W,Bel v6 W→W.cell? ⟨cb,co,none⟩=some (.int .i64 20)∧W.cell? ⟨cb,co+1,none⟩=some (.int .i64 0)∧W.cell? ⟨cb,co+2,none⟩=some (.string (bs []))∧W.cell? ⟨cb,co+3,none⟩=some (.slice ya 1 yc)∧W.cell? ⟨cb,co+4,none⟩=some (.int .i64 3)∧W.cell? ⟨cb,co+5,none⟩=some (.string (bs [115,112,97,109]))):=Zh fun W hW=>⟨hc2 W hW 0 _ rfl,hc2 W hW 1 _ rfl,hc2 W hW 2 _ rfl,hc2 W hW 3 _ rfl,hc2 W hW 4 _ rfl,hc2 W hW 5 _ rfl⟩
 have HC1:Hid (∀ W,Bel v6 W→Calls prog 21 #[.agg #[.int .i64 13,.int .i64 0,.string (bs []),.slice xa 2 xc],.agg #[.int .i64 13,.int .i64 0,.string ⟨#[]⟩,.slice (some ⟨z1,0,none⟩) 2 2]] W (BelP W (.bool true))):=Zh fun W hW=>Vl (.mk 13 0 [] [.mk 0 3 [] [],.mk 2 0 [] []]) (.mk 13 0 [] [.mk 0 3 [] [],.mk 2 0 [] []]) _ _ W (by simp[utN,utL,JG,Ju,JE]) hbody HEL1.out hW
 have HC2:Hid (∀ W,Bel v6 W→Calls prog 21 #[.agg #[.int .i64 20,.int .i64 0,.string (bs []),.slice ya 1 yc],.agg #[.int .i64 20,.int .i64 0,.string ⟨#[]⟩,.slice (some ⟨z3,0,none⟩) 1 1]] W (BelP W (.bool true))):=Zh fun W hW=>Vl (.mk 20 0 [] [.mk 3 0 lkN []]) (.mk 20 0 [] [.mk 3 0 lkN []]) _ _ W (by simp[utN,utL,JG,Ju,JE]) hcond HEL2.out hW
 have F2:Hid (∀ W,Bel v6 W→_):=Zh fun W hW=>F1.out W (Jd HV6.out hW)
 have HY6:=Zh (HY1.out.up HV6.out);clear hf1 hk1 g1 g2 hk hk2 hr hr2 hc hc2 hbody hcond F1 HY1 HV6 HEL1 HEL2 HZ1 HZ3 HW5;refine KJ 38 [] (fun i=>WK.rel (match i with | 0=>.const (.pointer (some ⟨k1,0,none⟩)) | 1=>.const (.slice (some ⟨fb,fo,none⟩) 1 fc1) | 2=>.const (.pointer (some ⟨fb,fo,none⟩)) | 3=>.const (.pointer (some ⟨fb,fo+3,none⟩)) | 4=>.const (.agg #[.int .i64 13,.int .i64 0,.string (bs []),.slice xa 2 xc]) | 5=>.const (.agg #[.int .i64 13,.int .i64 0,.string ⟨#[]⟩,.slice (some ⟨z1,0,none⟩) 2 2]) | 6=>.const (.bool true) | 7=>.const (.bool true) | 8=>.const (.pointer (some ⟨k1,1,none⟩)) | 9=>.const (.slice (some ⟨cb,co,none⟩) 1 cc1) | 10=>.const (.pointer (some ⟨cb,co,none⟩)) | 11=>.const (.pointer (some ⟨cb,co,none⟩)) | 12=>.const (.agg #[.int .i64 20,.int .i64 0,.string (bs []),.slice ya 1 yc]) | 13=>.const (.agg #[.int .i64 20,.int .i64 0,.string ⟨#[]⟩,.slice (some ⟨z3,0,none⟩) 1 1]) | 14=>.const (.bool true) | 15=>.const (.bool true) | 16=>.const (.bool true) | 17=>.const (.pointer (some ⟨k1,1,none⟩)) | 18=>.const (.slice (some ⟨cb,co,none⟩) 1 cc1) | 19=>.const (.pointer (some ⟨cb,co,none⟩)) | 20=>.const (.pointer (some ⟨cb,co+4,none⟩)) | 21=>.const (.int .i64 3) | 22=>.const (.bool true) | 23=>.const (.bool true) | 24=>.const (.bool true) | 25=>.const (.pointer (some ⟨k1,1,none⟩)) | 26=>.const (.slice (some ⟨cb,co,none⟩) 1 cc1) | 27=>.const (.pointer (some ⟨cb,co,none⟩)) | 28=>.const (.pointer (some ⟨cb,co+5,none⟩)) | 29=>.const (.string (bs [115,112,97,109])) | 30=>.const (.bool true) | 31=>.const (.bool true) | 32=>.const (.bool true) | 33=>.const (.pointer (some ⟨k1,2,none⟩)) | 34=>.const (.int .i64 0) | 35=>.const (.bool true) | 36=>.const (.bool true) | 37=>.const (.bool true) | _=>.const undef)) (fun W=>Bel v6 W) zzb.drew (by decide) (fun _ _ h hb=>Jd h hb) (fun i v P P1 w w1=>WK.keep _ v P P1 w w1) (allOb (n:=38) ?_) ?_
 ·refine ⟨⟨⟨⟨⟨⟨⟨⟨⟨⟨⟨⟨⟨⟨⟨⟨⟨⟨⟨⟨⟨⟨⟨⟨⟨⟨⟨⟨⟨⟨⟨⟨⟨⟨⟨⟨⟨⟨trivial,?_⟩,?_⟩,?_⟩,?_⟩,?_⟩,?_⟩,?_⟩,?_⟩,?_⟩,?_⟩,?_⟩,?_⟩,?_⟩,?_⟩,?_⟩,?_⟩,?_⟩,?_⟩,?_⟩,?_⟩,?_⟩,?_⟩,?_⟩,?_⟩,?_⟩,?_⟩,?_⟩,?_⟩,?_⟩,?_⟩,?_⟩,?_⟩,?_⟩,?_⟩,?_⟩,?_⟩,?_⟩,?_⟩
  ·refine OpOb.of 0 rfl fun a0 w0 Pr hb hP hn hd ho K hK=>?_
   exact bx51
  ·refine OpOb.of 1 rfl fun a0 w0 Pr hb hP hn hd ho K hK=>?_
   obtain ⟨v0,rfl,e0⟩:=hd 0 69 (by kernel_rfl) rfl;obtain ⟨r0,r1,r2⟩:=F2.out _ hb;exact bx4
  ·refine OpOb.of 2 rfl fun a0 w0 Pr hb hP hn hd ho K hK=>?_
   obtain ⟨v1,rfl,e1⟩:=hd 1 70 (by kernel_rfl) rfl;exact bx4
  ·refine OpOb.of 3 rfl fun a0 w0 Pr hb hP hn hd ho K hK=>?_
   obtain ⟨v2,rfl,e2⟩:=hd 2 71 (by kernel_rfl) rfl;exact bx4
  ·refine OpOb.of 4 rfl fun a0 w0 Pr hb hP hn hd ho K hK=>?_
   obtain ⟨v3,rfl,e3⟩:=hd 3 72 (by kernel_rfl) rfl;obtain ⟨p0,p1,p2,p3⟩:=HPF.out _ hb;exact bx4
  ·refine OpOb.of 5 rfl fun a0 w0 Pr hb hP hn hd ho K hK=>?_
   have o16:a0.tmps[16]?.getD undef=.pointer (some ⟨z2,0,none⟩):=ho 16 (by kernel_rfl);obtain ⟨s0,s1,s2,s3⟩:=HZ2.out _ hb;exact bx4
  ·refine OpOb.of 6 rfl fun a0 w0 Pr hb hP hn hd ho K hK=>?_
   obtain ⟨v4,rfl,e4⟩:=hd 4 73 (by kernel_rfl) rfl;obtain ⟨v5,rfl,e5⟩:=hd 5 74 (by kernel_rfl) rfl;have cr:=HC1.out _ hb;exact bx109
  ·refine OpOb.of 7 rfl fun a0 w0 Pr hb hP hn hd ho K hK=>?_
   obtain ⟨v6,rfl,e6⟩:=hd 6 75 (by kernel_rfl) rfl;exact bx4
  ·refine OpOb.of 8 rfl fun a0 w0 Pr hb hP hn hd ho K hK=>?_
   obtain ⟨v7,rfl,e7⟩:=hd 7 76 (by kernel_rfl) rfl;rw[if_pos (JC e7 (by kernel_rfl))];exact bx51
  ·refine OpOb.of 9 rfl fun a0 w0 Pr hb hP hn hd ho K hK=>?_
   obtain ⟨v7,rfl,e7⟩:=hd 7 76 (by kernel_rfl) rfl;rw[if_pos (JC e7 (by kernel_rfl))];obtain ⟨v8,rfl,e8⟩:=hd 8 77 (by kernel_rfl) rfl;obtain ⟨r0,r1,r2⟩:=F2.out _ hb;exact bx4
  ·refine OpOb.of 10 rfl fun a0 w0 Pr hb hP hn hd ho K hK=>?_
   obtain ⟨v7,rfl,e7⟩:=hd 7 76 (by kernel_rfl) rfl;rw[if_pos (JC e7 (by kernel_rfl))];obtain ⟨v9,rfl,e9⟩:=hd 9 78 (by kernel_rfl) rfl;exact bx4
  ·refine OpOb.of 11 rfl fun a0 w0 Pr hb hP hn hd ho K hK=>?_
   obtain ⟨v7,rfl,e7⟩:=hd 7 76 (by kernel_rfl) rfl;rw[if_pos (JC e7 (by kernel_rfl))];obtain ⟨v10,rfl,e10⟩:=hd 10 79 (by kernel_rfl) rfl;exact bx4
  ·refine OpOb.of 12 rfl fun a0 w0 Pr hb hP hn hd ho K hK=>?_
   obtain ⟨v7,rfl,e7⟩:=hd 7 76 (by kernel_rfl) rfl;rw[if_pos (JC e7 (by kernel_rfl))];obtain ⟨v11,rfl,e11⟩:=hd 11 80 (by kernel_rfl) rfl;obtain ⟨q0,q1,q2,q3,q4,q5⟩:=HPC.out _ hb;exact bx4
  ·refine OpOb.of 13 rfl fun a0 w0 Pr hb hP hn hd ho K hK=>?_
   obtain ⟨v7,rfl,e7⟩:=hd 7 76 (by kernel_rfl) rfl;rw[if_pos (JC e7 (by kernel_rfl))];have o17:a0.tmps[17]?.getD undef=.pointer (some ⟨z4,0,none⟩):=ho 17 (by kernel_rfl);obtain ⟨s0,s1,s2,s3⟩:=HZ4.out _ hb;exact bx4
  ·refine OpOb.of 14 rfl fun a0 w0 Pr hb hP hn hd ho K hK=>?_
   obtain ⟨v7,rfl,e7⟩:=hd 7 76 (by kernel_rfl) rfl;rw[if_pos (JC e7 (by kernel_rfl))];obtain ⟨v12,rfl,e12⟩:=hd 12 81 (by kernel_rfl) rfl;obtain ⟨v13,rfl,e13⟩:=hd 13 82 (by kernel_rfl) rfl;have cr:=HC2.out _ hb;exact bx109
  ·refine OpOb.of 15 rfl fun a0 w0 Pr hb hP hn hd ho K hK=>?_
   obtain ⟨v7,rfl,e7⟩:=hd 7 76 (by kernel_rfl) rfl;obtain ⟨v14,rfl,e14⟩:=hd 14 83 (by kernel_rfl) rfl;exact bx4
  ·refine OpOb.of 16 rfl fun a0 w0 Pr hb hP hn hd ho K hK=>?_
   obtain ⟨v15,rfl,e15⟩:=hd 15 84 (by kernel_rfl) rfl;exact bx4
  ·refine OpOb.of 17 rfl fun a0 w0 Pr hb hP hn hd ho K hK=>?_
   obtain ⟨v16,rfl,e16⟩:=hd 16 85 (by kernel_rfl) rfl;rw[if_pos (JC e16 (by kernel_rfl))];exact bx51
  ·refine OpOb.of 18 rfl fun a0 w0 Pr hb hP hn hd ho K hK=>?_
   obtain ⟨v16,rfl,e16⟩:=hd 16 85 (by kernel_rfl) rfl;rw[if_pos (JC e16 (by kernel_rfl))];obtain ⟨v17,rfl,e17⟩:=hd 17 86 (by kernel_rfl) rfl;obtain ⟨r0,r1,r2⟩:=F2.out _ hb;exact bx4
  ·refine OpOb.of 19 rfl fun a0 w0 Pr hb hP hn hd ho K hK=>?_
   obtain ⟨v16,rfl,e16⟩:=hd 16 85 (by kernel_rfl) rfl;rw[if_pos (JC e16 (by kernel_rfl))];obtain ⟨v18,rfl,e18⟩:=hd 18 87 (by kernel_rfl) rfl;exact bx4
  ·refine OpOb.of 20 rfl fun a0 w0 Pr hb hP hn hd ho K hK=>?_
   obtain ⟨v16,rfl,e16⟩:=hd 16 85 (by kernel_rfl) rfl;rw[if_pos (JC e16 (by kernel_rfl))];obtain ⟨v19,rfl,e19⟩:=hd 19 88 (by kernel_rfl) rfl;exact bx4
  ·refine OpOb.of 21 rfl fun a0 w0 Pr hb hP hn hd ho K hK=>?_
   obtain ⟨v16,rfl,e16⟩:=hd 16 85 (by kernel_rfl) rfl;rw[if_pos (JC e16 (by kernel_rfl))];obtain ⟨v20,rfl,e20⟩:=hd 20 89 (by kernel_rfl) rfl;obtain ⟨q0,q1,q2,q3,q4,q5⟩:=HPC.out _ hb;exact bx4
  ·refine OpOb.of 22 rfl fun a0 w0 Pr hb hP hn hd ho K hK=>?_
   obtain ⟨v16,rfl,e16⟩:=hd 16 85 (by kernel_rfl) rfl;rw[if_pos (JC e16 (by kernel_rfl))];obtain ⟨v21,rfl,e21⟩:=hd 21 90 (by kernel_rfl) rfl;exact bx4
  ·refine OpOb.of 23 rfl fun a0 w0 Pr hb hP hn hd ho K hK=>?_
   obtain ⟨v16,rfl,e16⟩:=hd 16 85 (by kernel_rfl) rfl;obtain ⟨v22,rfl,e22⟩:=hd 22 91 (by kernel_rfl) rfl;exact bx4
  ·refine OpOb.of 24 rfl fun a0 w0 Pr hb hP hn hd ho K hK=>?_
   obtain ⟨v23,rfl,e23⟩:=hd 23 92 (by kernel_rfl) rfl;exact bx4
  ·refine OpOb.of 25 rfl fun a0 w0 Pr hb hP hn hd ho K hK=>?_
   obtain ⟨v24,rfl,e24⟩:=hd 24 93 (by kernel_rfl) rfl;rw[if_pos (JC e24 (by kernel_rfl))];exact bx51
  ·refine OpOb.of 26 rfl fun a0 w0 Pr hb hP hn hd ho K hK=>?_
   obtain ⟨v24,rfl,e24⟩:=hd 24 93 (by kernel_rfl) rfl;rw[if_pos (JC e24 (by kernel_rfl))];obtain ⟨v25,rfl,e25⟩:=hd 25 94 (by kernel_rfl) rfl;obtain ⟨r0,r1,r2⟩:=F2.out _ hb;exact bx4
  ·refine OpOb.of 27 rfl fun a0 w0 Pr hb hP hn hd ho K hK=>?_
   obtain ⟨v24,rfl,e24⟩:=hd 24 93 (by kernel_rfl) rfl;rw[if_pos (JC e24 (by kernel_rfl))];obtain ⟨v26,rfl,e26⟩:=hd 26 95 (by kernel_rfl) rfl;exact bx4
  ·refine OpOb.of 28 rfl fun a0 w0 Pr hb hP hn hd ho K hK=>?_
   obtain ⟨v24,rfl,e24⟩:=hd 24 93 (by kernel_rfl) rfl;rw[if_pos (JC e24 (by kernel_rfl))];obtain ⟨v27,rfl,e27⟩:=hd 27 96 (by kernel_rfl) rfl;exact bx4
  ·refine OpOb.of 29 rfl fun a0 w0 Pr hb hP hn hd ho K hK=>?_
   obtain ⟨v24,rfl,e24⟩:=hd 24 93 (by kernel_rfl) rfl;rw[if_pos (JC e24 (by kernel_rfl))];obtain ⟨v28,rfl,e28⟩:=hd 28 97 (by kernel_rfl) rfl;obtain ⟨q0,q1,q2,q3,q4,q5⟩:=HPC.out _ hb;exact bx4
  ·refine OpOb.of 30 rfl fun a0 w0 Pr hb hP hn hd ho K hK=>?_
   obtain ⟨v24,rfl,e24⟩:=hd 24 93 (by kernel_rfl) rfl;rw[if_pos (JC e24 (by kernel_rfl))];obtain ⟨v29,rfl,e29⟩:=hd 29 98 (by kernel_rfl) rfl;have qb:((bs [115,112,97,109]).toList==([115,112,97,109]:List UInt8))=true:=by rw[Jl]; rfl
   exact bx4
  ·refine OpOb.of 31 rfl fun a0 w0 Pr hb hP hn hd ho K hK=>?_
   obtain ⟨v24,rfl,e24⟩:=hd 24 93 (by kernel_rfl) rfl;obtain ⟨v30,rfl,e30⟩:=hd 30 99 (by kernel_rfl) rfl;exact bx4
  ·refine OpOb.of 32 rfl fun a0 w0 Pr hb hP hn hd ho K hK=>?_
   obtain ⟨v31,rfl,e31⟩:=hd 31 100 (by kernel_rfl) rfl;exact bx4
  ·refine OpOb.of 33 rfl fun a0 w0 Pr hb hP hn hd ho K hK=>?_
   obtain ⟨v32,rfl,e32⟩:=hd 32 101 (by kernel_rfl) rfl;rw[if_pos (JC e32 (by kernel_rfl))];exact bx51
  ·refine OpOb.of 34 rfl fun a0 w0 Pr hb hP hn hd ho K hK=>?_
   obtain ⟨v32,rfl,e32⟩:=hd 32 101 (by kernel_rfl) rfl;rw[if_pos (JC e32 (by kernel_rfl))];obtain ⟨v33,rfl,e33⟩:=hd 33 102 (by kernel_rfl) rfl;obtain ⟨r0,r1,r2⟩:=F2.out _ hb;exact bx4
  ·refine OpOb.of 35 rfl fun a0 w0 Pr hb hP hn hd ho K hK=>?_
   obtain ⟨v32,rfl,e32⟩:=hd 32 101 (by kernel_rfl) rfl;rw[if_pos (JC e32 (by kernel_rfl))];obtain ⟨v34,rfl,e34⟩:=hd 34 103 (by kernel_rfl) rfl;exact bx4
  ·refine OpOb.of 36 rfl fun a0 w0 Pr hb hP hn hd ho K hK=>?_
   obtain ⟨v32,rfl,e32⟩:=hd 32 101 (by kernel_rfl) rfl;obtain ⟨v35,rfl,e35⟩:=hd 35 104 (by kernel_rfl) rfl;exact bx4
  ·refine OpOb.of 37 rfl fun a0 w0 Pr hb hP hn hd ho K hK=>?_
   obtain ⟨v36,rfl,e36⟩:=hd 36 105 (by kernel_rfl) rfl;exact bx4
 intro n9 vs v9 hn9 hb9 hp9 hd9 hr9;have e9:vs 37=_:=hr9 37 (by decide);have hb9:Bel v6 v9:=hb9;rw[show pairsOf _ 38 vs=[(69,vs 0),(70,vs 1),(71,vs 2),(72,vs 3),(73,vs 4),(74,vs 5),(75,vs 6),(76,vs 7),(77,vs 8),(78,vs 9),(79,vs 10),(80,vs 11),(81,vs 12),(82,vs 13),(83,vs 14),(84,vs 15),(85,vs 16),(86,vs 17),(87,vs 18),(88,vs 19),(89,vs 20),(90,vs 21),(91,vs 22),(92,vs 23),(93,vs 24),(94,vs 25),(95,vs 26),(96,vs 27),(97,vs 28),(98,vs 29),(99,vs 30),(100,vs 31),(101,vs 32),(102,vs 33),(103,vs 34),(104,vs 35),(105,vs 36),(18,vs 37)] from rfl];simp only[fillT,e9,List.setIfInBounds_toArray,List.set_cons_zero,List.set_cons_succ];have HB9:Hid (Bel w v9):=Jd HB6.out hb9;have HY9:=Zh (HY6.out.up hb9);obtain ⟨r0,r1,r2⟩:=F2.out _ hb9;clear hn9 hb9 hp9 hd9 hr9 e9 HC1 HC2 HPF HPC F2 HY6 HB6 HZ2 HZ4;generalize vs 0=x0;generalize vs 1=x1;generalize vs 2=x2;generalize vs 3=x3;generalize vs 4=x4;generalize vs 5=x5;generalize vs 6=x6;generalize vs 7=x7;generalize vs 8=x8;generalize vs 9=x9;generalize vs 10=x10;generalize vs 11=x11;generalize vs 12=x12;generalize vs 13=x13;generalize vs 14=x14;generalize vs 15=x15;generalize vs 16=x16;generalize vs 17=x17;generalize vs 18=x18;generalize vs 19=x19;generalize vs 20=x20;generalize vs 21=x21;generalize vs 22=x22;generalize vs 23=x23;generalize vs 24=x24;generalize vs 25=x25;generalize vs 26=x26;generalize vs 27=x27;generalize vs 28=x28;generalize vs 29=x29;generalize vs 30=x30;generalize vs 31=x31;generalize vs 32=x32;generalize vs 33=x33;generalize vs 34=x34;generalize vs 35=x35;generalize vs 36=x36;clear vs;refine last0 ?_;go_wp2_with fail;refine (Jdb v9 _ HY9.out (HL.out.below HB9.out)).mono ?_;rintro e w9 ⟨rfl,hbb⟩;have HFIN:Hid (Bel w w9):=Jd HB9.out hbb;clear hbb r0 r1 r2;go_wp2;go_ret;exact ⟨rfl,HFIN.out⟩
end Go.Proofs.YtdlkcjkjnehnkaaGreatDoor
namespace Go.Proofs.YtdlkcjkjnehnkaaGreatDoor
open Go Go.Lib
open _root_.Go.Proofs.Tryz
set_option linter.all false
set_option maxRecDepth 100000
set_option maxHeartbeats 32000000
theorem JkS {x:Tok} (h:Tk1 x):(wr x).length≤40:=by
 rcases h with ⟨s,rfl,h⟩ | ⟨n,rfl,h0,h1⟩ | ⟨s,rfl,h⟩ | ⟨s,rfl,h⟩
 ·have:=h.1;change s.length≤40;omega
 ·change (itoa n).length≤40
  rcases V6 n with ⟨_,e⟩ | ⟨h2,_⟩
  ·rw[e];have:=ZJ n.toNat 20 (by omega) (by decide);omega
  ·omega
 ·have:=(ZZ h).2;change (34::(s++[34])).length≤40;rw[List.length_cons,List.length_append,List.length_singleton];omega
 ·change s.length≤40;simp only[signs,List.mem_cons,List.not_mem_nil,or_false] at h
  rcases h with rfl | rfl | rfl | rfl | rfl | rfl | rfl | rfl | rfl | rfl | rfl | rfl | rfl | rfl | rfl | rfl <;> decide
theorem Jhf:∀ (l:List It),Ch l→(flat l).length≤40*l.length
 | [],_=>Nat.le_refl _
 | .s c::l,h=>by
  rw[Ch] at h;have:=Jhf l h.2;change (c::flat l).length≤_;rw[List.length_cons,List.length_cons];omega
 | .t x::l,h=>by
  rw[Ch] at h;have h1:=Jhf l h.2.2;have h2:=JkS h.1;change (wr x++flat l).length≤_;rw[List.length_append,List.length_cons];omega
theorem JaN (b:Bool) (x:List It):(par b x).length≤x.length+2:=by
 unfold par;split
 ·rw[List.length_cons,List.length_append,List.length_singleton]; omega
 ·omega
theorem Jjp (fn:Int→List UInt8):∀ (l:List Exp),(∀ a∈l,(iB fn false a).length+2≤14*siz (utN a))→(iT fn l).length≤14*sizL (utL l)
 | [],_=>by rw[iT]; exact Nat.zero_le _
 | a::l,h=>by
  have h1:=h a (by simp);have h2:=Jjp fn l fun b hb=>h b (by simp[hb])
  rw[iT,utL,Ju,List.length_cons,List.length_cons,List.length_append];omega
theorem Jmc (fn:Int→List UInt8):∀ (l:List Exp),(∀ a∈l,(iB fn false a).length+2≤14*siz (utN a))→(iA fn l).length≤14*sizL (utL l)
 | [],_=>by rw[iA]; exact Nat.zero_le _
 | a::l,h=>by
  have h1:=h a (by simp);have h2:=Jjp fn l fun b hb=>h b (by simp[hb])
  rw[iA,utL,Ju,List.length_append];omega
theorem Jmd (a:Exp):sizL (utL [a])=siz (utN a):=by rw[utL,utL,Ju,JE]; rfl
theorem Jme (a b:Exp):sizL (utL [a,b])=siz (utN a)+siz (utN b):=by rw[utL,Ju,Jmd]
theorem JmH (a b c:Exp):sizL (utL [a,b,c])=siz (utN a)+(siz (utN b)+siz (utN c)):=by rw[utL,Ju,Jme]
theorem JI {p:Prop} [Decidable p] {x y:List It} {B:Nat} (h1:x.length+2≤B) (h2:y.length+2≤B):(if p then x else y).length+2≤B:=by split <;> assumption
theorem bx35 {P:Prop}(h:P:=by
  refine JI ?_ (JI ?_ (JI ?_ (JI ?_ (JI ?_ (JI ?_ (JI ?_ (JI ?_ (JI ?_ (JI ?_ (JI ?_ ?_))))))))))
  all_goals try dsimp only
  all_goals try refine JI ?_ ?_
  all_goals try simp only[List.length_cons,List.length_nil,List.length_append]
  all_goals omega):P:=h
theorem Jhg (fn:Int→List UInt8):∀ (e:Exp) (ne:Bool),(iB fn ne e).length+2≤14*siz (utN e)
 | .mk k n s l,ne=>by
  have ih:∀ a∈l,∀ ne,(iB fn ne a).length+2≤14*siz (utN a):=fun a ha ne=>Jhg fn a ne
  have hA:=Jmc fn l fun a ha=>ih a ha false
  rw[JM,utN,JG]
  rcases l with _ | ⟨a,_ | ⟨b,_ | ⟨c,_ | ⟨d,l⟩⟩⟩⟩
  ·refine JI ?_ (JI ?_ (JI ?_ (JI ?_ (JI ?_ (JI ?_ (JI ?_ (JI ?_ (JI ?_ (JI ?_ (JI ?_ ?_))))))))))
   all_goals try dsimp only
   all_goals try simp only[List.length_cons,List.length_nil,List.length_append]
   all_goals omega
  ·have h1:=ih a (by simp) false;have h2:=ih a (by simp) true;have p1:=JaN (decide (lvE a<7)) (iB fn false a);have p2:=JaN (decide (lvE a<3)) (iB fn false a);have z:=Jmd a;exact bx35
  ·have h1:=ih a (by simp) false;have h2:=ih b (by simp) false;have p1:=JaN (decide (lvE a<rleftL (lvE (.mk k n s [a,b])))) (iB fn false a);have p2:=JaN (decide (lvE b<lvE (.mk k n s [a,b])+1)) (iB fn false b);have z:=Jme a b;exact bx35
  ·have h1:=ih a (by simp) false;have h2:=ih b (by simp) false;have h3:=ih c (by simp) false;have z:=JmH a b c;exact bx35
  ·refine JI ?_ (JI ?_ (JI ?_ (JI ?_ (JI ?_ (JI ?_ (JI ?_ (JI ?_ (JI ?_ (JI ?_ (JI ?_ ?_))))))))))
   all_goals try dsimp only
   all_goals try simp only[List.length_cons,List.length_nil,List.length_append]
   all_goals omega
termination_by e=>SizeOf.sizeOf e
decreasing_by
 have:=List.sizeOf_lt_of_mem ha;simp only[Exp.mk.sizeOf_spec];omega
theorem Jhh:∀ (l:List Int) (i:Nat),(iPt i l).length=6*l.length
 | [],i=>by rw[iPt]; rfl
 | t::l,i=>by
  rw[iPt];simp only[List.length_cons,Jhh l];omega
theorem Jmf (l:List Int):(iP l).length≤6*l.length:=by
 cases l with
 | nil=>rw[iP]; exact Nat.zero_le _
 | cons t l=>
  rw[iP];simp only[List.length_cons,Jhh l];omega
theorem bx112 {P:Prop}(h:P:=by
  simp only[List.length_cons,List.length_append,List.length_nil]
  omega):P:=h
theorem Jmg (fn:Int→List UInt8) (f:FnM):(iF fn f).length≤12+6*f.params.length+14*siz (utN f.body):=by
 have h1:=Jmf f.params;have h2:=Jhg fn f.body false;unfold iF;exact bx112
theorem Jmh (fn:Int→List UInt8) (c:ClM):(iC fn c).length≤9+14*siz (utN c.cond):=by
 have h2:=Jhg fn c.cond false;unfold iC;exact bx112
theorem Jhi (fn:Int→List UInt8) (B:Nat):∀ (l:List FnM),(∀ f∈l,(iF fn f).length≤B)→(iFs fn l).length≤l.length*B
 | [],_=>by rw[iFs]; exact Nat.zero_le _
 | f::l,h=>by
  have h1:=h f (by simp);have h2:=Jhi fn B l fun g hg=>h g (by simp[hg])
  rw[iFs,List.length_append,List.length_cons,Nat.succ_mul];omega
theorem Jhj (fn:Int→List UInt8) (B:Nat):∀ (l:List ClM),(∀ f∈l,(iC fn f).length≤B)→(iCs fn l).length≤l.length*B
 | [],_=>by rw[iCs]; exact Nat.zero_le _
 | f::l,h=>by
  have h1:=h f (by simp);have h2:=Jhj fn B l fun g hg=>h g (by simp[hg])
  rw[iCs,List.length_append,List.length_cons,Nat.succ_mul];omega
structure RNm (r:RuleM):Prop where
 nf:r.funcs.length≤9223372036854775807
 nc:r.clauses.length≤9223372036854775807
 fn:∀ f∈r.funcs,f.name.length≤9223372036854775807∧f.params.length≤9223372036854775807∧NmN f.body
 cl:∀ c∈r.clauses,NmN c.cond∧c.reason.length≤9223372036854775807
theorem Jjq:∀ {l:List FnM} {f:FnM},f∈l→szE 0 f.body≤sF l
 | g::l,f,h=>by
  have e:sF (g::l)=szE 0 g.body+sF l:=by simp[sF]
  rw[e]
  rcases List.mem_cons.1 h with rfl | h
  ·omega
  ·have:=Jjq h; omega
theorem Jjr:∀ {l:List ClM} {f:ClM},f∈l→szE 0 f.cond≤sC l
 | g::l,f,h=>by
  have e:sC (g::l)=szE 0 g.cond+sC l:=by simp[sC]
  rw[e]
  rcases List.mem_cons.1 h with rfl | h
  ·omega
  ·have:=Jjr h; omega
theorem JbP {r:RuleM} (h:fewM r=true) (hn:RNm r):RSz r∧RFew r∧(rightM r=true→(flat (iR r)).length≤140737488355328):=by
 unfold fewM at h;simp only[Bool.and_eq_true,decide_eq_true_eq,List.all_eq_true] at h;obtain ⟨h1,h2,h3,h4⟩:=h
 have hF:∀ f∈r.funcs,f.params.length≤20∧f.name.length≤100∧siz (utN f.body)≤400:=fun f hf=>by
  have g1:=h3 f hf;unfold okF at g1;simp only[Bool.and_eq_true,decide_eq_true_eq] at g1;have g2:=Jjq hf;have g3:=Jda f.body 0 (by omega);exact ⟨g1.1,g1.2,by omega⟩
 have hC:∀ c∈r.clauses,siz (utN c.cond)≤400:=fun c hc=>by
  have g2:=Jjr hc;have g3:=Jda c.cond 0 (by omega);omega
 have hw:RFew r:=fun f hf=>by
  have:=(hF f hf).1;unfold big;omega
 refine ⟨⟨by omega,by omega,fun f hf=>?_,fun c hc=>?_⟩,hw,fun hr=>?_⟩
 ·obtain ⟨g1,g2,g3⟩:=hF f hf;exact ⟨by omega,by omega,(hn.fn f hf).2.2,by omega⟩
 ·have g:=hC c hc;exact ⟨(hn.cl c hc).1,by omega,(hn.cl c hc).2⟩
 ·have g1:=Jhf _ (Jlp hr hw)
  have g2:=Jhi (fnF r) 5732 r.funcs fun f hf=>by
   obtain ⟨q1,q2,q3⟩:=hF f hf;have:=Jmg (fnF r) f;omega
  have g3:=Jhj (fnF r) 5609 r.clauses fun c hc=>by
   have q:=hC c hc;have:=Jmh (fnF r) c;omega
  have g4:(iR r).length≤r.funcs.length*5732+(r.clauses.length*5609+4):=by
   unfold iR;exact bx112
  omega
end Go.Proofs.YtdlkcjkjnehnkaaGreatDoor
namespace Go.Proofs.YtdlkcjkjnehnkaaGreatDoor
open Go Go.ChangeShapes Go.WideShapes Go.ChangeAt Go.RowKit Go.Lib
open _root_.Go.Proofs.Tryz
set_option linter.all false
set_option maxRecDepth 100000
set_option maxHeartbeats 32000000
end Go.Proofs.YtdlkcjkjnehnkaaGreatDoor
