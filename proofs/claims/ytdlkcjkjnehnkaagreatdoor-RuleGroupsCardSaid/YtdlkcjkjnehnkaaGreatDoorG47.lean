import Derived.Test.YtdlkcjkjnehnkaaGreatDoorG46
namespace Go.Proofs.YtdlkcjkjnehnkaaGreatDoor
open Go Go.Lib
open Go.ChangeShapes Go.WideShapes Go.ChangeAt Go.RowKit
open Go.ChangeShapes Go.WideShapes Go.ChangeAt Go.RowKit
open Go.ChangeShapes Go.WideShapes Go.ChangeAt Go.RowKit Go.Lib
open Go.RowKit
open Go
open _root_.Go.Proofs.Tryz
set_option linter.all false
set_option maxRecDepth 100000
set_option maxHeartbeats 32000000
mutual
theorem fits_nest (pa:List Nat):∀ (e:Exp) (nv m k:Nat),fitsN pa nv m e=true→nest (utN e)≤k→fitsN pa nv k e=true
 | .mk kd n s l,nv,m,k,h,hk=>by
  obtain ⟨h1,h2,h3,h4⟩:=KL h;rw[utN,nest] at hk;rw[fitsN,decide_eq_true (by omega:1≤k),h2,h3,fitsL_nest pa l nv (m-1) (k-1) kd 0 h4 (by omega)];simp
theorem fitsL_nest (pa:List Nat):∀ (l:List Exp) (nv m k:Nat) (kd:Int) (i:Nat),fitsL pa nv m kd i l=true→nestL (utL l)≤k→fitsL pa nv k kd i l=true
 | [],nv,m,k,kd,i,h,hk=>by rw[fitsL]
 | a::l,nv,m,k,kd,i,h,hk=>by
  obtain ⟨h1,h2⟩:=KG h;rw[utL,nestL] at hk;rw[fitsL,fits_nest pa a _ m k h1 (by omega),fitsL_nest pa l nv m k kd (i+1) h2 (by omega)];rfl
end
def fn0:Int→List UInt8:=fun _=>[]
theorem fn0_ok:FnOk fn0 ([]:List Nat).length:=fun n h0 h1=>by simp at h1; omega
def oneR (e:Exp):RuleM:=⟨[],[⟨e,0,[]⟩],0⟩
def tyOne (e:Exp):Prop:=ofN [] [] (utN e)=(1,[])
theorem oneR_right {e:Exp} (hf:fitsN [] 0 40 e=true) (ht:tyOne e):rightM (oneR e)=true:=by
 have h1:treesM (oneR e)=true:=by
  unfold treesM oneR;simp only[List.all_nil,List.all_cons,RuleM.pa,List.map_nil,hf];rfl
 have h2:typedM (oneR e)=true:=by
  unfold typedM oneR needN;unfold tyOne at ht;simp only[List.all_nil,List.all_cons,RuleM.sigs,List.map_nil,ht];rfl
 unfold rightM;rw[h1,h2];rfl
theorem oneR_of {r:RuleM} (h:rightM r=true) (hf:r.funcs=[]) {c:ClM} (hc:c∈r.clauses):fitsN [] 0 40 c.cond=true∧tyOne c.cond:=by
 obtain ⟨_,_,_,h4,h5⟩:=KA h;unfold treesM at h4;rw[Bool.and_eq_true,List.all_eq_true,List.all_eq_true] at h4;unfold typedM at h5;rw[Bool.and_eq_true,List.all_eq_true,List.all_eq_true] at h5;have g1:=h4.2 c hc;have g2:=h5.2 c hc;have e1:r.pa=[]:=by unfold RuleM.pa; rw[hf]; rfl
 have e2:r.sigs=[]:=by unfold RuleM.sigs; rw[hf]; rfl
 rw[e1] at g1;rw[e2] at g2;refine ⟨g1,?_⟩;have g2:needN [] [] 1 (utN c.cond)=[]:=by simpa using g2
 unfold needN at g2;simp only[List.append_eq_nil_iff] at g2
 have g3:(ofN [] [] (utN c.cond)).1=1:=by
  by_cases q:(ofN [] [] (utN c.cond)).1=1
  ·exact q
  ·have:=g2.2;rw[if_pos q] at this
   cases this
 exact Prod.ext g3 g2.1
theorem need_one {e:Exp} (h:tyOne e) (l:List Nd):needL [] [] 1 (utN e::l)=needL [] [] 1 l:=by
 unfold tyOne at h;rw[needL_cons',h];rfl
theorem need_nil:needL [] [] 1 []=[]:=by rw[needL]
theorem ty_not {x:Exp} (h:tyOne x):tyOne (.mk 7 0 [] [x]):=by
 unfold tyOne;rw[utN,utL,utL,Jlb,if_neg (by decide),if_neg (by decide),if_neg (by decide),if_neg (by decide),if_neg (by decide),if_neg (by decide),if_pos (by decide),need_one h,need_nil]
theorem ty_bin {k:Int} (hk:k=16∨k=17) {x y:Exp} (h:tyOne x) (h':tyOne y):tyOne (.mk k 0 [] [x,y]):=by
 unfold tyOne;rw[utN,utL,utL,utL,Jlb,if_neg (by omega),if_neg (by omega),if_neg (by omega),if_neg (by omega),if_neg (by omega),if_neg (by omega),if_pos (by omega),need_one h,need_one h',need_nil]
theorem ty_if {x y z:Exp} (h:tyOne x) (h':tyOne y) (h2:tyOne z):tyOne (.mk 18 0 [] [x,y,z]):=by
 unfold tyOne at h h' h2 ⊢;rw[utN,utL,utL,utL,utL,Jlb,if_neg (by decide),if_neg (by decide),if_neg (by decide),if_neg (by decide),if_neg (by decide),if_neg (by decide),if_neg (by decide),if_pos (by decide)];simp only[h,h',h2];rfl
theorem fits_1 {x:Exp} {m:Nat} (h:fitsN [] 0 m x=true):fitsN [] 0 (m+1) (.mk 7 0 [] [x])=true:=by
 rw[fitsN,fitsL,fitsL,if_neg (by decide),Nat.add_sub_cancel,h,decide_eq_true (by omega:1≤m+1)];rfl
theorem fits_2 {k:Int} (hk:k=16∨k=17) {x y:Exp} {m:Nat} (h:fitsN [] 0 m x=true) (h':fitsN [] 0 m y=true):fitsN [] 0 (m+1) (.mk k 0 [] [x,y])=true:=by
 rw[fitsN,fitsL,fitsL,fitsL,if_neg (by omega),if_neg (by omega),Nat.add_sub_cancel,h,h',decide_eq_true (by omega:1≤m+1)]
 rcases hk with rfl | rfl <;> rfl
theorem fits_3 {x y z:Exp} {m:Nat} (h:fitsN [] 0 m x=true) (h':fitsN [] 0 m y=true) (h2:fitsN [] 0 m z=true):fitsN [] 0 (m+1) (.mk 18 0 [] [x,y,z])=true:=by
 rw[fitsN,fitsL,fitsL,fitsL,fitsL,if_neg (by decide),if_neg (by decide),if_neg (by decide),Nat.add_sub_cancel,h,h',h2,decide_eq_true (by omega:1≤m+1)];rfl
def gT:List It:=[.s 32,.t (tW kThen),.s 32,.t (tW kShow),.s 32,.t (tT []),.s 32,.t (tW kDefault),.s 32,.t (tW kShow)]
def gI (M:List It):List It:=.t (tW kWhen)::.s 32::(M++gT)
theorem safe_nil:Safe (flat []):=by unfold Safe flat; simp
theorem ch_gT:Ch gT:=
 KB (JD (J6 (by decide)) (KB (JD (J6 (by decide)) (KB (Jcq (by decide) (KB (JD (J6 (by decide)) (KB (JD (J6 (by decide)) (by rw[Ch]; trivial) safe_nil)) (JV (by decide) _))))) (JV (by decide) _))) (JV (by decide) _))
theorem parse_cond {e:Exp} {M:List It} (hf:fitsN [] 0 40 e=true) (ht:tyOne e) (hCl:Cl M) (hEv:∀ rest,Ro 0 rest→Ev .expr (tk M++rest) (sN fn0 e) rest) (hl:(flat (gI M)).length≤4096):parseM (flat (gI M))=(oneR e,0,0):=by
 have hr:=oneR_right hf ht;have hw:RFew (oneR e):=fun f hf=>by cases hf
 have hch:Ch (gI M):=JD (J6 (by decide)) (KB (hCl _ ch_gT (JV (by decide) _))) (JV (by decide) _);obtain ⟨us,h1,h2⟩:=Jcp (gI M) 0 hch;have hs:scanR (flat (gI M))=(us,0,0):=by unfold scanR; rw[if_neg (by omega),h1]
 have hul:us.length=(tk (gI M)++[endTok]).length:=by rw[← h2,List.length_map]
 rw[parseM_ok hs,hul];generalize hF:12*((tk (gI M)++[endTok]).length+1)=F
 have e0:tk (gI M)++[endTok]=tW kWhen::(tk M++tW kThen::tW kShow::tT []::tW kDefault::tW kShow::[endTok]):=by
  unfold gI gT;simp only[tk_t,tk_s,KZ,Jdl,List.cons_append,List.append_assoc,List.nil_append]
 have hF2:12*(tk M++tW kThen::tW kShow::tT []::tW kDefault::tW kShow::[endTok]).length+24≤F:=by
  rw[e0,List.length_cons] at hF;omega
 have hsrc:srcP F (tk (gI M)++[endTok])=.ok (srcO (oneR e)) [endTok]:=by
  rw[e0];obtain ⟨g,rfl⟩:∃ g,F=g+2:=⟨F-2,by omega⟩
  have hb:pM (g+2) .expr (tk M++tW kThen::tW kShow::tT []::tW kDefault::tW kShow::[endTok])=.ok (sN fn0 e) (tW kThen::tW kShow::tT []::tW kDefault::tW kShow::[endTok]):=by
   refine (hEv _ (YT 0 _ (by decide) (by decide))).at ?_;omega
  unfold srcP;rw[funsP,VM (by decide),Jj,clausesP,show acc 0 kWhen (tW kWhen::(tk M++tW kThen::tW kShow::tT []::tW kDefault::tW kShow::[endTok]))=some _ from JK ..];simp only;rw[hb,Jj];rfl
 have hc:=cont_src hr hw;have h3:=Jiq F us;rw[h2,JeF hsrc,hc] at h3
 cases q:parseT F us with
 | none=>rw[q] at h3; cases h3
 | some p=>
  obtain ⟨r',e',o'⟩:=p;rw[q] at h3;simp only[Option.map_some,Option.some.injEq,Prod.mk.injEq] at h3;obtain ⟨rfl,rfl,_⟩:=h3;rw[JeE q];rfl
def pp (x:List It):List It:=.t (tS [40])::(x++[.t (tS [41])])
theorem tk_pp (x:List It) (rest:List Tok):tk (pp x)++rest=tS [40]::(tk x++tS [41]::rest):=by
 unfold pp;simp only[tk_t,KZ,Jdl,List.cons_append,List.append_assoc,List.nil_append]
theorem cl_pp {x:List It} (h:Cl x):Cl (pp x):=fun L hL hs=>by
 have:=h.par true L hL hs;exact this
def c1 (x:List It):List It:=pp (pp x)
def c2 (x:List It):List It:=.t (tW kNot)::.s 32::pp x
def c3 (x y:List It):List It:=pp x++.t (tW kOr)::pp y
def c4 (x y:List It):List It:=.t (tW kNot)::(pp x++.t (tW kAnd)::pp y)
def c5 (x y:List It):List It:=.t (tW kIf)::.s 32::(x++.s 32::.t (tW kThen)::.s 32::(y++.s 32::.t (tW kElse)::.s 32::pp x))
theorem cl_word {s:List UInt8} (hs:WordOk s) {x:List It} (h:Cl x) (hh:∀ L,Safe (flat (x++L))):Cl (.t (tW s)::x):=fun L hL hl=>JD hs (h L hL hl) (hh L)
theorem cl_app {x y:List It} (hx:Cl x) (hy:Cl y) (hs:∀ L,Safe (flat (y++L))):Cl (x++y):=fun L hL hl=>by
 rw[List.append_assoc];exact hx _ (hy L hL hl) (hs L)
theorem cl_sp {x:List It} (h:Cl x):Cl (.s 32::x):=fun L hL hl=>KB (h L hL hl)
theorem safe_pp (x:List It) (L:List It):Safe (flat (pp x++L)):=JY (by decide) _
theorem safe_s (x:List It) (L:List It):Safe (flat (.s 32::x++L)):=JV (by decide) _
theorem cl_or {x y:List It} (hx:Cl x) (hy:Cl y) {s:List UInt8} (hs:WordOk s):Cl (pp x++.t (tW s)::pp y):=fun L hL hl=>by
 have h1:Ch (.t (tW s)::pp y++L):=JD hs (cl_pp hy L hL hl) (safe_pp y L);have h2:Ch (.t (tS [41])::(.t (tW s)::pp y++L)):=KE (by decide) h1 (by decide);have h3:=hx _ h2 (JY (by decide) _);have h4:Ch (.t (tS [40])::(x++.t (tS [41])::(.t (tW s)::pp y++L))):=KE (by decide) h3 (by decide)
 have e:pp x++.t (tW s)::pp y++L=.t (tS [40])::(x++.t (tS [41])::(.t (tW s)::pp y++L)):=by
  unfold pp;simp only[List.cons_append,List.append_assoc,List.nil_append]
 rw[e];exact h4
section
variable {x y:Exp} (hx:fitsN [] 0 40 x=true) (hy:fitsN [] 0 40 y=true)
def iB0 (e:Exp):List It:=iB fn0 false e
include hx in
theorem cl_0:Cl (iB0 x):=Yb fn0_ok x false 0 40 hx (by decide)
include hx in
theorem ev_0 {rest:List Tok} (hr:Ro 0 rest):Ev .expr (tk (iB0 x)++rest) (sN fn0 x) rest:=(KD fn0_ok x 0 40 hx (by decide)).expr hr
theorem ev_pp {X:List It} {a:Nd} (h:∀ rest,Ro 0 rest→Ev .expr (tk X++rest) a rest) (ha:a.off=0) (rest:List Tok):Ev .prim (tk (pp X)++rest) a rest:=by
 rw[tk_pp];exact Jhv (h _ (JjK 0 rest)) ha
theorem hd_pp (X:List It) (rest:List Tok) (lv:Nat):Hd lv (hd (tk (pp X)++rest)):=by rw[tk_pp]; exact Jfg lv
theorem ev_ppx {X:List It} {a:Nd} (h:∀ rest,Ro 0 rest→Ev .expr (tk X++rest) a rest) (ha:a.off=0) {rest:List Tok} (hr:Ro 0 rest):Ev .expr (tk (pp X)++rest) a rest:=
 Jhy 8 0 (by decide) (ev_pp h ha rest) hr (hd_pp X rest _)
theorem ev_pp2 {X:List It} {a:Nd} (h:∀ rest,Ro 0 rest→Ev .expr (tk X++rest) a rest) (ha:a.off=0) {rest:List Tok} (hr:Ro 2 rest):Ev (.level 2) (tk (pp X)++rest) a rest:=
 Jhy 6 2 (by decide) (ev_pp h ha rest) hr (hd_pp X rest _)
theorem ev_pp3 {X:List It} {a:Nd} (h:∀ rest,Ro 0 rest→Ev .expr (tk X++rest) a rest) (ha:a.off=0) {rest:List Tok} (hr:Ro 3 rest):Ev (.level 3) (tk (pp X)++rest) a rest:=
 Jhy 5 3 (by decide) (ev_pp h ha rest) hr (hd_pp X rest _)
theorem hd_not (lv:Nat) (h:lv≤3):Hd lv (tW kNot):=
 ⟨rfl,fun _ h=>absurd h.2 (by change ¬ kNot=kLet; decide),fun _ h=>absurd h.2 (by change ¬ kNot=kIf; decide),fun h=>absurd h (by omega),fun h=>absurd h (by omega),fun h=>absurd h.1 (by change ¬ (0:Int)=3; decide)⟩
theorem ro_or (r:List Tok):Ro 2 (tW kOr::r):=Vd ⟨by decide,fun _=>by decide,fun _=>by decide,fun _=>by decide,fun _=>by decide,fun h=>absurd h (by decide)⟩
theorem ro_and (r:List Tok):Ro 3 (tW kAnd::r):=Vd ⟨by decide,fun _=>by decide,fun _=>by decide,fun _=>by decide,fun h=>absurd h (by decide),fun h=>absurd h (by decide)⟩
include hx in
theorem ev_c1 {rest:List Tok} (hr:Ro 0 rest):Ev .expr (tk (c1 (iB0 x))++rest) (sN fn0 x) rest:=
 ev_ppx (fun _ h=>ev_ppx (fun _ h=>ev_0 hx h) (Jfe _ _) h) (Jfe _ _) hr
include hx in
theorem ev_c2 {rest:List Tok} (hr:Ro 0 rest):Ev .expr (tk (c2 (iB0 x))++rest) (sN fn0 (.mk 7 0 [] [x])) rest:=by
 have h1:=JjE (ev_pp3 (fun _ h=>ev_0 hx h) (Jfe fn0 x) (hr.mono (by decide)) (rest:=rest));have h2:=Jhy 3 0 (by decide) h1 hr (hd_not 3 (by decide));exact h2
include hx hy in
theorem ev_c3 {rest:List Tok} (hr:Ro 0 rest):Ev .expr (tk (c3 (iB0 x) (iB0 y))++rest) (sN fn0 (.mk 17 0 [] [x,y])) rest:=by
 have e:tk (c3 (iB0 x) (iB0 y))++rest=tk (pp (iB0 x))++tW kOr::(tk (pp (iB0 y))++rest):=by
  unfold c3;rw[KZ,tk_t,List.append_assoc];rfl
 rw[e];have h1:=ev_pp2 (fun _ h=>ev_0 hx h) (Jfe fn0 x) (ro_or (tk (pp (iB0 y))++rest));have h2:=ev_pp2 (fun _ h=>ev_0 hy h) (Jfe fn0 y) (hr.mono (by decide)) (rest:=rest);have h3:=Jei (lv:=1) (k:=17) (a:=sN fn0 x) (o:=0) (t:=tW kOr) (by decide) h2 (KK (hr.l1 (by decide)));have h0:=hd_pp (iB0 x) (tW kOr::(tk (pp (iB0 y))++rest)) 1;have h4:=VH (lv:=1) (by decide) (by decide) h1 (by rw[h0.off]; exact h3);exact JjD h4 (h0.let' (by decide)) (h0.if' (by decide))
include hx hy in
theorem ev_c4 {rest:List Tok} (hr:Ro 0 rest):Ev .expr (tk (c4 (iB0 x) (iB0 y))++rest) (sN fn0 (.mk 16 0 [] [.mk 7 0 [] [x],y])) rest:=by
 have e:tk (c4 (iB0 x) (iB0 y))++rest=tW kNot::(tk (pp (iB0 x))++tW kAnd::(tk (pp (iB0 y))++rest)):=by
  unfold c4;rw[tk_t,KZ,tk_t,List.cons_append,List.append_assoc];rfl
 rw[e];have h1:=JjE (ev_pp3 (fun _ h=>ev_0 hx h) (Jfe fn0 x) (ro_and (tk (pp (iB0 y))++rest)));have h2:=ev_pp3 (fun _ h=>ev_0 hy h) (Jfe fn0 y) (hr.mono (by decide)) (rest:=rest);have h3:=Jei (lv:=2) (k:=16) (a:=sN fn0 (.mk 7 0 [] [x])) (o:=0) (t:=tW kAnd) (by decide) h2 (KK (hr.l2 (by decide)));have h4:=VH (lv:=2) (by decide) (by decide) h1 h3;exact Jhy 2 0 (by decide) h4 hr (hd_not 2 (by decide))
include hx hy in
theorem ev_c5 {rest:List Tok} (hr:Ro 0 rest):Ev .expr (tk (c5 (iB0 x) (iB0 y))++rest) (sN fn0 (.mk 18 0 [] [x,y,x])) rest:=by
 have e:tk (c5 (iB0 x) (iB0 y))++rest=tW kIf::(tk (iB0 x)++tW kThen::(tk (iB0 y)++tW kElse::(tk (pp (iB0 x))++rest))):=by
  unfold c5;simp only[tk_t,tk_s,KZ,List.cons_append,List.append_assoc]
 rw[e];exact Jld (ev_0 hx (YT 0 _ (by decide) (by decide))) (ev_0 hy (YT 0 _ (by decide) (by decide))) (ev_ppx (fun _ h=>ev_0 hx h) (Jfe _ _) hr)
include hx in
theorem cl_c1:Cl (c1 (iB0 x)):=cl_pp (cl_pp (cl_0 hx))
include hx in
theorem cl_c2:Cl (c2 (iB0 x)):=cl_word (J6 (by decide)) (cl_sp (cl_pp (cl_0 hx))) fun L=>safe_s _ L
include hx hy in
theorem cl_c3:Cl (c3 (iB0 x) (iB0 y)):=cl_or (cl_0 hx) (cl_0 hy) (J6 (by decide))
include hx hy in
theorem cl_c4:Cl (c4 (iB0 x) (iB0 y)):=cl_word (J6 (by decide)) (cl_or (cl_0 hx) (cl_0 hy) (J6 (by decide))) fun L=>by
 rw[List.append_assoc]; exact safe_pp _ _
include hx hy in
theorem cl_c5:Cl (c5 (iB0 x) (iB0 y)):=
 cl_word (J6 (by decide)) (cl_sp (cl_app (cl_0 hx) (cl_sp (cl_word (J6 (by decide)) (cl_sp (cl_app (cl_0 hy) (cl_sp (cl_word (J6 (by decide)) (cl_sp (cl_pp (cl_0 hx))) fun L=>safe_s _ L)) fun L=>safe_s _ L)) fun L=>safe_s _ L)) fun L=>safe_s _ L)) fun L=>safe_s _ L
end
theorem source_eq {x:Exp} (hf:fitsN [] 0 40 x=true) (ht:tyOne x):writeM (oneR x)=flat (.t (tW kWhen)::.s 32::(iB0 x++[.s 32,.t (tW kThen),.s 32,.t (tW kShow),.s 32,.t (tT []),.s 10,.t (tW kDefault),.s 32,.t (tW kShow),.s 10])):=by
 rw[KQ (oneR_right hf ht)]
 have:iR (oneR x)=.t (tW kWhen)::.s 32::(iB0 x++[.s 32,.t (tW kThen),.s 32,.t (tW kShow),.s 32,.t (tT []),.s 10,.t (tW kDefault),.s 32,.t (tW kShow),.s 10]):=by
  unfold iR oneR iB0;simp only[iFs,iCs,iC,List.nil_append,List.append_nil,List.cons_append,List.append_assoc];rfl
 rw[this]
theorem groups_x {x y:Exp} (hx:fitsN [] 0 40 x=true) (tx:tyOne x) (nx:nest (utN x)≤37) (hy:fitsN [] 0 40 y=true) (ty:tyOne y) (ny:nest (utN y)≤37)
  (hl:2*(flat (iB0 x)).length+(flat (iB0 y)).length≤3900) :
  parseM (flat (gI (c1 (iB0 x))))=(oneR x,0,0)∧parseM (flat (gI (c2 (iB0 x))))=(oneR (.mk 7 0 [] [x]),0,0)∧parseM (flat (gI (c3 (iB0 x) (iB0 y))))=(oneR (.mk 17 0 [] [x,y]),0,0)∧
   parseM (flat (gI (c4 (iB0 x) (iB0 y))))=(oneR (.mk 16 0 [] [.mk 7 0 [] [x],y]),0,0)∧parseM (flat (gI (c5 (iB0 x) (iB0 y))))=(oneR (.mk 18 0 [] [x,y,x]),0,0):=by
 have fx:fitsN [] 0 38 x=true:=fits_nest [] x 0 40 38 hx (by omega);have fx2:fitsN [] 0 39 x=true:=fits_nest [] x 0 40 39 hx (by omega);have fy:fitsN [] 0 39 y=true:=fits_nest [] y 0 40 39 hy (by omega)
 have hb:∀ M:List It,(flat (gI M)).length=(flat M).length+31:=fun M=>by
  unfold gI;rw[flat_t,flat_s,J5,List.length_append,List.length_cons,List.length_append,show (flat gT).length=26 from rfl,show (wr (tW kWhen)).length=4 from rfl];omega
 have hp:∀ M:List It,(flat (pp M)).length=(flat M).length+2:=fun M=>by
  unfold pp;rw[flat_t,J5,List.length_append,List.length_append,show (flat [It.t (tS [41])]).length=1 from rfl,show (wr (tS [40])).length=1 from rfl];omega
 refine ⟨parse_cond hx tx (cl_c1 hx) (fun _ h=>ev_c1 hx h) ?_,parse_cond (fits_1 fx2) (ty_not tx) (cl_c2 hx) (fun _ h=>ev_c2 hx h) ?_,parse_cond (fits_2 (.inr rfl) fx2 fy) (ty_bin (.inr rfl) tx ty) (cl_c3 hx hy) (fun _ h=>ev_c3 hx hy h) ?_,
  parse_cond (fits_2 (.inl rfl) (fits_1 fx) fy) (ty_bin (.inl rfl) (ty_not tx) ty) (cl_c4 hx hy) (fun _ h=>ev_c4 hx hy h) ?_,parse_cond (fits_3 fx2 fy fx2) (ty_if tx ty tx) (cl_c5 hx hy) (fun _ h=>ev_c5 hx hy h) ?_⟩
 ·rw[hb]; unfold c1; rw[hp,hp]; omega
 ·rw[hb]; unfold c2; rw[flat_t,flat_s,List.length_append,List.length_cons,hp,show (wr (tW kNot)).length=3 from rfl]; omega
 ·rw[hb]; unfold c3; rw[J5,flat_t,List.length_append,List.length_append,hp,hp,show (wr (tW kOr)).length=2 from rfl]; omega
 ·rw[hb]; unfold c4; rw[flat_t,J5,flat_t,List.length_append,List.length_append,List.length_append,hp,hp,show (wr (tW kNot)).length=3 from rfl,show (wr (tW kAnd)).length=3 from rfl]; omega
 ·rw[hb]; unfold c5;simp only[flat_t,flat_s,J5,List.length_append,List.length_cons,hp];rw[show (wr (tW kIf)).length=2 from rfl,show (wr (tW kThen)).length=4 from rfl,show (wr (tW kElse)).length=4 from rfl];omega
end Go.Proofs.YtdlkcjkjnehnkaaGreatDoor
