import Derived.Test.YtdlkcjkjnehnkaaGreatDoorG43
namespace Go.Proofs.YtdlkcjkjnehnkaaGreatDoor
open Go Go.Lib
open Go.ChangeShapes Go.WideShapes Go.ChangeAt Go.RowKit
open Go.ChangeShapes Go.WideShapes Go.ChangeAt Go.RowKit
open Go.ChangeShapes Go.WideShapes Go.ChangeAt Go.RowKit Go.Lib
open Go.RowKit
open Go
open _root_.Go.Proofs.Tryz
set_option linter.all false
set_option maxRecDepth 100000
set_option maxHeartbeats 32000000
def tkO:Nat→List It→List Tok
 | _,[]=>[]
 | k,.s _::l=>tkO (k+1) l
 | k,.t x::l=>⟨x.kind,x.text,x.n,(k:Nat)⟩::tkO (k+(wr x).length) l
theorem flat_t (x:Tok) (l:List It):flat (.t x::l)=wr x++flat l:=rfl
theorem flat_s (c:UInt8) (l:List It):flat (.s c::l)=c::flat l:=rfl
theorem cont_src {r:RuleM} (h:rightM r=true) (hw:RFew r):contM (srcO r)=(r,0,0):=by
 obtain ⟨hfn,_⟩:=Jln h;obtain ⟨hF,hC⟩:=Jco h hw;obtain ⟨_,_,h3,_,_⟩:=KA h;have h1:=Jej h hw (e:=endTok) rfl (Nat.le_refl _);rw[JeF (JjN hfn hF hC h3 (e:=endTok) rfl (Nat.le_refl _))] at h1;exact Option.some.inj h1
def kZzz:List UInt8:=[122,122,122]
def xM:Nat→List It
 | 0=>[.t (tW kZzz)]
 | 1=>[.t (tT [120])]
 | 2=>[.t (tI 1)]
 | 3=>[.t (tW kTrue),.s 32,.t (tS [60]),.s 32,.t (tI 1)]
 | 4=>[.t (tI 1),.s 32,.t (tS [60]),.s 32,.t (tI 2),.s 32,.t (tS [60]),.s 32,.t (tI 3)]
 | _=>[.t (tW kZzz),.t (tS [40]),.t (tS [41])]
def xP:List It:=[.s 32,.t (tW kThen),.s 32,.t (tW kShow),.s 32,.t (tT []),.s 32]
def xD (a:Int):List It:=[.t (tW kDefault),.s 32,.t (actT a),.s 10]
theorem x0 (g k:Nat) (cs:List ClS) (o1 o2 o3 o4 o5 o6:Int) (R:List Tok):clausesP (g+20) (k+2) cs (⟨0,kWhen,0,o1⟩::⟨0,kZzz,0,o2⟩::⟨0,kThen,0,o3⟩::⟨0,kShow,0,o4⟩::⟨2,[],0,o5⟩::⟨0,kDefault,0,o6⟩::R)=.ok (cs++[⟨.mk 2 0 kZzz o2 [],0,[]⟩]) (⟨0,kDefault,0,o6⟩::R):=by kernel_rfl
theorem x1 (g k:Nat) (cs:List ClS) (o1 o2:Int) (R:List Tok):clausesP (g+20) (k+2) cs (⟨0,kWhen,0,o1⟩::⟨2,[120],0,o2⟩::R)=.bad o2:=by kernel_rfl
theorem x2 (g k:Nat) (cs:List ClS) (o1 o2 o3 o4 o5 o6:Int) (R:List Tok):clausesP (g+20) (k+2) cs (⟨0,kWhen,0,o1⟩::⟨1,[],1,o2⟩::⟨0,kThen,0,o3⟩::⟨0,kShow,0,o4⟩::⟨2,[],0,o5⟩::⟨0,kDefault,0,o6⟩::R)=.ok (cs++[⟨.mk 0 1 [] o2 [],0,[]⟩]) (⟨0,kDefault,0,o6⟩::R):=by kernel_rfl
theorem x3 (g k:Nat) (cs:List ClS) (o1 o2 p q o3 o4 o5 o6:Int) (R:List Tok):clausesP (g+20) (k+2) cs (⟨0,kWhen,0,o1⟩::⟨0,kTrue,0,o2⟩::⟨3,[60],0,p⟩::⟨1,[],1,q⟩::⟨0,kThen,0,o3⟩::⟨0,kShow,0,o4⟩::⟨2,[],0,o5⟩::⟨0,kDefault,0,o6⟩::R)=.ok (cs++[⟨.mk 13 0 [] o2 [.mk 1 1 [] o2 [],.mk 0 1 [] q []],0,[]⟩]) (⟨0,kDefault,0,o6⟩::R):=by kernel_rfl
theorem x4 (g k:Nat) (cs:List ClS) (o1 o2 p q o3:Int) (R:List Tok):clausesP (g+20) (k+2) cs (⟨0,kWhen,0,o1⟩::⟨1,[],1,o2⟩::⟨3,[60],0,p⟩::⟨1,[],2,q⟩::⟨3,[60],0,o3⟩::R)=.bad o3:=by kernel_rfl
theorem x5 (g k:Nat) (cs:List ClS) (o1 o2 p q o3 o4 o5 o6:Int) (R:List Tok):clausesP (g+20) (k+2) cs (⟨0,kWhen,0,o1⟩::⟨0,kZzz,0,o2⟩::⟨3,[40],0,p⟩::⟨3,[41],0,q⟩::⟨0,kThen,0,o3⟩::⟨0,kShow,0,o4⟩::⟨2,[],0,o5⟩::⟨0,kDefault,0,o6⟩::R)=.ok (cs++[⟨.mk 20 0 kZzz o2 [],0,[]⟩]) (⟨0,kDefault,0,o6⟩::R):=by kernel_rfl
theorem y0 (g k L k':Nat) (cs:List ClS) (a:Int) (E:Tok):clausesP (g+20) (k+2) cs (tkO L (.t (tW kWhen)::.s 32::(xM 0++xP))++(tkO k' (xD a)++[E]))=.ok (cs++[⟨.mk 2 0 kZzz ((L+5:Nat):Int) [],0,[]⟩]) (tkO k' (xD a)++[E]):=x0 g k cs _ _ _ _ _ _ _
theorem y1 (g k L k':Nat) (cs:List ClS) (a:Int) (E:Tok):clausesP (g+20) (k+2) cs (tkO L (.t (tW kWhen)::.s 32::(xM 1++xP))++(tkO k' (xD a)++[E]))=.bad ((L+5:Nat):Int):=x1 g k cs _ _ _
theorem y2 (g k L k':Nat) (cs:List ClS) (a:Int) (E:Tok):clausesP (g+20) (k+2) cs (tkO L (.t (tW kWhen)::.s 32::(xM 2++xP))++(tkO k' (xD a)++[E]))=.ok (cs++[⟨.mk 0 1 [] ((L+5:Nat):Int) [],0,[]⟩]) (tkO k' (xD a)++[E]):=x2 g k cs _ _ _ _ _ _ _
theorem y3 (g k L k':Nat) (cs:List ClS) (a:Int) (E:Tok):clausesP (g+20) (k+2) cs (tkO L (.t (tW kWhen)::.s 32::(xM 3++xP))++(tkO k' (xD a)++[E]))=.ok (cs++[⟨.mk 13 0 [] ((L+5:Nat):Int) [.mk 1 1 [] ((L+5:Nat):Int) [],.mk 0 1 [] ((L+12:Nat):Int) []],0,[]⟩]) (tkO k' (xD a)++[E]):=x3 g k cs _ _ _ _ _ _ _ _ _
theorem y4 (g k L k':Nat) (cs:List ClS) (a:Int) (E:Tok):clausesP (g+20) (k+2) cs (tkO L (.t (tW kWhen)::.s 32::(xM 4++xP))++(tkO k' (xD a)++[E]))=.bad ((L+11:Nat):Int):=by
 have w1:(wr (tI 1)).length=1:=by kernel_rfl
 have w2:(wr (tI 2)).length=1:=by kernel_rfl
 unfold xM;simp only[List.cons_append,List.nil_append,tkO,w1,w2];exact x4 g k cs _ _ _ _ _ _
theorem y5 (g k L k':Nat) (cs:List ClS) (a:Int) (E:Tok):clausesP (g+20) (k+2) cs (tkO L (.t (tW kWhen)::.s 32::(xM 5++xP))++(tkO k' (xD a)++[E]))=.ok (cs++[⟨.mk 20 0 kZzz ((L+5:Nat):Int) [],0,[]⟩]) (tkO k' (xD a)++[E]):=x5 g k cs _ _ _ _ _ _ _ _ _
end Go.Proofs.YtdlkcjkjnehnkaaGreatDoor
