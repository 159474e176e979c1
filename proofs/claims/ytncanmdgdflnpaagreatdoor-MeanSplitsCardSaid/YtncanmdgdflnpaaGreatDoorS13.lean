
import Derived.Test.YtncanmdgdflnpaaGreatDoorS11
namespace Go.Proofs.YtncanmdgdflnpaaGreatDoor
open Go.ChangeShapes Go.WideShapes Go.ChangeAt Go.RowKit Go.Lib
open _root_.Go.Proofs.Tryz
set_option linter.all false
set_option maxRecDepth 100000
set_option maxHeartbeats 32000000
structure Ih (p:Nat) (A:Option Addr) (C:Nat) (T:List Tok) (f:Nat):Prop where
 expr:∀ k w,PAt w p A C T k→pM f .expr (T.drop k)≠.out→Calls prog 65 #[.pointer (some ⟨p,0,none⟩)] w (NdP p A C T w (pM f .expr (T.drop k)))
 l1:∀ k w,PAt w p A C T k→pM f (.level 1) (T.drop k)≠.out→Calls prog 105 #[.pointer (some ⟨p,0,none⟩),.int .i64 1] w (NdP p A C T w (pM f (.level 1) (T.drop k)))
 l2:∀ k w,PAt w p A C T k→pM f (.level 2) (T.drop k)≠.out→Calls prog 105 #[.pointer (some ⟨p,0,none⟩),.int .i64 2] w (NdP p A C T w (pM f (.level 2) (T.drop k)))
 l3:∀ k w,PAt w p A C T k→pM f (.level 3) (T.drop k)≠.out→Calls prog 105 #[.pointer (some ⟨p,0,none⟩),.int .i64 3] w (NdP p A C T w (pM f (.level 3) (T.drop k)))
 cm:∀ k w,PAt w p A C T k→pM f .cmp (T.drop k)≠.out→Calls prog 129 #[.pointer (some ⟨p,0,none⟩)] w (NdP p A C T w (pM f .cmp (T.drop k)))
 l5:∀ k w,PAt w p A C T k→pM f (.level 5) (T.drop k)≠.out→Calls prog 105 #[.pointer (some ⟨p,0,none⟩),.int .i64 5] w (NdP p A C T w (pM f (.level 5) (T.drop k)))
 l6:∀ k w,PAt w p A C T k→pM f (.level 6) (T.drop k)≠.out→Calls prog 105 #[.pointer (some ⟨p,0,none⟩),.int .i64 6] w (NdP p A C T w (pM f (.level 6) (T.drop k)))
 l7:∀ k w,PAt w p A C T k→pM f (.level 7) (T.drop k)≠.out→Calls prog 105 #[.pointer (some ⟨p,0,none⟩),.int .i64 7] w (NdP p A C T w (pM f (.level 7) (T.drop k)))
 pr:∀ k w,PAt w p A C T k→pM f .prim (T.drop k)≠.out→Calls prog 130 #[.pointer (some ⟨p,0,none⟩)] w (NdP p A C T w (pM f .prim (T.drop k)))
 nm:∀ k w,PAt w p A C T k→pM f .named (T.drop k)≠.out→Calls prog 148 #[.pointer (some ⟨p,0,none⟩)] w (NdP p A C T w (pM f .named (T.drop k)))
theorem pM_0 (md:Md) (r:List Tok):pM 0 md r=.out:=by unfold pM; rfl
theorem Jbn (p:Nat) (A:Option Addr) (C:Nat) (T:List Tok) (hx:∀ t∈T,t.text.length≤1000000):∀ n f,f≤n→f≤100000000→Ih p A C T f
 | 0,f,hn,_=>by
  obtain rfl:f=0:=by omega
  exact ⟨fun k w _ h=>absurd (pM_0 _ _) h,fun k w _ h=>absurd (pM_0 _ _) h,fun k w _ h=>absurd (pM_0 _ _) h,fun k w _ h=>absurd (pM_0 _ _) h,fun k w _ h=>absurd (pM_0 _ _) h,fun k w _ h=>absurd (pM_0 _ _) h,fun k w _ h=>absurd (pM_0 _ _) h,fun k w _ h=>absurd (pM_0 _ _) h,fun k w _ h=>absurd (pM_0 _ _) h,fun k w _ h=>absurd (pM_0 _ _) h⟩
 | n+1,f,hn,hf=>by
  cases f with
  | zero=>exact Jbn p A C T hx n 0 (Nat.zero_le _) (Nat.zero_le _)
  | succ f=>
   have H:∀ g,g≤f→Ih p A C T g:=fun g hg=>Jbn p A C T hx n g (by omega) (by omega)
   have h0:=H f (Nat.le_refl _);exact ⟨JfQ f p A C T hx h0.expr h0.l1,Jhv f p A C T (fun g hg=>(H g hg).l2),Jhw f p A C T (fun g hg=>(H g hg).l3),Jht f p A C T h0.l3 h0.cm,Jhz f p A C T h0.l5,Jhx f p A C T (fun g hg=>(H g hg).l6),Jhy f p A C T (fun g hg=>(H g hg).l7),Jhu f p A C T h0.l7 h0.pr,JfN f p A C T h0.expr h0.nm,JdQ f p A C T (by omega) hx (fun g hg=>(H g hg).expr)⟩
theorem JfR (p:Nat) (A:Option Addr) (C:Nat) (T:List Tok) (hx:∀ t∈T,t.text.length≤1000000) (f:Nat) (hf:f≤100000000):∀ k w,PAt w p A C T k→pM f .expr (T.drop k)≠.out→Calls prog 65 #[.pointer (some ⟨p,0,none⟩)] w (NdP p A C T w (pM f .expr (T.drop k))):=(Jbn p A C T hx f f (Nat.le_refl _) hf).expr
end Go.Proofs.YtncanmdgdflnpaaGreatDoor
