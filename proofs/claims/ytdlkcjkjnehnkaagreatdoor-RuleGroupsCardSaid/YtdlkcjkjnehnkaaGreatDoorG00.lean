import Derived.Below
import Derived.Deep.RegionHeld
import Derived.Lib.Hide
namespace Go.Proofs.YtdlkcjkjnehnkaaGreatDoor
theorem ZA {α:Type} (l:List α) (i:Nat) (a:α):l.toArray.setIfInBounds i a=(l.set i a).toArray:=List.setIfInBounds_toArray l i a
theorem ZB {α:Type} (b:α) (x:α) (l:List α):(x::l).set 0 b=b::l:=rfl
theorem ZC {α:Type} (b:α) (x:α) (l:List α) (n:Nat):(x::l).set (n+1) b=x::l.set n b:=rfl
theorem ZD {α:Type} (l:List α) (i:Nat):l.toArray[i]?=l[i]?:=List.getElem?_toArray
theorem ZE {α:Type} (x:α) (l:List α) (n:Nat):(x::l)[n+1]?=l[n]?:=rfl
theorem ZF {α:Type} (x:α) (l:List α):(x::l)[0]?=some x:=rfl
section
open Go
variable {P:Program} {md:Region.Mode} {ops:Array Oper} {Q:Exit→Act→World→Prop} {S:World→Prop}
theorem ZT {i:Nat} {d:Option Tmp} {o:Op} {t:TypeId} {p:String} {af:Array Edge} {g:Option (Nat × Bool)} {v:Value} {fuel:Nat} {listed:Array Bool} {a:Act} {w:World} (hi:ops[i]?=some ⟨d,o,t,p,af,g⟩) (hy:YieldsIf P ops S ⟨d,o,t,p,af,g⟩ v a)
  (h:wpAnyH P md ops Q S fuel (listed.setIfInBounds i true) (a.put d v) w) (hS:S w:=by assumption)
  (hs:Region.noSelect ops=true:=by kernel_rfl) (hf:Region.free md ops listed i=true:=by kernel_rfl) (hr:(Region.ready md ops listed).contains i=true:=by kernel_rfl)
  (hQ:∀ c a w,Q (.panic c) (a.put d v) w→Q (.panic c) a w:=by exact fun _ _ _ h=>h):wpAnyH P md ops Q S (fuel+1) listed a w:=wpAnyH_take hi hs hf hr hQ hy hS h
theorem ZR {rs:List Nat} {fuel:Nat} {listed:Array Bool} {a:Act} {w:World} (h:AllReadyH P md ops Q S fuel listed a w rs) (hr:Region.ready md ops listed=rs:=by kernel_rfl) (hne:rs≠[]:=by simp):wpAnyH P md ops Q S (fuel+1) listed a w:=wpAnyH_ready hr hne h
theorem ZS (i:Nat) {d:Option Tmp} {o:Op} {t:TypeId} {p:String} {af:Array Edge} {g:Option (Nat × Bool)} {fuel:Nat} {listed:Array Bool} {a:Act} {w:World} (ho:ops[i]?=some ⟨d,o,t,p,af,g⟩)
  (h:∀ K':Act→World→Prop,Shut (∀ a w,S w→(S w→wpAnyH P md ops Q S fuel (listed.setIfInBounds i true) a w)→K' a w)→if Region.wanted ⟨d,o,t,p,af,g⟩ (yielded ops a.tmps)=true then Oper.wp P ⟨d,o,t,p,af,g⟩ a w K' Q else K' (a.put d undef) w)
  (hr:Region.ready md ops listed=[i]:=by kernel_rfl):wpAnyH P md ops Q S (fuel+1) listed a w:=wpAnyH_ready hr (by simp) (AllReadyH.cons ho h AllReadyH.nil)
theorem Zt {α:Type} {a:Option α} {b c:α} (h:a=some b) (e:b=c:=by kernel_rfl):a=some c:=by rw[h,e]
theorem ZyQ {P:Prop} (h:P:=by intro wX hSw; (try dsimp only at hSw); go_simp <;> with_reducible rfl):P:=h
theorem Zh {p:Prop} (h:p):Go.RowKit.Hid p:=h
end
open Go in
theorem zzl {n:Nat}:n≤n:=Nat.le_refl n
open Go in
theorem zzb {B:Nat} {w:World}:Go.RowKit.Below B w w:=Go.RowKit.Below.refl B w
open Go in
theorem zzq {α:Type} [BEq α] [LawfulBEq α] {a b:α} (h:a≠b):(a==b)=false:=beq_eq_false_iff_ne.2 h
open Go in
theorem zzw (w:World) (o:Obj):(w.alloc o).heap[w.heap.size]?=some o:=Go.heap_alloc_new w o
end Go.Proofs.YtdlkcjkjnehnkaaGreatDoor
