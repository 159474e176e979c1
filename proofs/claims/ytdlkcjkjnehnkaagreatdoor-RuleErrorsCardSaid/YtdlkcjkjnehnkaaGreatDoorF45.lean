import Derived.Test.YtdlkcjkjnehnkaaGreatDoorF43
import Derived.Test.YtdlkcjkjnehnkaaGreatDoorF44
namespace Go.Proofs.YtdlkcjkjnehnkaaGreatDoor
open Go Go.Lib
open Go.ChangeShapes Go.WideShapes Go.ChangeAt Go.RowKit Go.Lib
open Go.RowKit
open Go
open _root_.Go.Proofs.Tryz
set_option linter.all false
set_option maxRecDepth 100000
set_option maxHeartbeats 32000000
theorem bs_append (a b:List UInt8):bs a++bs b=bs (a++b):=by
 apply ByteArray.ext;simp[bs]
def TokR (w:World) (A:Option Addr) (ts:List Tok):Prop:=
 ∀ (i:Nat) (t:Tok),ts[i]?=some t→∃ g o,A=some ⟨g,o,none⟩∧g<w.heap.size∧w.cell? ⟨g,o+i*4,none⟩=some (.int .i64 t.kind)∧w.cell? ⟨g,o+i*4+1,none⟩=some (.string (bs t.text))∧w.cell? ⟨g,o+i*4+2,none⟩=some (.int .i64 t.n)∧w.cell? ⟨g,o+i*4+3,none⟩=some (.int .i64 t.off)
theorem TokR.below {w w':World} {A:Option Addr} {ts:List Tok} (h:TokR w A ts) (hb:Below w.heap.size w w'):TokR w' A ts:=by
 intro i t hi;obtain ⟨g,o,rfl,hg,h0,h1,h2,h3⟩:=h i t hi;exact ⟨g,o,rfl,Nat.lt_of_lt_of_le hg hb.size,by rw[hb.cell (p:=⟨g,_,none⟩) hg,h0],by rw[hb.cell (p:=⟨g,_,none⟩) hg,h1],by rw[hb.cell (p:=⟨g,_,none⟩) hg,h2],by rw[hb.cell (p:=⟨g,_,none⟩) hg,h3]⟩
theorem tokCells_at:∀ (ts:List Tok) (i:Nat) (t:Tok),ts[i]?=some t→(tokCells ts)[i*4]?=some (.int .i64 t.kind)∧(tokCells ts)[i*4+1]?=some (.string (bs t.text))∧(tokCells ts)[i*4+2]?=some (.int .i64 t.n)∧(tokCells ts)[i*4+3]?=some (.int .i64 t.off):=by
 intro ts
 induction ts with
 | nil=>intro i t h; simp at h
 | cons u ts ih=>
  intro i t h
  cases i with
  | zero=>
   simp at h;subst h;simp[tokCells]
  | succ i=>
   have:=ih i t (by simpa using h);rw[show (i+1)*4=i*4+4 by omega];simpa[tokCells,Nat.add_right_comm] using this
theorem TokR.of_own {w:World} {base e:Nat} {a:Option Addr} {c:Nat} {ts:List Tok} (h:w.ownsRow base e 4 (.slice a ts.length c) ts.length (tokCells ts)):TokR w a ts:=by
 intro i t hi;have hlt:i<ts.length:=(List.getElem?_eq_some_iff.1 hi).1
 rcases h.2 with ⟨_,h0⟩ | ⟨g,cap,cur,hv,hg,hh,_⟩
 ·omega
 ·have ha:a=some ⟨g,0,none⟩:=by injection hv
  have hc:∀ j u,(tokCells ts)[j]?=some u→w.cell? ⟨g,j,none⟩=some u:=by
   intro j u hu;have:=World.ownsRow.cells h (g:=g) (by rw[ha]; rfl) j u hu;have hadd:(⟨g,0,none⟩:Addr).add j=⟨g,j,none⟩:=by unfold Addr.add; split <;> simp_all
   rwa [hadd] at this
  obtain ⟨h0,h1,h2,h3⟩:=tokCells_at ts i t hi;refine ⟨g,0,ha,(Array.getElem?_eq_some_iff.1 hh).1,?_,?_,?_,?_⟩
  ·rw[Nat.zero_add]; exact hc _ _ h0
  ·rw[Nat.zero_add]; exact hc _ _ h1
  ·rw[Nat.zero_add]; exact hc _ _ h2
  ·rw[Nat.zero_add]; exact hc _ _ h3
theorem scan_open {R:List Tok × Int × Int} {w w':World} {e:Ending} (h:ScanPost R w e w'):∃ a c,e=.returned (.tuple #[.slice a R.1.length c,.int .i64 R.2.1,.int .i64 R.2.2])∧TokR w' a R.1∧Below w.heap.size w w':=by
 obtain ⟨v,rfl,ho,hb⟩:=h;obtain ⟨a,c,rfl⟩:=Jan ho;exact ⟨a,c,rfl,TokR.of_own ho,hb⟩
end Go.Proofs.YtdlkcjkjnehnkaaGreatDoor
