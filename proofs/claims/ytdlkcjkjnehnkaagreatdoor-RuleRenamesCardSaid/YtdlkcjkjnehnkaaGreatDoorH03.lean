import Derived.Laws.AppendOwn
import Derived.Lib.Builder
import Derived.Lib.AppendStr
import Derived.Lib.UnsafeStr
import Derived.Lib.OthersKept
import Derived.Laws.Externs
import GoSem.Op.String
import Derived.Test.YtdlkcjkjnehnkaaGreatDoorH02
open List(length_append)
open Nat(le_trans)
namespace Go.Proofs.YtdlkcjkjnehnkaaGreatDoor
open Go.ChangeShapes Go.WideShapes Go.ChangeAt Go.RowKit Go.Lib
open _root_.Go.Proofs.Tryz
set_option linter.all false
set_option maxRecDepth 100000
set_option maxHeartbeats 32000000
def Qan:List Tok->List Value
 |[]=>[]
 |t::l=>[.int .i64 t.kind,.string (bs t.text),.int .i64 t.n,.int .i64 t.off]++Qan l
theorem Vc(a b:List Tok):Qan (a++b)=Qan a++Qan b:=by
 induction a with
 |nil=>rfl
 |cons t a ih=>simp[Qan,ih]
def QfP.prep(us:List Tok):QfP->QfP
 |.ok ts=>.ok (us++ts)
 |.err k=>.err k
theorem Jht(s:QfP):s.prep []=s:=by cases s<;>rfl
theorem JeZ(us:List Tok)(t:Tok)(s:QfP):(s.push t).prep us=s.prep (us++[t]):=by cases s<;>simp[QfP.push,QfP.prep]
def QaA(l:List UInt8):List Tok × Int × Int:=
 if 4096<l.length then ([],7,0) else match sc 0 l with
  |.ok ts=>(ts,0,0)
  |.err k=>([],2,(k:Nat))
def Qcu(R:List Tok × Int × Int)(w:World)(e:Ending)(w':World):Prop:=
 ∃ v,e=.returned (.tuple #[v,.int .i64 R.2.1,.int .i64 R.2.2])/\w'.ownsRow w.heap.size 46 4 v R.1.length (Qan R.1)/\Below w.heap.size w w'
theorem Jan{w:World}{base e size n:Nat}{v:Value}{xs:List Value}(h:w.ownsRow base e size v n xs):∃ a c,v=.slice a n c:=by
 rcases h.2 with⟨rfl,rfl⟩|⟨g,cap,cur,rfl,_⟩
 ·exact⟨_,_,rfl⟩
 ·exact⟨_,_,rfl⟩
theorem JjC{w:World}{base g n:Nat}{e t:Nat}{size:Nat}{v:Value}{xs:List Value}{cs:Array Value}{fr:Nat × Nat}(h:w.ownsRow base e size v n xs)(hg:w.heap[g]?=some (.cells cs t fr))(hne:e≠t):v.ownBlock≠some g:=by
 rcases h.2 with⟨rfl,_⟩|⟨g',cap,cur,rfl,_,hh,_⟩
 ·simp[Value.ownBlock]
 ·intro he;have:g'=g:=by simpa[Value.ownBlock] using he
  subst this;rw[hh]at hg;injection hg with hg;injection hg with _ ht;exact hne ht
theorem ZL{w w':World}{base n e size:Nat}{v:Value}{xs:List Value}(h:w.ownsRow base e size v n xs)(hb:Below w.heap.size w w'):w'.ownsRow base e size v n xs:=by
 refine⟨h.1,?_⟩
 rcases h.2 with⟨rfl,rfl⟩|⟨g,cap,cur,rfl,hg,hh,q⟩
 ·exact .inl ⟨rfl,rfl⟩
 ·exact .inr ⟨g,cap,cur,rfl,hg,(hb.block g (Array.getElem?_eq_some_iff.1 hh).1).trans hh,q⟩
theorem Qmh{P:Prop}(h:P:=by
  have hadd:(⟨w.heap.size,0,none⟩:Addr).add j=⟨w.heap.size,j,none⟩:=by unfold Addr.add;split<;>simp_all
  rw[hadd]
  exact cell_of_row _ _ _ _ _ (0,0) (zzw w _)):P:=h
theorem Jao(w:World)(cs:Array Value)(e:TypeId)(j:Nat):(w.alloc (.cells cs e)).cell? ((⟨w.heap.size,0,none⟩:Addr).add j)=cs[j]?:=by
 exact Qmh
theorem JaT{w:World}{base e size n:Nat}{v:Value}{xs:List Value}(h:w.ownsRow base e size v n xs):∀ k,v.ownBlock=some k->base<=k:=by
 intro k hk;exact(World.ownsRow.lt h k hk).1
theorem ZI(w:World)(o:Obj)(cs:Array Value)(e:TypeId)(j:Nat):((w.alloc o).alloc (.cells cs e)).cell? ((⟨w.heap.size+1,0,none⟩:Addr).add j)=cs[j]?:=by
 have hadd:(⟨w.heap.size+1,0,none⟩:Addr).add j=⟨w.heap.size+1,j,none⟩:=by unfold Addr.add;split<;>simp_all
 rw[hadd];exact cell_of_row _ _ _ _ _ (0,0) (heap_alloc2_new w _ _)
theorem Jef{c:UInt8}{r:List UInt8}{t:Tok}{n:Nat}(p:Nat)(w:World)(hC:QdD w p)(hp:p<w.heap.size)(hl:(c::r).length<=281474976710655)(hL:Laid w)(h:QaU (c::r)=some (t,n)) :
  Calls prog 35 #[.pointer (some ⟨p,0,none⟩),.string (bs (c::r))] w (fun e w'=>e=.returned (.tuple #[.agg #[.int .i64 t.kind,.string (bs t.text),.int .i64 t.n,.int .i64 0],.int .i64 n,.bool true])/\Below w.heap.size w w'):=by
 have hf:=(JaQ h).2.2.2.2.2;refine(JaS c r p w hC hp hl hL).mono ?_;rintro e w' ⟨⟨u,m,rfl,hu⟩,hb⟩;obtain⟨rfl,rfl⟩:=hu t n h;refine⟨?_,hb⟩;rw[h];simp only[Qld,hf];rfl
theorem Jeg{c:UInt8}{r:List UInt8}(p:Nat)(w:World)(hC:QdD w p)(hp:p<w.heap.size)(hl:(c::r).length<=281474976710655)(hL:Laid w)(h:QaU (c::r)=none) :
  Calls prog 35 #[.pointer (some ⟨p,0,none⟩),.string (bs (c::r))] w (fun e w'=>∃ (a b d m:Int) (x:ByteArray),e=.returned (.tuple #[.agg #[.int .i64 a,.string x,.int .i64 b,.int .i64 d],.int .i64 m,.bool false])/\Below w.heap.size w w'):=by
 refine(JaS c r p w hC hp hl hL).mono ?_;rintro e w' ⟨⟨u,m,rfl,hu⟩,hb⟩;refine⟨u.kind,u.n,u.off,m,bs u.text,?_,hb⟩;rw[h];rfl
theorem Jfa(l:List UInt8)(w:World)(h:4096<l.length)(hl:l.length<=281474976710655):Calls prog 15 #[.string (bs l)] w (Qcu (QaA l) w):=by
 have HR:Hid (QaA l=([],7,0)):=by unfold Hid QaA;rw[if_pos h]
 have hs:=JF l;have d1:decide (4096<(l.length:Int))=true:=decide_eq_true (by omega);clear h;go_enter func15,ntmps15;go_wp2;go_ret3;rw[HR.out];exact⟨_,rfl,World.ownsRow_nil _ _ _ _,Below.refl _ _⟩
theorem Qir:(prog.info? 46).map (fun i=>(i.zero,i.size,i.bytes))=some (some (.agg #[.int .i64 0,.string ⟨#[]⟩,.int .i64 0,.int .i64 0]),4,40):=by kernel_rfl
theorem Jhu(l:List UInt8)(w:World)(h:l.length<=4096)(hL:Laid w):Calls prog 15 #[.string (bs l)] w (Qcu (QaA l) w):=by
 have HR:Hid (QaA l=match sc 0 l with|.ok ts=>(ts,0,0)|.err k=>([],2,(k:Nat))):=by unfold Hid QaA;rw[if_neg (by omega)]
 have hs:=JF l;have d1:decide (4096<(l.length:Int))=false:=decide_eq_false (by omega);obtain⟨i0,hi,hz0,hz1,hz2⟩:=info_parts Qir;go_enter func15,ntmps15;go_wp2_with fail;refine(JbX w).mono ?_;rintro e w1 ⟨rfl,hb1⟩;have g0:(w1.alloc (.cells Tryz.zeroCells71 71)).heap[w1.heap.size]?=some (.cells (tab zf) 71 (0,0)):=by rw[zzw,Jal]
 have G0:=Zh g0;clear g0;go_wp2_with (refine wpList_store_row rfl 71 (.tmp 5) (.tmp 14) rfl w1.heap.size (tab QbO) rfl rfl 71 (tab zf) G0.out (by rw[Km];exact QfI) (by rw[Km,Km]) (JeU _) ?_);obtain⟨B,hBz⟩:∃ B,w1.heap.size=B:=⟨_,rfl⟩
 have hbW:Below w.heap.size w ((w1.alloc (.cells Tryz.zeroCells71 71)).setRow w1.heap.size (tab QbO)):=below_setRow (hb1.alloc hb1.size _) hb1.size _;have gB:((w1.alloc (.cells Tryz.zeroCells71 71)).setRow w1.heap.size (tab QbO)).heap[B]?=some (.cells (tab QbO) 71 (0,0)):=by rw[<- hBz];exact setRow_heap _ _ (tab zf) _ _ _ G0.out
 have hBw:w.heap.size<=B:=by rw[<- hBz];exact hb1.size
 generalize (w1.alloc (.cells Tryz.zeroCells71 71)).setRow w1.heap.size (tab QbO)=W2 at *;rw[hBz];clear hBz G0 hb1;go_loopw [6,7] (fun v6 v7 wr=>∃ (us:List Tok) (k:Nat),k<=l.length/\v7=.int .i64 k/\us.length<=k/\wr.ownsRow w.heap.size 46 4 v6 us.length (Qan us)/\wr.heap[B]?=some (.cells (tab QbO) 71 (0,0))/\Below w.heap.size w wr/\Hid (sc 0 l=(sc k (l.drop k)).prep us)) (fun _ v7 _=>l.length-(intOf v7).toNat)
 case atStart=>exact⟨[],0,by omega,rfl,by simp,World.ownsRow_nil _ _ _ _,gB,hbW,by unfold Hid;rw[Jht];rfl⟩
 case round=>
  obtain⟨us,k,hk,rfl,huk,hown,gB,hbr,HS⟩:=hrel;have hc0:=fun (j:Nat)=>cell_of_row wr B j _ _ _ gB
  obtain⟨va,vc,rfl⟩:=Jan hown
  by_cases hlt:k<l.length
  ·have hg:=Jjz l hlt;have hx:l[k].toNat<256:=l[k].toNat_lt;have hcell:=hc0 l[k].toNat;rw[V8 _ hx]at hcell;clear hc0;have HD:=Zh (List.drop_eq_getElem_cons hlt);obtain⟨c,hce⟩:∃ c,l[k]=c:=⟨_,rfl⟩
   rw[hce]at HD hg hcell hx
   cases hsp:Qcp c with
   |true=>
    have hc1:=JiV.1 hsp;rw[hc1]at hcell;have H:Hid (sc 0 l=(sc (k+1) (l.drop (k+1))).prep us):=by unfold Hid;rw[HS.out,HD.out,Jhr k _ hsp]
    have HO:=Zh hown;have HB:=Zh gB;clear hc1 hce HS hown gB;generalize c.toNat=x at *;go_wp2;go_roundw
    case rel=>exact⟨us,k+1,by omega,by go_num,by omega,HO.out,HB.out,hbr,H⟩
    case measure=>simp[intOf];omega
   |false=>
    have hc1:((QbO c.toNat:Nat):Int)≠1:=fun h=>by
     have h':QbO c.toNat=1:=by omega
     rw[JiV.2 h']at hsp;cases hsp
    have e1:(((QbO c.toNat:Nat):Int)==1)=false:=zzq hc1;have hex:(bs l).extract k l.length=bs (c::l.drop (k+1)):=by rw[KY,List.take_of_length_le (by simp),HD.out]
    have hdl:(c::l.drop (k+1)).length<=4096:=by simp;omega
    have hCl:QdD wr B:=fun i hi=>by rw[cell_of_row _ _ _ _ _ _ gB,V8 _ hi]
    have hBr:=(Array.getElem?_eq_some_iff.1 gB).1
    cases ht:QaU (c::l.drop (k+1)) with
    |none=>
     have cT:=Jeg B wr hCl hBr (by omega) (hL.below hbr) ht;have H:Hid (QaA l=([],2,((k:Nat):Int))):=by unfold Hid;rw[HR.out,HS.out,HD.out,JbW k _ hsp ht];rfl
     clear hc1 hce HS hown gB hCl;generalize QbO c.toNat=cn at *;generalize c.toNat=x at *;go_wp2_with fail;refine(Calls.mono cT ?_);rintro e w3 ⟨fa,fb,fd,fm,fx,rfl,hb3⟩;have hbx:=hbr.trans (hb3.mono hbr.size);clear hb3 cT;go_wp2_with fail;go_ret3;rw[H.out];exact⟨_,rfl,World.ownsRow_nil _ _ _ _,hbx.alloc hbx.size _⟩
    |some q=>
     obtain⟨t,n⟩:=q;have hw:=JaP ht;have cT:=Jef B wr hCl hBr (by omega) (hL.below hbr) ht
     have H:Hid (sc 0 l=(sc (k+n) (l.drop (k+n))).prep (us++[{ t with off:=(k:Int) }])):=by
      unfold Hid;rw[HS.out,HD.out,Jak k _ hsp ht,JeZ,<- HD.out,List.drop_drop]
     have hn:k+n<=l.length:=by
      have h1:=hw.2.2.1;rw[<- HD.out,List.length_drop]at h1;omega
     have hn1:=hw.2.1;obtain⟨tk,tt,tn,to⟩:=t;have HO:=Zh hown;have HB:=Zh gB;clear hc1 hce HS hown gB hCl hw ht;generalize QbO c.toNat=cn at *;generalize c.toNat=x at *;go_wp2_with fail;refine(Calls.mono cT ?_);rintro e w3 ⟨rfl,hb3⟩;have hown3:=ZL HO.out hb3;have HB3:=Zh ((hb3.block _ hBr).trans HB.out);have hbx:=hbr.trans (hb3.mono hbr.size);have hBr3:B<w3.heap.size:=Nat.lt_of_lt_of_le hBr hb3.size;clear hb3 cT HO HB;have HO3:=Zh hown3;clear hown3;have hu63:us.length+1<=5000:=by omega
     go_wp2_with (at_builtin;refine wpList_append_own _ rfl _ _ 38 rfl w.heap.size 46 i0 (.agg #[.int .i64 0,.string ⟨#[]⟩,.int .i64 0,.int .i64 0]) 4 40 underlying38 hi hz0 hz1 hz2 rfl (by decide) _ _ _ rfl ((HO3.out.alloc _).alloc _) ⟨w3.heap.size+1,0,none⟩ 1 1 [.int .i64 tk,.string (bs tt),.int .i64 tn,.int .i64 (k:Nat)] rfl rfl ?c1 ?c2 ?c3 ?c4 ?c5 ?_)
     case c1=>
      intro j u hj;rw[ZI];simpa using hj
     case c2=>intro u hu;simp at hu;rcases hu with rfl|rfl|rfl|rfl<;>rfl
     case c3=>unfold maxLen;omega
     case c4=>omega
     case c5=>simp;exact le_trans hbx.size (by omega)
     intro v' w' hown' hgrow _;have hbA:=(hbx.alloc hbx.size (.cells #[.int .i64 tk,.string (bs tt),.int .i64 tn,.int .i64 (k:Nat)] 46)).alloc (by simp;exact le_trans hbx.size (by omega)) (.cells #[.int .i64 tk,.string (bs tt),.int .i64 tn,.int .i64 (k:Nat)] 46);have hsz:=hbA.size;have hbG:=hbA.grown hgrow hsz (JaT HO3.out)
     have hBB:((w3.alloc (.cells #[.int .i64 tk,.string (bs tt),.int .i64 tn,.int .i64 (k:Nat)] 46)).alloc (.cells #[.int .i64 tk,.string (bs tt),.int .i64 tn,.int .i64 (k:Nat)] 46)).heap[B]?=some (.cells (tab QbO) 71 (0,0)):=by
      rw[heap_alloc_old _ _ (by simp;omega),heap_alloc_old _ _ hBr3];exact HB3.out
     have HBB:=Zh ((hgrow.block B (by simp;omega) (fun e=>JjC HO3.out HB3.out (by decide) e.symm)).trans hBB)
     have HOW:Hid (w'.ownsRow w.heap.size 46 4 v' (us++[(⟨tk,tt,tn,(k:Nat)⟩:Tok)]).length (Qan (us++[(⟨tk,tt,tn,(k:Nat)⟩:Tok)]))):=by
      unfold Hid;rw[length_append,Vc];exact hown'
     clear hown' hgrow hbA hsz hBB HO3 HB3;go_wp2;go_roundw
     case rel=>exact⟨us++[(⟨tk,tt,tn,(k:Nat)⟩:Tok)],k+n,by omega,by go_num,by simp;omega,HOW.out,HBB.out,hbG,H⟩
     case measure=>simp[intOf];omega
  ·have hkl:k=l.length:=by omega
   have H:Hid (QaA l=(us++[⟨4,[],0,(l.length:Nat)⟩],0,0)):=by
    unfold Hid;rw[HR.out,HS.out,hkl,List.drop_length,Jdf];rfl
   subst hkl;have HO3:=Zh hown;clear hown gB hc0 HS;have hu63:us.length+1<=5000:=by omega
   go_wp2_with (at_builtin;refine wpList_append_own _ rfl _ _ 38 rfl w.heap.size 46 i0 (.agg #[.int .i64 0,.string ⟨#[]⟩,.int .i64 0,.int .i64 0]) 4 40 underlying38 hi hz0 hz1 hz2 rfl (by decide) _ _ _ rfl (HO3.out.alloc _) ⟨wr.heap.size,0,none⟩ 1 1 [.int .i64 4,.string ⟨#[]⟩,.int .i64 0,.int .i64 (l.length:Nat)] rfl rfl ?d1 ?d2 ?d3 ?d4 ?d5 ?_)
   case d1=>
    intro j u hj;rw[Jao];simpa using hj
   case d2=>intro u hu;simp at hu;rcases hu with rfl|rfl|rfl|rfl<;>rfl
   case d3=>unfold maxLen;omega
   case d4=>omega
   case d5=>simp;exact le_trans hbr.size (by omega)
   intro v' w' hown' hgrow _;have hbA:=hbr.alloc hbr.size (.cells #[.int .i64 4,.string ⟨#[]⟩,.int .i64 0,.int .i64 (l.length:Nat)] 46);have hbG:=hbA.grown hgrow hbA.size (JaT HO3.out)
   have HOW:Hid (w'.ownsRow w.heap.size 46 4 v' (us++[(⟨4,[],0,(l.length:Nat)⟩:Tok)]).length (Qan (us++[(⟨4,[],0,(l.length:Nat)⟩:Tok)]))):=by
    unfold Hid;rw[length_append,Vc];exact hown'
   clear hown' hgrow hbA HO3;go_wp2_with fail;go_ret3;rw[H.out];exact⟨_,rfl,HOW.out,hbG⟩
theorem Jdh(l:List UInt8)(w:World)(hl:l.length<=281474976710655)(hL:Laid w):Calls prog 15 #[.string (bs l)] w (Qcu (QaA l) w):=by
 by_cases h:4096<l.length
 ·exact Jfa l w h hl
 ·exact Jhu l w (by omega) hL
open Go Go.ChangeShapes Go.WideShapes Go.ChangeAt Go.RowKit
open Go.Lib (OthersKept)
def WrP(B b:Nat)(fv p:Value)(l:List UInt8)(W:World):Prop:=
 B<=b/\∃ v,W.heap[b]?=some (.cells #[p,v,fv] 66 (0,0))/\W.ownsRow B 5 1 v l.length (Lib.byteCells l)/\v.ownBlock≠some b
def WrI(B b:Nat)(fv:Value)(l:List UInt8)(W:World):Prop:=WrP B b fv (.pointer none) l W\/WrP B b fv (.pointer (some ⟨b,0,none⟩)) l W
section
variable {B b:Nat} {fv p:Value} {l:List UInt8} {W W':World}
theorem WrP.cell0(h:WrP B b fv p l W):W.cell? ⟨b,0,none⟩=some p:=by obtain⟨_,v,hb,_⟩:=h;rw[Ja hb];rfl
theorem WrP.shape(h:WrP B b fv p l W):W.shape? b=some (66,3):=by obtain⟨_,v,hb,_⟩:=h;simp[World.shape?,hb]
theorem WrP.frozen0(h:WrP B b fv p l W):W.frozen? ⟨b,0,none⟩=false:=by obtain⟨_,v,hb,_⟩:=h;exact Jc hb 0
theorem WrP.used(h:WrP B b fv p l W)(q:Value):WrP B b fv q l (W.setCell ⟨b,0,none⟩ q):=by
 obtain⟨hB,v,hb,hown,hne⟩:=h;refine⟨hB,v,J3 hb 0 q,?_,hne⟩;exact hown.kept (row:=some b) ⟨rfl,rfl,rfl,by simp[World.setCell],fun k _ hk=>Below.heap_setCell _ _ _ _ (fun e=>hk (by simp[e]))⟩ (Or.inr hne)
theorem WrI.some(h:WrI B b fv l W):∃ p,WrP B b fv p l W:=by rcases h with h|h<;>exact⟨_,h⟩
theorem WrI.lt(h:WrI B b fv l W):b<W.heap.size:=by obtain⟨_,_,v,hb,_⟩:=h.some;exact Jb hb
theorem WrI.funcs(h:WrI B b fv l W):W.cell? ⟨b,2,none⟩=Option.some fv:=by obtain⟨_,_,v,hb,_⟩:=h.some;rw[Ja hb];rfl
theorem WrP.up(h:WrP B b fv p l W)(hb:Below W.heap.size W W'):WrP B b fv p l W':=by
 obtain⟨hB,v,hz,hown,hne⟩:=h;exact⟨hB,v,(hb.block _ (Jb hz)).trans hz,ZL hown hb,hne⟩
theorem WrI.up(h:WrI B b fv l W)(hb:Below W.heap.size W W'):WrI B b fv l W':=h.imp (fun h=>h.up hb) (fun h=>h.up hb)
end
theorem QgZ:∃ i,prog.info? 5=some i/\i.zero=some (.int .u8 0)/\i.size=1/\i.bytes=1:=⟨_,rfl,by kernel_rfl,by kernel_rfl,by kernel_rfl⟩
theorem Jcd(b:Nat)(w:World)(h0:w.cell? ⟨b,0,none⟩=some (.pointer (some ⟨b,0,none⟩))) :
  Calls prog 86 #[.pointer (some ⟨b,0,none⟩)] w fun e w'=>e=.returned (.tuple #[])/\w'=w:=by
 obtain⟨j,hj⟩:∃ j,prog.info? 64=some j:=⟨_,rfl⟩
 go_enter func86,ntmps86;go_wp2;rw[Lib.run_neq_ptr_same w _ underlying61 hj];go_wp2;go_end0;exact⟨rfl,rfl⟩
theorem JaU(b:Nat)(w:World)(h0:w.cell? ⟨b,0,none⟩=some (.pointer none))(hsh:w.shape? b=some (66,3))(hfz:w.frozen? ⟨b,0,none⟩=false) :
  Calls prog 86 #[.pointer (some ⟨b,0,none⟩)] w fun e w'=>e=.returned (.tuple #[])/\w'=w.setCell ⟨b,0,none⟩ (.pointer (some ⟨b,0,none⟩)):=by
 obtain⟨j,hj,hjs⟩:∃ j,prog.info? 64=some j/\j.size=2:=⟨_,rfl,by kernel_rfl⟩
 go_enter func86,ntmps86;go_wp2;rw[Lib.run_to_unsafe w ⟨b,0,none⟩ underlying61 underlying164 hj (by rw[hjs];decide) hsh (Nat.zero_lt_succ 2)];simp only[Result.andThen];rw[Oper.upon_value];go_wp2;rw[run_callFunc_extern func108 (by kernel_rfl) (by kernel_rfl) (by kernel_rfl) (e:=Extern.AbiNoEscape.same) (by kernel_rfl)];rw[Lib.run_noEscape];simp only[Result.andThen];rw[Oper.upon_value];go_wp2;rw[Lib.run_from_unsafe w ⟨b,0,none⟩ underlying164 underlying61 hj hsh (by kernel_rfl)];simp only[Result.andThen];rw[Oper.upon_value];go_wp2;go_end0;exact⟨rfl,rfl⟩
theorem Jeh(B b:Nat)(fv:Value)(l:List UInt8)(w:World)(h:WrI B b fv l w) :
  Calls prog 86 #[.pointer (some ⟨b,0,none⟩)] w fun e w'=>e=.returned (.tuple #[])/\WrP B b fv (.pointer (some ⟨b,0,none⟩)) l w'/\Below B w w'/\OthersKept 5 (some b) w w':=by
 rcases h with h|h
 ·refine(JaU b w h.cell0 h.shape h.frozen0).mono ?_;rintro e w' ⟨rfl,rfl⟩;exact⟨rfl,h.used _,(Below.refl B w).setCell (p:=⟨b,0,none⟩) h.1 _,(OthersKept.refl _ _ _).setCell (p:=⟨b,0,none⟩) rfl _⟩
 ·refine(Jcd b w h.cell0).mono ?_;rintro e w' ⟨rfl,rfl⟩;exact⟨rfl,h,Below.refl B _,OthersKept.refl _ _ _⟩
structure WS(B b:Nat)(fv:Value)(l s:List UInt8)(W W':World):Prop where
 wr:WrI B b fv (l++s) W'
 bel:Below B W W'
 oth:OthersKept 5 (some b) W W'
theorem WS.trans{B b:Nat}{fv:Value}{l s t:List UInt8}{W W1 W2:World}(h:WS B b fv l s W W1)(k:WS B b fv (l++s) t W1 W2):WS B b fv l (s++t) W W2:=
 ⟨by rw[<- List.append_assoc];exact k.wr,h.bel.trans k.bel,h.oth.trans k.oth⟩
theorem WS.nil{B b:Nat}{fv:Value}{l:List UInt8}{W:World}(h:WrI B b fv l W):WS B b fv l [] W W:=⟨by rw[List.append_nil];exact h,Below.refl _ _,OthersKept.refl _ _ _⟩
def WP(B b:Nat)(fv:Value)(l s:List UInt8)(W:World)(e:Ending)(W':World):Prop:=e=.returned (.tuple #[])/\WS B b fv l s W W'
theorem Jap(a b:List UInt8):Lib.byteCells (a++b)=Lib.byteCells a++Lib.byteCells b:=by simp[Lib.byteCells]
theorem Jce(s:List UInt8):Lib.strCells (bs s)=Lib.byteCells s:=by
 unfold Lib.strCells Lib.byteCells;rw[show (bs s).data.toList=s by simp[bs]]
theorem Jcf(B b:Nat)(fv:Value)(l s:List UInt8)(w:World)(h:WrI B b fv l w)(hlen:l.length+s.length<=140737488355328)(hBw:B<=w.heap.size) :
  Calls prog 57 #[.pointer (some ⟨b,0,none⟩),.string (bs s)] w fun e w'=>e=.returned (.tuple #[.int .i64 s.length,.nilIface])/\WS B b fv l s w w':=by
 obtain⟨i0,hi,hz0,hz1,hz2⟩:=QgZ;have hsz:=JF s;have hcs:=Jce s;go_enter func57,ntmps57;go_wp2_with fail;refine(Jeh B b fv l _ h).mono ?_;rintro e w1 ⟨rfl,h1,hb1,ho1⟩;obtain⟨hB,v,hbk,hown,hne⟩:=h1;have c0:w1.cell? ⟨b,0,none⟩=some (.pointer (some ⟨b,0,none⟩)):=by rw[Ja hbk];rfl
 have c1:w1.cell? ⟨b,1,none⟩=some v:=by rw[Ja hbk];rfl
 go_wp2_with (at_builtin;refine Lib.wpList_append_own_string _ rfl _ _ 62 9 rfl B 5 i0 underlying62 underlying9 hi hz0 hz1 hz2 _ _ _ rfl hown (bs s) rfl ?c3 ?c4 ?c5 ?_)
 case c3=>rw[hsz];unfold maxLen;omega
 case c4=>rw[hsz];omega
 case c5=>have:=hb1.size;omega
 intro v' w2 hown' hgrow _;have hlt:b<w1.heap.size:=Jb hbk
 have hb2:w2.heap[b]?=some (.cells #[.pointer (some ⟨b,0,none⟩),v,fv] 66 (0,0)):=by
  rw[hgrow.block b hlt (fun e=>hne e.symm)];exact hbk
 have d0:w2.cell? ⟨b,0,none⟩=some (.pointer (some ⟨b,0,none⟩)):=by rw[Ja hb2];rfl
 have d1:w2.cell? ⟨b,1,none⟩=some v:=by rw[Ja hb2];rfl
 have f1:w2.frozen? ⟨b,1,none⟩=false:=Jc hb2 1
 have hrow:∀ g,v.ownBlock=some g->∃ c fz,w1.heap[g]?=some (.cells c 5 fz):=by
  intro g hg
  rcases hown.2 with⟨rfl,_⟩|⟨g',cap,cur,rfl,_,hc,_⟩
  ·cases hg
  ·simp only[Value.ownBlock,Option.some.injEq]at hg;subst hg;exact⟨_,_,hc⟩
 obtain⟨ao,n',cap,rfl⟩:∃ ao n' cap,v'=.slice ao n' cap:=by
  rcases hown'.2 with⟨hv,_⟩|⟨g,cap,cur,hv,_⟩
  ·exact⟨_,_,_,hv⟩
  ·exact⟨_,_,_,hv⟩
 go_wp2;go_ret2
 have hw3:WrP B b fv (.pointer (some ⟨b,0,none⟩)) (l++s) (w2.setCell ⟨b,1,none⟩ (.slice ao n' cap)):=by
  have hne':(Value.slice ao n' cap).ownBlock≠some b:=by
   intro hg
   rcases hown'.2 with⟨hv,_⟩|⟨g,cap,cur,hv,_,hc,_⟩
   ·rw[hv]at hg;cases hg
   ·rw[hv]at hg;simp only[Value.ownBlock,Option.some.injEq]at hg;subst hg;rw[hb2]at hc;injection hc with hc;injection hc with _ hc _;exact absurd hc (by decide)
  refine⟨hB,_,J3 hb2 1 _,?_,hne'⟩;rw[Jap,length_append];exact hown'.kept (row:=some b) ⟨rfl,rfl,rfl,by simp[World.setCell],fun k _ hk=>Below.heap_setCell _ _ _ _ (fun e=>hk (by simp[e]))⟩ (Or.inr hne')
 refine⟨?_,.inr hw3,?_,?_⟩
 ·rfl
 ·exact(hb1.grown hgrow (by have:=hb1.size;omega) (fun k hk=>(hown.lt k hk).1)).setCell (p:=⟨b,1,none⟩) hB _
 ·exact(ho1.grown hgrow hrow).setCell (p:=⟨b,1,none⟩) rfl _
def Qhu(W:World)(sb:Nat)(L:List (List UInt8)):Prop:=∃ cs fr,W.heap[sb]?=some (.cells cs 9 fr)/\∀ (i:Nat) (s:List UInt8),L[i]?=some s->cs[i]?=some (Value.string (bs s))
theorem Qhu.kept{W W':World}{sb b:Nat}{L:List (List UInt8)}(h:Qhu W sb L)(ho:OthersKept 5 (some b) W W')(hn:sb≠b):Qhu W' sb L:=by
 obtain⟨cs,fr,h1,h2⟩:=h;exact⟨cs,fr,ho _ _ h1 (fun e=>hn (Option.some.inj e)) (fun c fz e=>by injection e with _ e _;exact absurd e (by decide)),h2⟩
theorem Qhu.get{W:World}{sb:Nat}{L:List (List UInt8)}(h:Qhu W sb L){i:Nat}{s:List UInt8}(hs:L[i]?=some s):W.cell? ⟨sb,i,none⟩=some (.string (bs s)):=by
 obtain⟨cs,fr,h1,h2⟩:=h;rw[Ja h1];exact h2 i s hs
theorem Jcg(B b:Nat)(fv:Value)(l:List UInt8)(sb c:Nat)(L:List (List UInt8))(w:World)(h:WrI B b fv l w)(hL:Qhu w sb L)(hn:sb≠b)(hlen:l.length+L.flatten.length<=140737488355328)(hBw:B<=w.heap.size)(hc:L.length<=100) :
  Calls prog 28 #[.pointer (some ⟨b,0,none⟩),.slice (some ⟨sb,0,none⟩) L.length c] w (WP B b fv l L.flatten w):=by
 obtain⟨n,hn'⟩:∃ n,L.length=n:=⟨_,rfl⟩
 rw[hn'];have HN:=Zh hn';have HC:Hid (n<=100):=by rw[<- hn'];exact hc
 have HT:=Zh hL;have HW:=Zh h;have HL:=Zh hlen;have HB:=Zh hBw;have HNE:=Zh hn;clear h hL hlen hBw hn hn' hc;go_enter func28,ntmps28;have HW0:Hid (WS B b fv l [] w w):=WS.nil HW.out;clear HW;go_wp2_with fail;go_loopg [8] n (fun g v8 wr=>∃ i:Nat,g+i=n/\v8=.int .i64 (i:Int)/\Hid (WS B b fv l (L.take i).flatten w wr))
 case atStart=>exact⟨0,rfl,rfl,HW0⟩
 case round=>
  clear HW0;obtain⟨wl,rfl⟩:∃ wl:World,wl=wr:=⟨_,rfl⟩
  obtain⟨i,hg,rfl,hws⟩:=hrel;have HWS:=Zh hws.out;clear hws
  by_cases hi:i<n
  ·have dil:decide ((i:Int)<(n:Int))=true:=decide_eq_true (by omega);have diN:decide (i<n)=true:=decide_eq_true hi;have k0:0<=(i:Int):=by omega
   have k1:(i:Int)<(n:Int):=by omega
   obtain⟨s,hs⟩:∃ s,L[i]?=some s:=⟨_,List.getElem?_eq_getElem (by rw[HN.out];exact hi)⟩
   have hcell:=(HT.out.kept HWS.out.oth HNE.out).get hs;have wk:IntKind.i64.wrap ((i:Int)+1)=((i+1:Nat):Int):=by have:=HC.out;rw[IntWalk.i64_in _ (by omega)];omega
   have htk:(L.take (i+1)).flatten=(L.take i).flatten++s:=by
    rw[List.take_add_one,hs,List.flatten_append];simp
   have hfl:(L.take i).flatten.length+s.length<=L.flatten.length:=by
    have e:L.flatten=(L.take (i+1)).flatten++(L.drop (i+1)).flatten:=by rw[<- List.flatten_append,List.take_append_drop]
    rw[e,htk];simp
   have cw:=Jcf B b fv (l++(L.take i).flatten) s wl HWS.out.wr (by have:=HL.out;simp only[length_append];omega) (le_trans HB.out HWS.out.bel.size);have HTK:=Zh htk;have HG:Hid (gk+i=n/\i<n):=⟨hg,hi⟩
   clear hg hi hs htk hfl;go_wp2_with fail;refine cw.mono ?_;rintro e w3 ⟨rfl,hw3⟩
   have HW3:Hid (WS B b fv l (L.take (i+1)).flatten w w3):=by
    have:=HWS.out.trans hw3;rw[HTK.out];exact this
   clear cw hw3 hcell;go_wp2;go_roundg (n-(i+1))
   case measure=>have:=HG.out;omega
   case rel=>exact⟨i+1,by have:=HG.out;omega,rfl,HW3⟩
  ·have dil:decide ((i:Int)<(n:Int))=false:=decide_eq_false (by omega);have diN:decide (i<n)=false:=decide_eq_false hi
   have HE:Hid (WS B b fv l L.flatten w wl):=by
    have:=HWS.out;rw[List.take_of_length_le (by rw[HN.out];omega)]at this;exact this
   clear hi hg;go_wp2;go_end0;exact⟨rfl,HE.out⟩
inductive Nd where
 |mk (kind n:Int) (name:List UInt8) (off:Int) (kids:List Nd)
inductive Exp where
 |mk (kind n:Int) (name:List UInt8) (kids:List Exp)
structure FnM where
 name:List UInt8
 params:List Int
 result:Int
 body:Exp
structure ClM where
 cond:Exp
 action:Int
 reason:List UInt8
structure Qaq where
 funcs:List FnM
 clauses:List ClM
 action:Int
def Qag:Qaq:=⟨[],[],0⟩
def Nd.kind:Nd->Int|.mk k _ _ _ _=>k
def Nd.num:Nd->Int|.mk _ n _ _ _=>n
def Nd.name:Nd->List UInt8|.mk _ _ s _ _=>s
def Nd.off:Nd->Int|.mk _ _ _ o _=>o
def Nd.kids:Nd->List Nd|.mk _ _ _ _ l=>l
def Exp.kind:Exp->Int|.mk k _ _ _=>k
def Exp.num:Exp->Int|.mk _ n _ _=>n
def Exp.name:Exp->List UInt8|.mk _ _ s _=>s
def Exp.kids:Exp->List Exp|.mk _ _ _ l=>l
def QgU:List UInt8:=[97,110,100]
def Qdk:List UInt8:=[98,111,111,108]
def QdX:List UInt8:=[100,101,102]
def Qaj:List UInt8:=[100,101,102,97,117,108,116]
def QdP:List UInt8:=[101,108,115,101]
def QbA:List UInt8:=[102,97,108,115,101]
def Qdj:List UInt8:=[104,105,100,101]
def kIf:List UInt8:=[105,102]
def kIn:List UInt8:=[105,110]
def Qgg:List UInt8:=[105,110,116]
def QbW:List UInt8:=[108,97,98,101,108]
def QeN:List UInt8:=[108,101,116]
def Qcg:List UInt8:=[108,105,109,105,116]
def QbV:List UInt8:=[109,101,100,105,97]
def Qfn:List UInt8:=[110,111,116]
def kOr:List UInt8:=[111,114]
def Qcx:List UInt8:=[115,104,111,119]
def QbJ:List UInt8:=[116,104,101,110]
def Qcf:List UInt8:=[116,114,117,101]
def QaR:List UInt8:=[119,104,101,110]
def QcX:List UInt8:=[119,111,114,100]
def Qhh:List UInt8:=[108,105,107,101,115]
def Qfs:List UInt8:=[98,111,111,115,116,115]
def Qev:List UInt8:=[114,101,112,108,105,101,115]
def Qeu:List UInt8:=[114,101,112,111,114,116,115]
def Qls:List UInt8:=[97,103,101]
def Qja:List UInt8:=[104,111,109,101]
def Qhf:List UInt8:=[115,99,111,112,101]
def Qfr:List UInt8:=[108,101,110,103,116,104]
def Qew:List UInt8:=[102,111,108,108,111,119,115]
def Qhg:List UInt8:=[114,101,112,108,121]
def Qam(s:List UInt8):Bool:=decide (s∈[QgU,Qdk,QdX,Qaj,QdP,QbA,Qdj,kIf,kIn,Qgg,QbW,QeN,Qcg,QbV,Qfn,kOr,Qcx,QbJ,Qcf,QaR,QcX])
def QaD(s:List UInt8):Option Int:=
 if s∈[Qhh,Qfs,Qev,Qeu,Qls,Qja,Qhf,Qfr] then some 0 else if s∈[Qew,Qhg] then some 1 else none
def Qar(s:List UInt8):Bool:=
 match s with
 |[]=>false
 |c::r=>decide (s.length<=24)&&Qci c&&(c::r).all QbB&&(QaD s).isNone&&!Qam s
def QcN(s:List UInt8):Bool:=s.all (fun c=>decide (32<=c.toNat)&&decide (c.toNat<=126)&&c !=34&&c !=92)&&decide (s.length<=24)
def QbQ(n:Nat):List UInt8:=if n=0 then Qcx else if n=1 then QbV else if n=2 then Qcg else Qdj
inductive PR(α:Type) where
 |out
 |bad (off:Int)
 |ok (a:α) (r:List Tok)
def QdS:Tok:=⟨4,[],0,0⟩
def hd(r:List Tok):Tok:=r.headD QdS
def acc(k:Int)(s:List UInt8)(r:List Tok):Option (List Tok):=if (hd r).kind=k/\(hd r).text=s then some r.tail else none
def Qaf(k:Int)(s:List UInt8)(r:List Tok):PR Unit:=match acc k s r with|some r'=>.ok () r'|none=>.bad (hd r).off
def PR.bind{α β:Type}(x:PR α)(f:α->List Tok->PR β):PR β:=match x with|.out=>.out|.bad o=>.bad o|.ok a r=>f a r
def Qau(r:List Tok):PR (List UInt8 × Int):=if (hd r).kind=0/\Qar (hd r).text=true then .ok ((hd r).text,(hd r).off) r.tail else .bad (hd r).off
def Qbp(r:List Tok):PR (List UInt8):=if (hd r).kind=2 then .ok (hd r).text r.tail else .bad (hd r).off
def Qav(r:List Tok):PR (List UInt8):=(Qaf 3 [40] r).bind fun _ r1=>(Qbp r1).bind fun s r2=>(Qaf 3 [41] r2).bind fun _ r3=>.ok s r3
def opK(lv:Nat)(t:Tok):Option Int:=
 if t.kind=0/\lv=1/\t.text=kOr then some 17
 else if t.kind=0/\lv=2/\t.text=QgU then some 16
 else if t.kind≠3 then none
 else if lv=5/\t.text=[43] then some 8
 else if lv=5/\t.text=[45] then some 9
 else if lv=6/\t.text=[42] then some 10
 else if lv=6/\t.text=[47] then some 11
 else if lv=6/\t.text=[37] then some 12
 else none
def QcS(t:Tok):Option Int:=
 if t.kind≠3 then none
 else if t.text=[61,61]\/t.text=[33,61] then some 15
 else if t.text=[60]\/t.text=[62] then some 13
 else if t.text=[60,61]\/t.text=[62,61] then some 14
 else none
def Qdn(t:Tok)(k:Int)(a b:Nd):Nd:=
 if t.text=[62]\/t.text=[62,61] then .mk k 0 [] a.off [b,a]
 else if t.text=[33,61] then .mk 7 0 [] a.off [.mk k 0 [] a.off [a,b]]
 else .mk k 0 [] a.off [a,b]
inductive Md where
 |expr
 |level (lv:Nat)
 |loop (lv:Nat) (off:Int) (a:Nd)
 |cmp
 |prim
 |named
 |args (name:List UInt8) (off:Int) (l:List Nd)
def pM:Nat->Md->List Tok->PR Nd
 |0,_,_=>.out
 |f+1,.expr,r=>
  match acc 0 QeN r with
  |some r1=>(Qau r1).bind fun nm r2=>(Qaf 3 [61] r2).bind fun _ r3=>(pM f .expr r3).bind fun v r4=>(Qaf 0 kIn r4).bind fun _ r5=>(pM f .expr r5).bind fun b r6=>.ok (.mk 19 0 nm.1 (hd r).off [v,b]) r6
  |none=>
   match acc 0 kIf r with
   |some r1=>(pM f .expr r1).bind fun c r2=>(Qaf 0 QbJ r2).bind fun _ r3=>(pM f .expr r3).bind fun y r4=>(Qaf 0 QdP r4).bind fun _ r5=>(pM f .expr r5).bind fun z r6=>.ok (.mk 18 0 [] (hd r).off [c,y,z]) r6
   |none=>pM f (.level 1) r
 |f+1,.level lv,r=>
  if lv=3 then
   match acc 0 Qfn r with
   |some r1=>(pM f (.level 3) r1).bind fun a r2=>.ok (.mk 7 0 [] (hd r).off [a]) r2
   |none=>pM f .cmp r
  else if lv=7 then
   match acc 3 [45] r with
   |some r1=>(pM f (.level 7) r1).bind fun a r2=>.ok (.mk 6 0 [] (hd r).off [a]) r2
   |none=>pM f .prim r
  else (pM f (.level (lv+1)) r).bind fun a r1=>pM f (.loop lv (hd r).off a) r1
 |f+1,.loop lv o a,r=>
  match opK lv (hd r) with
  |none=>.ok a r
  |some k=>(pM f (.level (lv+1)) r.tail).bind fun b r1=>pM f (.loop lv o (.mk k 0 [] o [a,b])) r1
 |f+1,.cmp,r=>
  (pM f (.level 5) r).bind fun a r1=>
   match QcS (hd r1) with
   |none=>.ok a r1
   |some k=>(pM f (.level 5) r1.tail).bind fun b r2=>.ok (Qdn (hd r1) k a b) r2
 |f+1,.prim,r=>
  if (hd r).kind=1 then .ok (.mk 0 (hd r).n [] (hd r).off []) r.tail
  else match acc 3 [40] r with
  |some r1=>(pM f .expr r1).bind fun n r2=>(Qaf 3 [41] r2).bind fun _ r3=>.ok (.mk n.kind n.num n.name (hd r).off n.kids) r3
  |none=>
   match acc 0 QbA r with
   |some r1=>.ok (.mk 1 0 [] (hd r).off []) r1
   |none=>
    match acc 0 Qcf r with
    |some r1=>.ok (.mk 1 1 [] (hd r).off []) r1
    |none=>
     match acc 0 QbW r with
     |some r1=>(Qav r1).bind fun s r2=>.ok (.mk 4 0 s (hd r).off []) r2
     |none=>
      match acc 0 QcX r with
      |some r1=>(Qav r1).bind fun s r2=>.ok (.mk 5 0 s (hd r).off []) r2
      |none=>if (QaD (hd r).text).isSome/\(hd r).kind=0 then .ok (.mk 3 0 (hd r).text (hd r).off []) r.tail else pM f .named r
 |f+1,.named,r=>
  (Qau r).bind fun nm r1=>
   match acc 3 [40] r1 with
   |none=>.ok (.mk 2 0 nm.1 nm.2 []) r1
   |some r2=>
    match acc 3 [41] r2 with
    |some r3=>.ok (.mk 20 0 nm.1 nm.2 []) r3
    |none=>pM f (.args nm.1 nm.2 []) r2
 |f+1,.args nm o l,r=>
  (pM f .expr r).bind fun a r1=>
   match acc 3 [44] r1 with
   |some r2=>pM f (.args nm o (l++[a])) r2
   |none=>(Qaf 3 [41] r1).bind fun _ r2=>.ok (.mk 20 0 nm o (l++[a])) r2
structure FnS where
 name:List UInt8 × Int
 params:List (List UInt8 × Int)
 types:List Int
 result:Int
 body:Nd
structure ClS where
 cond:Nd
 action:Int
 reason:List UInt8
structure Src where
 funcs:List FnS
 clauses:List ClS
 action:Int
def QcB(r:List Tok):PR Int:=match acc 0 Qgg r with|some r1=>.ok 0 r1|none=>match acc 0 Qdk r with|some r1=>.ok 1 r1|none=>.bad (hd r).off
def Qcj(r:List Tok):PR Int:=
 match acc 0 Qcx r with
 |some r1=>.ok 0 r1
 |none=>match acc 0 QbV r with
  |some r1=>.ok 1 r1
  |none=>match acc 0 Qcg r with
   |some r1=>.ok 2 r1
   |none=>match acc 0 Qdj r with
    |some r1=>.ok 3 r1
    |none=>.bad (hd r).off
def Qak:Nat->List (List UInt8 × Int)->List Int->List Tok->PR (List (List UInt8 × Int) × List Int)
 |0,_,_,_=>.out
 |f+1,ps,ts,r=>(Qau r).bind fun nm r1=>(Qaf 3 [58] r1).bind fun _ r2=>(QcB r2).bind fun t r3=>
  match acc 3 [44] r3 with
  |some r4=>Qak f (ps++[nm]) (ts++[t]) r4
  |none=>(Qaf 3 [41] r3).bind fun _ r4=>.ok (ps++[nm],ts++[t]) r4
def Qdb(f:Nat)(r:List Tok):PR FnS:=
 (Qau r).bind fun nm r1=>(Qaf 3 [40] r1).bind fun _ r2=>
  (match acc 3 [41] r2 with
   |some r3=>PR.ok ([],[]) r3
   |none=>Qak f [] [] r2).bind fun pt r3=>(Qaf 3 [58] r3).bind fun _ r4=>(QcB r4).bind fun t r5=>(Qaf 3 [61] r5).bind fun _ r6=>(pM f .expr r6).bind fun b r7=>.ok ⟨nm,pt.1,pt.2,t,b⟩ r7
def Qbc(g:Nat):Nat->List FnS->List Tok->PR (List FnS)
 |0,_,_=>.out
 |f+1,l,r=>match acc 0 QdX r with|some r1=>(Qdb g r1).bind fun x r2=>Qbc g f (l++[x]) r2|none=>.ok l r
def Qad(g:Nat):Nat->List ClS->List Tok->PR (List ClS)
 |0,_,_=>.out
 |f+1,l,r=>match acc 0 QaR r with
  |some r1=>(pM g .expr r1).bind fun c r2=>(Qaf 0 QbJ r2).bind fun _ r3=>(Qcj r3).bind fun a r4=>(Qbp r4).bind fun s r5=>Qad g f (l++[⟨c,a,s⟩]) r5
  |none=>.ok l r
def QcO(f:Nat)(r:List Tok):PR Src:=
 (Qbc f f [] r).bind fun fs r1=>(Qad f f [] r1).bind fun cs r2=>(Qaf 0 Qaj r2).bind fun _ r3=>(Qcj r3).bind fun a r4=>if (hd r4).kind=4 then .ok ⟨fs,cs,a⟩ r4 else .bad (hd r4).off
mutual
def QaC:Nd->Nat
 |.mk _ _ _ _ l=>Qbs l+1
def Qbs:List Nd->Nat
 |[]=>0
 |a::l=>max (QaC a) (Qbs l)
end
def Src.roots(s:Src):List Nd:=s.funcs.map (·.body)++s.clauses.map (·.cond)
def Qbd(s:Src):Option Int:=(s.roots.find? (fun n=>decide (40<QaC n))).map Nd.off
def QaG:List Int->Option Int
 |[]=>none
 |a::l=>some (match QaG l with|none=>a|some b=>min a b)
def QaQ(vars:List (List UInt8))(s:List UInt8):Int:=
 (vars.foldl (fun (p:Int × Int) v=>(p.1+1,if v=s then p.1 else p.2)) (0,-1)).2
def Qai(fs:List (List UInt8))(s:List UInt8):Option Nat:=fs.findIdx? (fun v=>decide (v=s))
mutual
def Qcl(fs:List (List UInt8)):List (List UInt8)->Nd->Nd × List Int
 |vars,.mk k n s o l=>
  if k=2 then
   let r:=QbE fs vars l
   (.mk k (QaQ vars s) [] o r.1,(if QaQ vars s<0 then [o] else [])++r.2)
  else if k=20 then
   let r:=QbE fs vars l
   (.mk k ((Qai fs s).getD 0) [] o r.1,(if (Qai fs s).isNone then [o] else [])++r.2)
  else if k=19 then
   match l with
   |[a,b]=>
    let x:=Qcl fs vars a
    let y:=Qcl fs (vars++[s]) b
    (.mk k vars.length [] o [x.1,y.1],x.2++y.2)
   |l=>(.mk k n s o l,[])
  else
   let r:=QbE fs vars l
   (.mk k n s o r.1,r.2)
def QbE(fs:List (List UInt8)):List (List UInt8)->List Nd->List Nd × List Int
 |_,[]=>([],[])
 |vars,a::l=>let x:=Qcl fs vars a;let y:=QbE fs vars l;(x.1::y.1,x.2++y.2)
end
def Qcr:List (List UInt8 × Int)->List (List UInt8)->List Int
 |[],_=>[]
 |(s,o)::l,seen=>(if s∈seen then [o] else [])++Qcr l (seen++[s])
def resF(fs:List (List UInt8))(f:FnS):FnS × List Int:=
 let b:=Qcl fs (f.params.map (·.1)) f.body
 ({ f with body:=b.1 },Qcr f.params []++b.2)
def resC(fs:List (List UInt8))(c:ClS):ClS × List Int:=
 let b:=Qcl fs [] c.cond
 ({ c with cond:=b.1 },b.2)
def Qac(s:Src):Src × List Int:=
 let fs:=s.funcs.map (·.name.1)
 let a:=s.funcs.map (resF fs)
 let b:=s.clauses.map (resC fs)
 (⟨a.map (·.1),b.map (·.1),s.action⟩,Qcr (s.funcs.map (·.name)) []++(a.map (·.2)).flatten++(b.map (·.2)).flatten)
structure Qbn where
 params:List Int
 result:Int
mutual
def ofN(fs:List Qbn):List Int->Nd->Int × List Int
 |vars,.mk k n s o l=>
  if k=1\/k=5 then (1,[])
  else if k=2 then (vars.getD n.toNat 0,[])
  else if k=3 then ((QaD s).getD 0,[])
  else if k=6\/(8<=k/\k<=12) then (0,Qbt fs vars 0 l)
  else if k=13\/k=14 then (1,Qbt fs vars 0 l)
  else if k=15 then
   match l with
   |[a,b]=>let x:=ofN fs vars a;let y:=ofN fs vars b;(1,x.2++y.2++if y.1≠x.1 then [b.off] else [])
   |_=>(1,[])
  else if k=7\/k=16\/k=17 then (1,Qbt fs vars 1 l)
  else if k=18 then
   match l with
   |[c,a,b]=>let z:=ofN fs vars c;let x:=ofN fs vars a;let y:=ofN fs vars b;(x.1,z.2++(if z.1≠1 then [c.off] else [])++x.2++y.2++if y.1≠x.1 then [b.off] else [])
   |_=>(0,[])
  else if k=19 then
   match l with
   |[a,b]=>let x:=ofN fs vars a;let y:=ofN fs (vars++[x.1]) b;(y.1,x.2++y.2)
   |_=>(0,[])
  else if k=20 then
   let f:=fs.getD n.toNat ⟨[],0⟩
   (f.result,(if l.length≠f.params.length then [o] else [])++Qdo fs vars (l.length==f.params.length) f.params l)
  else (0,[])
def Qbt(fs:List Qbn):List Int->Int->List Nd->List Int
 |_,_,[]=>[]
 |vars,t,a::l=>let x:=ofN fs vars a;x.2++(if x.1≠t then [a.off] else [])++Qbt fs vars t l
def Qdo(fs:List Qbn):List Int->Bool->List Int->List Nd->List Int
 |_,_,_,[]=>[]
 |vars,b,ps,a::l=>let x:=ofN fs vars a;x.2++(if b=true/\x.1≠ps.headD 0 then [a.off] else [])++Qdo fs vars b ps.tail l
end
def QcP(fs:List Qbn)(vars:List Int)(t:Int)(a:Nd):List Int:=let x:=ofN fs vars a;x.2++if x.1≠t then [a.off] else []
def QaY(s:Src):List Int:=
 let fs:=s.funcs.map fun f=>(⟨f.types,f.result⟩:Qbn)
 (s.funcs.map fun f=>QcP fs f.types f.result f.body).flatten++(s.clauses.map fun c=>QcP fs [] 1 c.cond).flatten
mutual
def Qab:Nd->Exp
 |.mk k n s _ l=>.mk k n s (QaJ l)
def QaJ:List Nd->List Exp
 |[]=>[]
 |a::l=>Qab a::QaJ l
end
def QaN(s:Src):Qaq:=⟨s.funcs.map fun f=>⟨f.name.1,f.types,f.result,Qab f.body⟩,s.clauses.map fun c=>⟨Qab c.cond,c.action,c.reason⟩,s.action⟩
def QaW(f:Nat)(l:List Tok):Option (Qaq × Int × Int):=
 match QcO f l with
 |.out=>none
 |.bad o=>some (Qag,2,o)
 |.ok s _=>
  match Qbd s with
  |some o=>some (Qag,7,o)
  |none=>
   match QaG (Qac s).2 with
   |some o=>some (Qag,16,o)
   |none=>
    match QaG (QaY (Qac s).1) with
    |some o=>some (Qag,15,o)
    |none=>some (QaN (Qac s).1,0,0)
open Go Go.Lib
mutual
def utN:Exp->Nd
 |.mk k n s l=>.mk k n s 0 (utL l)
def utL:List Exp->List Nd
 |[]=>[]
 |a::l=>utN a::utL l
end
def Qal(nf vars:Nat)(k n:Int)(s:List UInt8):Bool:=
 (if k=0 then decide (0<=n)&&decide (n<=1125899906842624)
  else if k=1 then n==0||n==1
  else if k=2 then decide (0<=n)&&decide (n<(vars:Int))
  else if k=19 then n==(vars:Int)
  else if k=20 then decide (0<=n)&&decide (n<(nf:Int))
  else n==0) &&
 (if k=3 then (QaD s).isSome else if k=4\/k=5 then QcN s else s==[])&&decide (0<=k)&&decide (k<21)
def QbG(pa:List Nat)(k n:Int):Nat:=
 if k=0\/k=1\/k=2\/k=3\/k=4\/k=5 then 0
 else if k=6\/k=7 then 1
 else if k=18 then 3
 else if k=20 then pa.getD n.toNat 0
 else 2
mutual
def Qbi(pa:List Nat):Nat->Nat->Exp->Bool
 |vars,QaC,.mk k n s l=>decide (1<=QaC)&&Qal pa.length vars k n s&&l.length==QbG pa k n&&Qbl pa vars (QaC-1) k 0 l
def Qbl(pa:List Nat):Nat->Nat->Int->Nat->List Exp->Bool
 |_,_,_,_,[]=>true
 |vars,QaC,k,i,a::l=>Qbi pa (if k=19/\i=1 then vars+1 else vars) QaC a&&Qbl pa vars QaC k (i+1) l
end
def Qaq.pa(r:Qaq):List Nat:=r.funcs.map (·.params.length)
def Qaq.sigs(r:Qaq):List Qbn:=r.funcs.map fun f=>⟨f.params,f.result⟩
def QcC(r:Qaq):Bool:=r.funcs.all (fun f=>Qbi r.pa f.params.length 40 f.body)&&r.clauses.all (fun c=>Qbi r.pa 0 40 c.cond)
def Qdu(r:Qaq):Bool:=r.funcs.all (fun f=>QcP r.sigs f.params f.result (utN f.body)==[])&&r.clauses.all (fun c=>QcP r.sigs [] 1 (utN c.cond)==[])
def Qcb(t:Int):Bool:=t==0||t==1
def QbM:List (List UInt8)->List FnM->Bool
 |_,[]=>true
 |seen,f::l=>Qar f.name&&!decide (f.name∈seen)&&Qcb f.result&&f.params.all Qcb&&QbM (seen++[f.name]) l
def QeU(n:Int):Bool:=decide (0<=n)&&decide (n<=3)
def Qjs(l:List ClM):Bool:=l.all fun c=>QeU c.action&&QcN c.reason
def QcG(r:Qaq):Bool:=QbM [] r.funcs&&Qjs r.clauses&&QeU r.action&&QcC r&&Qdu r
theorem Jlb(fs:List Qbn)(vars:List Int)(k n:Int)(s:List UInt8)(o:Int)(l:List Nd):ofN fs vars (.mk k n s o l) =
  if k=1\/k=5 then (1,[])
  else if k=2 then (vars.getD n.toNat 0,[])
  else if k=3 then ((QaD s).getD 0,[])
  else if k=6\/(8<=k/\k<=12) then (0,Qbt fs vars 0 l)
  else if k=13\/k=14 then (1,Qbt fs vars 0 l)
  else if k=15 then
   match l with
   |[a,b]=>let x:=ofN fs vars a;let y:=ofN fs vars b;(1,x.2++y.2++if y.1≠x.1 then [b.off] else [])
   |_=>(1,[])
  else if k=7\/k=16\/k=17 then (1,Qbt fs vars 1 l)
  else if k=18 then
   match l with
   |[c,a,b]=>let z:=ofN fs vars c;let x:=ofN fs vars a;let y:=ofN fs vars b;(x.1,z.2++(if z.1≠1 then [c.off] else [])++x.2++y.2++if y.1≠x.1 then [b.off] else [])
   |_=>(0,[])
  else if k=19 then
   match l with
   |[a,b]=>let x:=ofN fs vars a;let y:=ofN fs (vars++[x.1]) b;(y.1,x.2++y.2)
   |_=>(0,[])
  else if k=20 then
   let f:=fs.getD n.toNat ⟨[],0⟩
   (f.result,(if l.length≠f.params.length then [o] else [])++Qdo fs vars (l.length==f.params.length) f.params l)
  else (0,[]):=by
 conv=>lhs;unfold ofN
 try rfl
end Go.Proofs.YtdlkcjkjnehnkaaGreatDoor
