import Derived.Test.YtdlkcjkjnehnkaaGreatDoorH33
open List(append_assoc append_nil flatten_cons flatten_nil length_append length_cons length_nil nil_append)
open Nat(le_trans)
namespace Go.Proofs.YtdlkcjkjnehnkaaGreatDoor
open Go Go.ChangeShapes Go.WideShapes Go.ChangeAt Go.RowKit Go.Lib
open _root_.Go.Proofs.Tryz
set_option linter.all false
set_option maxRecDepth 100000
set_option maxHeartbeats 32000000
inductive WK where
 |const (v:Value)
 |strs (L:List (List UInt8)) (n:Nat)
def WK.rel:WK->Value->(Nat->Prop)->World->Prop
 |.const c,v,_,_=>v=c
 |.strs L n,v,_,w=>∃ q,v=.slice (some ⟨q,0,none⟩) n n/\Qhu w q L
theorem WK.keep(k:WK)(v:Value)(P P':Nat->Prop)(w w':World)(hP:∀ q,P q->q<w.heap.size)(h:k.rel v P w)(hb:Below w.heap.size w w')(hq:∀ q,P q->P' q):k.rel v P' w':=by
 cases k with
 |const c=>exact h
 |strs L n=>obtain⟨q,h1,cs,fr,h2,h3⟩:=h;exact⟨q,h1,cs,fr,(hb.block q (Jb h2)).trans h2,h3⟩
theorem Qbw(B b:Nat)(fv:Value)(l:List UInt8)(L:List (List UInt8))(n c:Nat)(w:World)(h:WrI B b fv l w)(hn:L.length=n)(hlen:l.length+L.flatten.length<=140737488355328)(hBw:B<=w.heap.size)(hc:n<=100) :
  Calls prog 28 #[.pointer (some ⟨b,0,none⟩),.slice (some ⟨w.heap.size,0,none⟩) n c] (w.alloc (.cells (L.map fun x=>Value.string (bs x)).toArray 9)) fun e w'=>e=.returned (.tuple #[])/\WS B b fv l L.flatten w w':=
 QmK B b fv l L _ n c w h (fun i s hi=>by simp[hi]) hn hlen hBw hc
theorem WS.trans0{B b:Nat}{fv:Value}{l t:List UInt8}{W W1 W2:World}(h:WS B b fv l [] W W1)(k:WS B b fv l t W1 W2):WS B b fv l t W W2:=⟨k.wr,h.bel.trans k.bel,h.oth.trans k.oth⟩
theorem WS.pre{B b:Nat}{fv:Value}{l s:List UInt8}{W W1 W2:World}(hb:Below B W W1)(ho:OthersKept 5 (some b) W W1)(k:WS B b fv l s W1 W2):WS B b fv l s W W2:=⟨k.wr,hb.trans k.bel,ho.trans k.oth⟩
def Kd(W:World)(kb off:Nat)(a:Exp)(xa:Option Addr)(xc:Nat):Prop:=
 W.cell? ⟨kb,off,none⟩=some (.int .i64 a.kind)/\W.cell? ⟨kb,off+1,none⟩=some (.int .i64 a.num)/\W.cell? ⟨kb,off+2,none⟩=some (.string (bs a.name))/\W.cell? ⟨kb,off+3,none⟩=some (.slice xa a.kids.length xc)
def Qdz(a:Exp)(xa:Option Addr)(xc:Nat):Array Value:=#[.int .i64 a.kind,.int .i64 a.num,.string (bs a.name),.slice xa a.kids.length xc]
theorem Zs{w0:World}{kb o:Nat}{l:List Exp}(hkb:In w0 kb)(hk:∀ i e,l[i]?=some e->∃ d,XAt w0 (In w0) e d/\∀ j u,d[j]?=some u->w0.cell? ⟨kb,o+i*4+j,none⟩=some u){i:Nat}{a:Exp}(hi:l[i]?=some a) :
  ∃ xa xc,XAt w0 (In w0) a (Qdz a xa xc)/\∀ W,Bel w0 W->Kd W kb (o+i*4) a xa xc:=by
 obtain⟨d,hd,hcell⟩:=hk i a hi;obtain⟨xa,xc,rfl,_⟩:=hd.form;refine⟨xa,xc,hd,fun W hW=>?_⟩;have hm:∀ (p:Addr) (v:Value),p.block=kb->w0.cell? p=some v->W.cell? p=some v:=fun p v hp hc=>(World.cell?_of_block (w:=w0) (hW.block p.block (by rw[hp];exact hkb))).trans hc
 exact⟨hm _ _ rfl (hcell 0 _ rfl),hm _ _ rfl (hcell 1 _ rfl),hm _ _ rfl (hcell 2 _ rfl),hm _ _ rfl (hcell 3 _ rfl)⟩
theorem JgH{w0:World}{k n:Int}{s:List UInt8}{a:Exp}{c:Array Value}(hx:XAt w0 (In w0) (.mk k n s [a]) c):∃ kb o cc xa xc,c=#[.int .i64 k,.int .i64 n,.string (bs s),.slice (some ⟨kb,o,none⟩) 1 cc]/\
  XAt w0 (In w0) a (Qdz a xa xc)/\∀ W,Bel w0 W->Kd W kb o a xa xc:=by
 obtain⟨ad,cc,rfl,_,hK⟩:=hx.kid;obtain⟨kb,o,rfl,hkb,hk⟩:=hK (by simp);obtain⟨xa,xc,h1,h2⟩:=Zs hkb hk (i:=0) (a:=a) rfl;exact⟨kb,o,cc,xa,xc,rfl,h1,fun W hW=>by simpa using h2 W hW⟩
theorem JgI{w0:World}{k n:Int}{s:List UInt8}{a a2:Exp}{c:Array Value}(hx:XAt w0 (In w0) (.mk k n s [a,a2]) c):∃ kb o cc xa xc xa2 xc2,c=#[.int .i64 k,.int .i64 n,.string (bs s),.slice (some ⟨kb,o,none⟩) 2 cc]/\
  (XAt w0 (In w0) a (Qdz a xa xc)/\∀ W,Bel w0 W->Kd W kb o a xa xc)/\(XAt w0 (In w0) a2 (Qdz a2 xa2 xc2)/\∀ W,Bel w0 W->Kd W kb (o+4) a2 xa2 xc2):=by
 obtain⟨ad,cc,rfl,_,hK⟩:=hx.kid;obtain⟨kb,o,rfl,hkb,hk⟩:=hK (by simp);obtain⟨xa,xc,h1,h2⟩:=Zs hkb hk (i:=0) (a:=a) rfl;obtain⟨xa2,xc2,h3,h4⟩:=Zs hkb hk (i:=1) (a:=a2) rfl;exact⟨kb,o,cc,xa,xc,xa2,xc2,rfl,⟨h1,fun W hW=>by simpa using h2 W hW⟩,h3,fun W hW=>by simpa using h4 W hW⟩
theorem JlL{w0:World}{k n:Int}{s:List UInt8}{a a2 a3:Exp}{c:Array Value}(hx:XAt w0 (In w0) (.mk k n s [a,a2,a3]) c):∃ kb o cc xa xc xa2 xc2 xa3 xc3,c=#[.int .i64 k,.int .i64 n,.string (bs s),.slice (some ⟨kb,o,none⟩) 3 cc]/\
  (XAt w0 (In w0) a (Qdz a xa xc)/\∀ W,Bel w0 W->Kd W kb o a xa xc)/\(XAt w0 (In w0) a2 (Qdz a2 xa2 xc2)/\∀ W,Bel w0 W->Kd W kb (o+4) a2 xa2 xc2)/\(XAt w0 (In w0) a3 (Qdz a3 xa3 xc3)/\∀ W,Bel w0 W->Kd W kb (o+8) a3 xa3 xc3):=by
 obtain⟨ad,cc,rfl,_,hK⟩:=hx.kid;obtain⟨kb,o,rfl,hkb,hk⟩:=hK (by simp);obtain⟨xa,xc,h1,h2⟩:=Zs hkb hk (i:=0) (a:=a) rfl;obtain⟨xa2,xc2,h3,h4⟩:=Zs hkb hk (i:=1) (a:=a2) rfl;obtain⟨xa3,xc3,h5,h6⟩:=Zs hkb hk (i:=2) (a:=a3) rfl;exact⟨kb,o,cc,xa,xc,xa2,xc2,xa3,xc3,rfl,⟨h1,fun W hW=>by simpa using h2 W hW⟩,⟨h3,fun W hW=>by simpa using h4 W hW⟩,h5,fun W hW=>by simpa using h6 W hW⟩
section
variable (w0:World) (b:Nat) (fv:Value) (fn:Int->List UInt8)
def QbH(e:Exp):Prop:=∀ (c:Array Value) (l:List UInt8) (W:World),XAt w0 (In w0) e c->Bel w0 W->WrI w0.heap.size b fv l W->l.length+(Qae (iB fn false e)).length<=140737488355328->
 Calls prog 60 #[.pointer (some ⟨b,0,none⟩),.agg c] W (WP w0.heap.size b fv l (Qae (iB fn false e)) W)
def QbC(e:Exp):Prop:=∀ (lv:Nat) (c:Array Value) (l:List UInt8) (W:World),lv<=100->XAt w0 (In w0) e c->Bel w0 W->WrI w0.heap.size b fv l W->l.length+(Qae (iX fn lv e)).length<=140737488355328->
 Calls prog 31 #[.pointer (some ⟨b,0,none⟩),.agg c,.int .i64 lv] W (WP w0.heap.size b fv l (Qae (iX fn lv e)) W)
end
structure BxI(w1:World)(b eb:Nat)(cs:Array Value):Prop where
 heap:w1.heap[eb]?=some (.cells cs 30 (0,0))
 ne:eb≠b
theorem BxI.four{w1 W:World}{b eb:Nat}{a0 a1 a2 a3:Value}(h:BxI w1 b eb #[a0,a1,a2,a3])(ho:OthersKept 5 (some b) w1 W) :
  W.cell? ⟨eb,0,none⟩=some a0/\W.cell? ⟨eb,1,none⟩=some a1/\W.cell? ⟨eb,2,none⟩=some a2/\W.cell? ⟨eb,3,none⟩=some a3:=by
 have h1:=ho _ _ h.heap (fun e=>h.ne (Option.some.inj e)) (fun c fz e=>by injection e with _ e _;exact absurd e (by decide));refine⟨?_,?_,?_,?_⟩<;>(rw[Ja h1];rfl)
theorem Qjw{P:Prop}(h:P:=by
  try simp only[List.flatten_cons,List.flatten_nil,List.append_nil,List.append_assoc,List.nil_append]at hfin
  try simp only[List.flatten_cons,List.flatten_nil,List.append_nil,List.append_assoc,List.nil_append]
  exact hfin):P:=h
theorem QjY{P:Prop}(h:P:=by
  go_wp2
  first
   |go_end0
   |refine bodyPost_ret (results_none rfl _ _ _) rfl ?_
  rw[HTE.out];refine⟨rfl,?_⟩;have hfin:=WS.pre HB0.out HO0.out HS3.out
  exact Qjw):P:=h
theorem Ka{w0:World}{b:Nat}{fv:Value}{fn:Int->List UInt8}{e:Exp}(h:QbH w0 b fv fn e)(h7:e.kind=7->∃ a,e.kids=[a]):QbC w0 b fv fn e:=by
 obtain⟨k,n,s,ks⟩:=e;intro lv c l W hlv hx hbl hw hlen;have HX:=Zh hx;have H7:=Zh h7;obtain⟨ad,cc,rfl,_⟩:=hx.form;have HBE:=Zh h;obtain⟨T,hT⟩:∃ T,Qae (iX fn lv (.mk k n s ks))=T:=⟨_,rfl⟩
 rw[hT]at hlen |-;have HT:=Zh hT;clear hx h h7 hT;simp only[Exp.kind,Exp.num,Exp.name,Exp.kids];have HBX:=Zh (show BxI (W.alloc (.cells #[.int .i64 k,.int .i64 n,.string (bs s),.slice ad ks.length cc] 30)) b W.heap.size _ from⟨zzw _ _,fun e=>by have:=hw.lt;omega⟩);have HB0:=Zh (show Below w0.heap.size W (W.alloc (.cells #[.int .i64 k,.int .i64 n,.string (bs s),.slice ad ks.length cc] 30)) from zzb.alloc hbl.size _);have HO0:=Zh (show OthersKept 5 (some b) W (W.alloc (.cells #[.int .i64 k,.int .i64 n,.string (bs s),.slice ad ks.length cc] 30)) from(OthersKept.refl _ _ _).alloc _);have HS1:=Zh (WS.nil (hw.up (show Below W.heap.size W (W.alloc (.cells #[.int .i64 k,.int .i64 n,.string (bs s),.slice ad ks.length cc] 30)) from zzb.alloc zzl _)));have HBL:=Zh (hbl.trans HB0.out);have HLN:=Zh hlen;clear hw hbl hlen;go_enter func31,ntmps31;go_upto_region 1 with fail;generalize World.alloc W _=w1 at *;generalize W.heap.size=eb at *;obtain⟨b0,b1,b2,b3⟩:=HBX.out.four HS1.out.oth;have cl:=Zp k n s ks _ w1 (HX.out.up HBL.out) (fun hk=>H7.out hk);simp only[Exp.kind,Exp.num,Exp.name,Exp.kids]at cl;go_wp2_with fail;refine cl.mono ?_;rintro e w2 ⟨rfl,hb2⟩;have HS2:Hid (WS w0.heap.size b fv l [] w1 w2):=⟨by have:=HS1.out.wr.up hb2;exact this,hb2.mono (HBL.out.size),fun q o hq _ _=>(hb2.block q (Jb hq)).trans hq⟩
 clear cl hb2 HS1 b0 b1 b2 b3
 by_cases hlt:lvE (.mk k n s ks)<lv
 ·have d1:decide ((lvE (.mk k n s ks):Int)<(lv:Int))=true:=decide_eq_true (by omega);have d1N:decide (lvE (.mk k n s ks)<lv)=true:=decide_eq_true hlt;have HTE:Hid (T=_):=HT.out.symm.trans (JmE fn lv _ hlt);rw[HTE.out]at HLN;clear hlt HT;obtain⟨b0,b1,b2,b3⟩:=HBX.out.four HS2.out.oth;go_wp2_with fail;refine(Qbw w0.heap.size b fv l [[40]] 1 _ _ (by have:=HS2.out.wr;rwa [append_nil]at this) rfl (by have:=HLN.out;(try simp only[length_append,length_cons,length_nil,flatten_cons,flatten_nil,append_nil,nil_append]at this);(try simp only[length_append,length_cons,length_nil,flatten_cons,flatten_nil,append_nil,nil_append]);omega) (le_trans HBL.out.size HS2.out.bel.size) (by decide)).mono ?_;rintro e w3 ⟨rfl,hs⟩;have HS3:Hid (WS w0.heap.size b fv l ([[40]].flatten) w1 w3):=HS2.out.trans0 hs;clear hs HS2 b0 b1 b2 b3;obtain⟨b0,b1,b2,b3⟩:=HBX.out.four HS3.out.oth;have cx:=HBE.out _ (l++([[40]].flatten)) _ HX.out (HBL.out.trans HS3.out.bel) HS3.out.wr (by have:=HLN.out;(try simp only[length_append,length_cons,length_nil,flatten_cons,flatten_nil,append_nil,nil_append]at this);(try simp only[length_append,length_cons,length_nil,flatten_cons,flatten_nil,append_nil,nil_append]);omega);simp only[Exp.kind,Exp.num,Exp.name,Exp.kids]at cx;go_wp2_with fail;refine cx.mono ?_;rintro e w4 ⟨rfl,hs⟩;have HS4:Hid (WS w0.heap.size b fv l (([[40]].flatten++(Qae (iB fn false (.mk k n s ks))))) w1 w4):=HS3.out.trans hs;clear hs HS3 b0 b1 b2 b3 cx;obtain⟨b0,b1,b2,b3⟩:=HBX.out.four HS4.out.oth;go_wp2_with fail;refine(Qbw w0.heap.size b fv (l++(([[40]].flatten++(Qae (iB fn false (.mk k n s ks)))))) [[41]] 1 _ _ HS4.out.wr rfl (by have:=HLN.out;(try simp only[length_append,length_cons,length_nil,flatten_cons,flatten_nil,append_nil,nil_append]at this);(try simp only[length_append,length_cons,length_nil,flatten_cons,flatten_nil,append_nil,nil_append]);omega) (le_trans HBL.out.size HS4.out.bel.size) (by decide)).mono ?_;rintro e w5 ⟨rfl,hs⟩;have HS5:Hid (WS w0.heap.size b fv l ((([[40]].flatten++(Qae (iB fn false (.mk k n s ks))))++[[41]].flatten)) w1 w5):=HS4.out.trans hs;clear hs HS4 b0 b1 b2 b3;go_wp2
  first
   |go_end0
   |refine bodyPost_ret (results_none rfl _ _ _) rfl ?_
  rw[HTE.out];refine⟨rfl,?_⟩;have hfin:=WS.pre HB0.out HO0.out HS5.out;exact Qjw
 ·have d1:decide ((lvE (.mk k n s ks):Int)<(lv:Int))=false:=decide_eq_false (by omega);have d1N:decide (lvE (.mk k n s ks)<lv)=false:=decide_eq_false hlt;have HTE:Hid (T=_):=HT.out.symm.trans (JlJ fn lv _ hlt);rw[HTE.out]at HLN;clear hlt HT;obtain⟨b0,b1,b2,b3⟩:=HBX.out.four HS2.out.oth;have cx:=HBE.out _ l _ HX.out (HBL.out.trans HS2.out.bel) (by have:=HS2.out.wr;rwa [append_nil]at this) (by have:=HLN.out;(try simp only[length_append,length_cons,length_nil,flatten_cons,flatten_nil,append_nil,nil_append]at this);(try simp only[length_append,length_cons,length_nil,flatten_cons,flatten_nil,append_nil,nil_append]);omega);simp only[Exp.kind,Exp.num,Exp.name,Exp.kids]at cx;go_wp2_with fail;refine cx.mono ?_;rintro e w3 ⟨rfl,hs⟩;have HS3:Hid (WS w0.heap.size b fv l ((Qae (iB fn false (.mk k n s ks)))) w1 w3):=HS2.out.trans0 hs;clear hs HS2 b0 b1 b2 b3 cx;exact QjY
theorem ZtZ{w0:World}{b:Nat}{fv:Value}{fn:Int->List UInt8}{a a2:Exp}(h1:QbC w0 b fv fn a)(h2:QbC w0 b fv fn a2)(k n:Int)(s sy:List UInt8)(x y:Nat)(c:Array Value)(l:List UInt8)(W:World)(hxx:x<=100)(hyy:y<=100)(hx:XAt w0 (In w0) (.mk k n s [a,a2]) c)(hbl:Bel w0 W)(hw:WrI w0.heap.size b fv l W)
  (hlen:l.length+(Qae (iX fn x a)++(sy++Qae (iX fn y a2))).length<=140737488355328):Calls prog 88 #[.pointer (some ⟨b,0,none⟩),.agg c,.string (bs sy),.int .i64 x,.int .i64 y] W (WP w0.heap.size b fv l (Qae (iX fn x a)++(sy++Qae (iX fn y a2))) W):=by
 obtain⟨kb,o,cc,xa,xc,xa2,xc2,rfl,⟨g1,g2⟩,g3,g4⟩:=JgI hx;have HX1:=Zh g1;have HK1:=Zh g2;have HX2:=Zh g3;have HK2:=Zh g4;have H1:=Zh h1;have H2:=Zh h2;clear g1 g2 g3 g4 hx h1 h2;have HBX:=Zh (show BxI (W.alloc (.cells #[.int .i64 k,.int .i64 n,.string (bs s),.slice (some ⟨kb,o,none⟩) 2 cc] 30)) b W.heap.size _ from⟨zzw _ _,fun e=>by have:=hw.lt;omega⟩);have HB0:=Zh (show Below w0.heap.size W (W.alloc (.cells #[.int .i64 k,.int .i64 n,.string (bs s),.slice (some ⟨kb,o,none⟩) 2 cc] 30)) from zzb.alloc hbl.size _);have HO0:=Zh (show OthersKept 5 (some b) W (W.alloc (.cells #[.int .i64 k,.int .i64 n,.string (bs s),.slice (some ⟨kb,o,none⟩) 2 cc] 30)) from(OthersKept.refl _ _ _).alloc _);have HS1:=Zh (WS.nil (hw.up (show Below W.heap.size W (W.alloc (.cells #[.int .i64 k,.int .i64 n,.string (bs s),.slice (some ⟨kb,o,none⟩) 2 cc] 30)) from zzb.alloc zzl _)));have HBL:=Zh (hbl.trans HB0.out);have HLN:=Zh hlen;clear hw hbl hlen;go_enter func88,ntmps88;go_upto_region 1 with fail;generalize World.alloc W _=w1 at *;generalize W.heap.size=eb at *;obtain⟨b0,b1,b2,b3⟩:=HBX.out.four HS1.out.oth;obtain⟨k10,k11,k12,k13⟩:=HK1.out _ (HBL.out.trans HS1.out.bel);have cx:=H1.out x _ l _ (by omega) HX1.out (HBL.out.trans HS1.out.bel) (by have:=HS1.out.wr;rwa [append_nil]at this) (by have:=HLN.out;(try simp only[length_append,length_cons,length_nil,flatten_cons,flatten_nil,append_nil,nil_append]at this);(try simp only[length_append,length_cons,length_nil,flatten_cons,flatten_nil,append_nil,nil_append]);omega);unfold Qdz at cx;go_wp2_with fail;refine cx.mono ?_;rintro e w2 ⟨rfl,hs⟩;have HS2:Hid (WS w0.heap.size b fv l (Qae (iX fn x a)) w1 w2):=HS1.out.trans0 hs;clear hs HS1 b0 b1 b2 b3 k10 k11 k12 k13 cx;obtain⟨b0,b1,b2,b3⟩:=HBX.out.four HS2.out.oth;go_wp2_with fail;refine(Qbw w0.heap.size b fv (l++(Qae (iX fn x a))) [sy] 1 _ _ HS2.out.wr rfl (by have:=HLN.out;(try simp only[length_append,length_cons,length_nil,flatten_cons,flatten_nil,append_nil,nil_append]at this);(try simp only[length_append,length_cons,length_nil,flatten_cons,flatten_nil,append_nil,nil_append]);omega) (le_trans HBL.out.size HS2.out.bel.size) (by decide)).mono ?_;rintro e w3 ⟨rfl,hs⟩;have HS3:Hid (WS w0.heap.size b fv l ((Qae (iX fn x a)++[sy].flatten)) w1 w3):=HS2.out.trans hs;clear hs HS2 b0 b1 b2 b3;obtain⟨b0,b1,b2,b3⟩:=HBX.out.four HS3.out.oth;obtain⟨k20,k21,k22,k23⟩:=HK2.out _ (HBL.out.trans HS3.out.bel);have cx:=H2.out y _ (l++((Qae (iX fn x a)++[sy].flatten))) _ (by omega) HX2.out (HBL.out.trans HS3.out.bel) HS3.out.wr (by have:=HLN.out;(try simp only[length_append,length_cons,length_nil,flatten_cons,flatten_nil,append_nil,nil_append]at this);(try simp only[length_append,length_cons,length_nil,flatten_cons,flatten_nil,append_nil,nil_append]);omega);unfold Qdz at cx;go_wp2_with fail;refine cx.mono ?_;rintro e w4 ⟨rfl,hs⟩;have HS4:Hid (WS w0.heap.size b fv l (((Qae (iX fn x a)++[sy].flatten)++Qae (iX fn y a2))) w1 w4):=HS3.out.trans hs;clear hs HS3 b0 b1 b2 b3 k20 k21 k22 k23 cx;go_wp2
 first
  |go_end0
  |refine bodyPost_ret (results_none rfl _ _ _) rfl ?_
 refine⟨rfl,?_⟩;have hfin:=WS.pre HB0.out HO0.out HS4.out;exact Qjw
def QkH(p:Nat->Prop):Nat->Prop
 |0=>True
 |n+1=>QkH p n/\p n
theorem Qft{p:Nat->Prop}:∀ {n:Nat},QkH p n->∀ i,i<n->p i
 |n+1,h,i,hi=>by
  by_cases e:i=n
  ·subst e;exact h.2
  ·exact Qft h.1 i (by omega)
theorem Vs{e:TypeId}{bo:Option Nat}{a w w':World}(h:OthersKept e bo a w)(hb:Below w.heap.size w w'):OthersKept e bo a w':=fun k o hk hn ho=>by
 have h1:=h k o hk hn ho;exact(hb.block k (Jb h1)).trans h1
theorem WS.up{B b:Nat}{fv:Value}{l s:List UInt8}{W W1 W2:World}(h:WS B b fv l s W W1)(hb:Below W1.heap.size W1 W2)(hB:B<=W1.heap.size):WS B b fv l s W W2:=
 ⟨h.wr.up hb,h.bel.trans (hb.mono hB),Vs h.oth hb⟩
theorem JdW(w:World)(L:List (List UInt8)):Qhu (w.alloc (.cells (L.map fun x=>Value.string (bs x)).toArray 9)) w.heap.size L:=
 ⟨_,_,zzw _ _,fun i s hi=>by simp[hi]⟩
theorem Qhu.ne{w:World}{q B b:Nat}{fv:Value}{l:List UInt8}{L:List (List UInt8)}(h:Qhu w q L)(hw:WrI B b fv l w):q≠b:=by
 obtain⟨cs,fr,h1,_⟩:=h;obtain⟨p,_,v,hb,_⟩:=hw.some;rintro rfl;rw[h1]at hb;injection hb with hb;injection hb with _ hb _;exact absurd hb (by decide)
theorem Jjl(fn:Int->List UInt8):∀ (l:List Exp) (a:Exp),Qae (iT fn (l++[a]))=Qae (iT fn l)++([44,32]++Qae (iB fn false a))
 |[],a=>by
  rw[nil_append,iT,iT,iT];simp[Qae,It.bytes,wr,tS]
 |x::l,a=>by
  rw[List.cons_append,iT,iT];have ih:=Jjl fn l a;simp only[Qae,List.flatMap_cons,List.flatMap_append]at ih |-;rw[ih];simp
theorem JdX(fn:Int->List UInt8)(l:List Exp)(a:Exp):Qae (iA fn (l++[a]))=Qae (iA fn l)++((if l=[] then [] else [44,32])++Qae (iB fn false a)):=by
 cases l with
 |nil=>
  rw[nil_append,iA,iA,iT,append_nil,if_pos rfl];rfl
 |cons x l=>
  rw[List.cons_append,iA,iA,J5,J5,Jjl,if_neg (by simp),append_assoc]
theorem JlM(fn:Int->List UInt8):∀ (l2 l1:List Exp),(Qae (iA fn l1)).length<=(Qae (iA fn (l1++l2))).length
 |[],l1=>by rw[append_nil];exact Nat.le_refl _
 |a::l2,l1=>by
  have h:=JlM fn l2 (l1++[a]);rw[append_assoc,List.cons_append,nil_append]at h;refine le_trans ?_ h;rw[JdX];simp
theorem JgJ{l:List Exp}{i n:Nat}(h:l.length=n)(hi:i<n):l.take i=[]↔i=0:=by
 constructor
 ·intro e;have:=congrArg List.length e;rw[List.length_take,h]at this;simp at this;omega
 ·rintro rfl;rfl
theorem JeJ{l:List Exp}{i:Nat}{a:Exp}(h:l[i]?=some a):l.take (i+1)=l.take i++[a]:=by
 rw[List.take_add_one,h];rfl
structure WNm(w0:World)(fv:Value)(fn:Int->List UInt8)(nf fb fo fl fc:Nat):Prop where
 form:fv=.slice (some ⟨fb,fo,none⟩) fl fc
 len:nf=fl
 name:∀ m:Nat,m<nf->∀ W,Bel w0 W->W.cell? ⟨fb,fo+m*7,none⟩=some (.string (bs (fn (m:Int))))
theorem bx4{P:Prop}(h:P:=by
  go_simp
  exact hK.out _ _ zzb (fun _ _ _=>rfl) (fun h=>absurd h (by decide))):P:=h
theorem QkS{P:Prop}(h:P:=by
  have o0:a0.tmps[0]?.getD undef=.pointer (some ⟨b,0,none⟩):=ho 0 (by kernel_rfl)
  exact bx4):P:=h
theorem Qlw{P:Prop}(h:P:=by
  have o3:a0.tmps[3]?.getD undef=.pointer (some ⟨eb,0,none⟩):=ho 3 (by kernel_rfl)
  exact bx4):P:=h
theorem Qma{P:Prop}(h:P:=by
  clear cx hs x0 x1 x2 x3 HSb HSW HXB;go_wp2;go_roundg (nk-(i+1))
  case measure=>have:=HG.out;omega
  case rel=>exact⟨i+1,by have:=HG.out;omega,rfl,HS7⟩):P:=h
theorem JgK{w0:World}{b:Nat}{fv:Value}{fn:Int->List UInt8}{nf fb fo fl fc:Nat}(hnm:WNm w0 fv fn nf fb fo fl fc)(m:Nat)(hm:m<nf)(s:List UInt8)(ks:List Exp)(hks:ks.length<=1000000)(hie:∀ a∈ks,QbC w0 b fv fn a)(c:Array Value)(l:List UInt8)(W:World)(hx:XAt w0 (In w0) (.mk 20 (m:Int) s ks) c)(hbl:Bel w0 W)(hw:WrI w0.heap.size b fv l W)
  (hlen:l.length+(Qae (iB fn false (.mk 20 (m:Int) s ks))).length<=140737488355328):Calls prog 89 #[.pointer (some ⟨b,0,none⟩),.agg c] W (WP w0.heap.size b fv l (Qae (iB fn false (.mk 20 (m:Int) s ks))) W):=by
 obtain⟨T,hT⟩:∃ T,Qae (iB fn false (.mk 20 (m:Int) s ks))=T:=⟨_,rfl⟩
 rw[hT]at hlen |-;have HTE:Hid (T=_):=hT.symm.trans (JkH fn (m:Int) s ks);rw[HTE.out]at hlen;obtain⟨ad,cc,rfl,_,hK⟩:=hx.kid;have HKK:=Zh hK;have HIE:=Zh hie;have HML:Hid (m<fl):=by rw[<- hnm.len];exact hm
 have hfv:=hnm.form;subst hfv;have HNM:=Zh hnm;obtain⟨nk,hnk⟩:∃ nk,ks.length=nk:=⟨_,rfl⟩
 rw[hnk]at hks;have HNK:=Zh hks;have HKL:=Zh hnk;rw[hnk];clear hT hx hK hie hm hnm hks hnk;have HBX:=Zh (show BxI (W.alloc (.cells #[.int .i64 20,.int .i64 (m:Int),.string (bs s),.slice ad nk cc] 30)) b W.heap.size _ from⟨zzw _ _,fun e=>by have:=hw.lt;omega⟩);have HB0:=Zh (show Below w0.heap.size W (W.alloc (.cells #[.int .i64 20,.int .i64 (m:Int),.string (bs s),.slice ad nk cc] 30)) from zzb.alloc hbl.size _);have HO0:=Zh (show OthersKept 5 (some b) W (W.alloc (.cells #[.int .i64 20,.int .i64 (m:Int),.string (bs s),.slice ad nk cc] 30)) from(OthersKept.refl _ _ _).alloc _);have HS1:=Zh (WS.nil (hw.up (show Below W.heap.size W (W.alloc (.cells #[.int .i64 20,.int .i64 (m:Int),.string (bs s),.slice ad nk cc] 30)) from zzb.alloc zzl _)));have HBL:=Zh (hbl.trans HB0.out);have HLN:=Zh hlen;clear hw hbl hlen;go_enter func89,ntmps89;go_upto_region 1 with fail;generalize World.alloc W _=w1 at *;generalize W.heap.size=eb at *;have HW1:Hid (WrI w0.heap.size b (.slice (some ⟨fb,fo,none⟩) fl fc) l w1):=by have:=HS1.out.wr;rwa [append_nil]at this
 clear HS1;refine KJ 11 [] (fun i=>WK.rel (match i with|0=>.const (.pointer (some ⟨b,0,none⟩))|1=>.const (.pointer (some ⟨b,0,none⟩))|2=>.const (.pointer (some ⟨b,0,none⟩))|3=>.const (.pointer (some ⟨b,2,none⟩))|4=>.const (.slice (some ⟨fb,fo,none⟩) fl fc)|5=>.const (.pointer (some ⟨eb,1,none⟩))|6=>.const (.int .i64 (m:Int))|7=>.const (.pointer (some ⟨fb,fo+m*7,none⟩))|8=>.const (.pointer (some ⟨fb,fo+m*7,none⟩))|9=>.const (.string (bs (fn (m:Int))))|10=>.strs [fn (m:Int),[40]] 2|_=>.const undef)) (fun W=>Below w1.heap.size w1 W) zzb.drew (by decide) (fun _ _ h hb=>Jd h hb) (fun i v P P1 w w1=>WK.keep _ v P P1 w w1) (Qft (n:=11) ?_) ?_
 ·refine⟨⟨⟨⟨⟨⟨⟨⟨⟨⟨⟨trivial,?_⟩,?_⟩,?_⟩,?_⟩,?_⟩,?_⟩,?_⟩,?_⟩,?_⟩,?_⟩,?_⟩
  ·refine QaP.of 0 rfl fun a0 w9 Pr hb hP hn hd ho K hK=>?_
   exact QkS
  ·refine QaP.of 1 rfl fun a0 w9 Pr hb hP hn hd ho K hK=>?_
   exact QkS
  ·refine QaP.of 2 rfl fun a0 w9 Pr hb hP hn hd ho K hK=>?_
   obtain⟨v1,rfl,e1⟩:=hd 1 7 (by kernel_rfl) rfl;exact bx4
  ·refine QaP.of 3 rfl fun a0 w9 Pr hb hP hn hd ho K hK=>?_
   obtain⟨v2,rfl,e2⟩:=hd 2 8 (by kernel_rfl) rfl;exact bx4
  ·refine QaP.of 4 rfl fun a0 w9 Pr hb hP hn hd ho K hK=>?_
   obtain⟨v3,rfl,e3⟩:=hd 3 9 (by kernel_rfl) rfl;have hfv:=(HW1.out.up hb).funcs;exact bx4
  ·refine QaP.of 5 rfl fun a0 w9 Pr hb hP hn hd ho K hK=>?_
   exact Qlw
  ·refine QaP.of 6 rfl fun a0 w9 Pr hb hP hn hd ho K hK=>?_
   obtain⟨v5,rfl,e5⟩:=hd 5 11 (by kernel_rfl) rfl;obtain⟨b0,b1,b2,b3⟩:=HBX.out.four (Vs (OthersKept.refl _ _ _) hb);exact bx4
  ·refine QaP.of 7 rfl fun a0 w9 Pr hb hP hn hd ho K hK=>?_
   obtain⟨v4,rfl,e4⟩:=hd 4 10 (by kernel_rfl) rfl;obtain⟨v6,rfl,e6⟩:=hd 6 12 (by kernel_rfl) rfl;have k0:0<=(m:Int):=by omega
   have k1:(m:Int)<(fl:Int):=by have:=HML.out;omega
   exact bx4
  ·refine QaP.of 8 rfl fun a0 w9 Pr hb hP hn hd ho K hK=>?_
   obtain⟨v7,rfl,e7⟩:=hd 7 13 (by kernel_rfl) rfl;exact bx4
  ·refine QaP.of 9 rfl fun a0 w9 Pr hb hP hn hd ho K hK=>?_
   obtain⟨v8,rfl,e8⟩:=hd 8 14 (by kernel_rfl) rfl;have hnm:=HNM.out.name m (by have:=HML.out;have:=HNM.out.len;omega) _ (Jd HBL.out hb);exact bx4
  ·refine QaP.of 10 rfl fun a0 w9 Pr hb hP hn hd ho K hK=>?_
   obtain⟨v9,rfl,e9⟩:=hd 9 15 (by kernel_rfl) rfl;go_simp;exact hK.out _ _ (zzb.alloc zzl _) (fun Pr1 h1 h2=>⟨_,rfl,JdW _ [fn (m:Int),[40]]⟩) (fun h=>absurd h (by decide))
 intro n9 vs w9 hn9 hb9 hp9 hd9 hr9;obtain⟨q,e10,ht⟩:=hr9 10 (by decide);have e0:vs 0=_:=hr9 0 (by decide);have hb9:Below w1.heap.size w1 w9:=hb9;rw[show Qbk _ 11 vs=[(6,vs 0),(7,vs 1),(8,vs 2),(9,vs 3),(10,vs 4),(11,vs 5),(12,vs 6),(13,vs 7),(14,vs 8),(15,vs 9),(16,vs 10)] from rfl];simp only[Qcq,e10,e0,List.setIfInBounds_toArray,List.set_cons_zero,List.set_cons_succ];have cp:=Jcg w0.heap.size b (.slice (some ⟨fb,fo,none⟩) fl fc) l q 2 [fn (m:Int),[40]] w9 (HW1.out.up hb9) ht (ht.ne (HW1.out.up hb9)) (by have:=HLN.out;(try simp only[length_append,length_cons,length_nil,flatten_cons,flatten_nil,append_nil,nil_append]at this);(try simp only[length_append,length_cons,length_nil,flatten_cons,flatten_nil,append_nil,nil_append]);omega) (le_trans HBL.out.size hb9.size) (Nat.le_of_ble_eq_true rfl);have HB9:=Zh hb9;clear hp9 hd9 hr9 e10 e0 ht hb9;generalize vs 1=y1;generalize vs 2=y2;generalize vs 3=y3;generalize vs 4=y4;generalize vs 5=y5;generalize vs 6=y6;generalize vs 7=y7;generalize vs 8=y8;generalize vs 9=y9;clear vs;obtain⟨n9,rfl⟩:∃ mm,n9=mm+1:=⟨n9-1,by have:(12:Nat)-11<=n9:=hn9;omega⟩
 clear hn9;refine Y3 (S:=fun _=>True) (z:=11) _ _ _ _ (LZ 11 rfl fun K hK=>?_);go_simp;go_at_call 28;refine cp.mono ?_;rintro e w2 ⟨rfl,hs⟩;refine hK.out _ _ ?_;clear hK K cp
 have HS2:Hid (WS w0.heap.size b (.slice (some ⟨fb,fo,none⟩) fl fc) l ([fn (m:Int),[40]].flatten++Qae (iA fn (ks.take 0))) w1 w2):=by
  have:=WS.pre (HB9.out.mono HBL.out.size) (Vs (OthersKept.refl _ _ _) HB9.out) hs;rw[show Qae (iA fn (ks.take 0))=[] from by rw[List.take_zero,iA];rfl,append_nil];exact this
 clear hs HB9 HW1;obtain⟨b0,b1,b2,b3⟩:=HBX.out.four HS2.out.oth;go_wp2_with fail;go_loopg [21] nk (fun g v21 wr=>∃ i:Nat,g+i=nk/\v21=.int .i64 (i:Int)/\Hid (WS w0.heap.size b (.slice (some ⟨fb,fo,none⟩) fl fc) l ([fn (m:Int),[40]].flatten++Qae (iA fn (ks.take i))) w1 wr))
 case atStart=>exact⟨0,rfl,rfl,HS2⟩
 case round=>
  clear HS2 b0 b1 b2 b3;obtain⟨wl,rfl⟩:∃ wl:World,wl=wr:=⟨_,rfl⟩
  obtain⟨i,hg,rfl,hws⟩:=hrel;have HS3:=Zh hws.out;clear hws
  by_cases hi:i<nk
  ·have dil:decide ((i:Int)<(nk:Int))=true:=decide_eq_true (by omega);have diN:decide (i<nk)=true:=decide_eq_true hi;have k0:0<=(i:Int):=by omega
   have k1:(i:Int)<(nk:Int):=by omega
   have wk:IntKind.i64.wrap ((i:Int)+1)=((i+1:Nat):Int):=by have:=HNK.out;rw[IntWalk.i64_in _ (by omega)];omega
   obtain⟨a,ha⟩:∃ a,ks[i]?=some a:=⟨_,List.getElem?_eq_getElem (by have:=HKL.out;omega)⟩
   obtain⟨kb,o,had,hkb,hk⟩:=HKK.out (List.ne_nil_of_mem (List.mem_of_getElem? ha));subst had;obtain⟨xa,xc,hxa,hkd⟩:=Zs hkb hk ha;have HXA:=Zh hxa;have hie:=HIE.out a (List.mem_of_getElem? ha);have HIE1:=Zh hie;have htk:=JeJ ha;have hle:=JlM fn (ks.drop (i+1)) (ks.take (i+1));rw[List.take_append_drop,htk,JdX]at hle;have hz0:=JgJ HKL.out hi;have HTK:=Zh htk;have HLE:=Zh hle;have HZ0:=Zh hz0;have HG:Hid (gk+i=nk/\i<nk):=⟨hg,hi⟩
   obtain⟨q0,q1,q2,q3⟩:=hkd wl (HBL.out.trans HS3.out.bel);have HXB:=Zh (show BxI (wl.alloc (.cells (Qdz a xa xc) 30)) b wl.heap.size _ from⟨zzw _ _,fun e=>by have:=HS3.out.wr.lt;omega⟩);have HS4:=Zh (HS3.out.up (show Below wl.heap.size wl (wl.alloc (.cells (Qdz a xa xc) 30)) from zzb.alloc zzl _) (le_trans HBL.out.size HS3.out.bel.size));clear hg hi ha hkb hk hxa hkd hie htk hle hz0 HS3;unfold Qdz at HXB HS4;go_upto_region 5 with fail;generalize World.alloc wl _=wb at *;generalize wl.heap.size=xb at *;clear q0 q1 q2 q3;have HBB:=Zh (HBL.out.trans HS4.out.bel)
   by_cases hi0:i=0
   ·have g1:decide (0<(i:Int))=false:=decide_eq_false (by omega);have g2:decide (0<i)=false:=decide_eq_false (by omega);have HI0:=Zh hi0;clear hi0;have HSa:Hid (WS w0.heap.size b (.slice (some ⟨fb,fo,none⟩) fl fc) (l++([fn (m:Int),[40]].flatten++Qae (iA fn (ks.take i)))) [] wb wb):=WS.nil HS4.out.wr;have HSb:=HSa;clear HSa;have HSW:Hid (WrI w0.heap.size b (.slice (some ⟨fb,fo,none⟩) fl fc) (l++([fn (m:Int),[40]].flatten++Qae (iA fn (ks.take i)))) wb):=HS4.out.wr;obtain⟨x0,x1,x2,x3⟩:=HXB.out.four HSb.out.oth;have cx:=HIE1.out 0 _ (l++([fn (m:Int),[40]].flatten++Qae (iA fn (ks.take i)))) wb (by decide) HXA.out (HBB.out.trans HSb.out.bel) HSW.out (by rw[ix0];have:=HLN.out;have h2:=HLE.out;rw[if_pos (HZ0.out.2 HI0.out)]at h2;simp only[length_append,length_cons,length_nil,flatten_cons,flatten_nil,append_nil,nil_append]at this h2 |-;omega);unfold Qdz at cx;rw[ix0]at cx;go_wp2_with fail;refine cx.mono ?_;rintro e w6 ⟨rfl,hs⟩
    have HS7:Hid (WS w0.heap.size b (.slice (some ⟨fb,fo,none⟩) fl fc) l ([fn (m:Int),[40]].flatten++Qae (iA fn (ks.take (i+1)))) w1 w6):=by
     have h1:=HSb.out.trans0 hs;have h2:=HS4.out.trans h1;refine Zh ?_;rw[HTK.out,JdX,if_pos (HZ0.out.2 HI0.out)];simpa only[append_assoc,nil_append] using h2
    exact Qma
   ·have g1:decide (0<(i:Int))=true:=decide_eq_true (by omega);have g2:decide (0<i)=true:=decide_eq_true (by omega);have HI0:=Zh hi0;clear hi0;have HSa:Hid (WS w0.heap.size b (.slice (some ⟨fb,fo,none⟩) fl fc) (l++([fn (m:Int),[40]].flatten++Qae (iA fn (ks.take i)))) [] wb wb):=WS.nil HS4.out.wr;go_wp2_with fail;refine(Qbw w0.heap.size b (.slice (some ⟨fb,fo,none⟩) fl fc) (l++([fn (m:Int),[40]].flatten++Qae (iA fn (ks.take i)))) [[44,32]] 1 _ _ HS4.out.wr rfl (by have:=HLN.out;have h2:=HLE.out;rw[if_neg (fun h=>HI0.out (HZ0.out.1 h))]at h2;simp only[length_append,length_cons,length_nil,flatten_cons,flatten_nil,append_nil,nil_append]at this h2 |-;omega) (HBB.out.size) (by decide)).mono ?_;rintro e w5 ⟨rfl,hs⟩;have HSb:Hid (WS w0.heap.size b (.slice (some ⟨fb,fo,none⟩) fl fc) (l++([fn (m:Int),[40]].flatten++Qae (iA fn (ks.take i)))) [44,32] wb w5):=hs;clear hs HSa;have HSW:Hid (WrI w0.heap.size b (.slice (some ⟨fb,fo,none⟩) fl fc) ((l++([fn (m:Int),[40]].flatten++Qae (iA fn (ks.take i))))++[44,32]) w5):=HSb.out.wr;obtain⟨x0,x1,x2,x3⟩:=HXB.out.four HSb.out.oth;have cx:=HIE1.out 0 _ ((l++([fn (m:Int),[40]].flatten++Qae (iA fn (ks.take i))))++[44,32]) w5 (by decide) HXA.out (HBB.out.trans HSb.out.bel) HSW.out (by rw[ix0];have:=HLN.out;have h2:=HLE.out;rw[if_neg (fun h=>HI0.out (HZ0.out.1 h))]at h2;simp only[length_append,length_cons,length_nil,flatten_cons,flatten_nil,append_nil,nil_append]at this h2 |-;omega);unfold Qdz at cx;rw[ix0]at cx;go_wp2_with fail;refine cx.mono ?_;rintro e w6 ⟨rfl,hs⟩
    have HS7:Hid (WS w0.heap.size b (.slice (some ⟨fb,fo,none⟩) fl fc) l ([fn (m:Int),[40]].flatten++Qae (iA fn (ks.take (i+1)))) w1 w6):=by
     have h1:=HSb.out.trans hs;have h2:=HS4.out.trans h1;refine Zh ?_;rw[HTK.out,JdX,if_neg (fun h=>HI0.out (HZ0.out.1 h))];simpa only[append_assoc,nil_append] using h2
    exact Qma
  ·have dil:decide ((i:Int)<(nk:Int))=false:=decide_eq_false (by omega);have diN:decide (i<nk)=false:=decide_eq_false hi
   have HSE:Hid (WS w0.heap.size b (.slice (some ⟨fb,fo,none⟩) fl fc) l ([fn (m:Int),[40]].flatten++Qae (iA fn ks)) w1 wl):=by
    have:=HS3.out
    rwa [List.take_of_length_le (by have:=HKL.out;omega)]at this
   clear hi hg HS3;go_wp2_with fail;refine(Qbw w0.heap.size b (.slice (some ⟨fb,fo,none⟩) fl fc) (l++([fn (m:Int),[40]].flatten++Qae (iA fn ks))) [[41]] 1 _ _ HSE.out.wr rfl (by have:=HLN.out;(try simp only[length_append,length_cons,length_nil,flatten_cons,flatten_nil,append_nil,nil_append]at this);(try simp only[length_append,length_cons,length_nil,flatten_cons,flatten_nil,append_nil,nil_append]);omega) (le_trans HBL.out.size HSE.out.bel.size) (by decide)).mono ?_;rintro e w9 ⟨rfl,hs⟩;have hfin:=WS.pre HB0.out HO0.out (HSE.out.trans hs);clear hs HSE;go_wp2
   first
    |go_end0
    |refine bodyPost_ret (results_none rfl _ _ _) rfl ?_
   rw[HTE.out];refine⟨rfl,?_⟩;simp only[flatten_cons,flatten_nil,append_nil,append_assoc,nil_append]at hfin |-;exact hfin
end Go.Proofs.YtdlkcjkjnehnkaaGreatDoor
