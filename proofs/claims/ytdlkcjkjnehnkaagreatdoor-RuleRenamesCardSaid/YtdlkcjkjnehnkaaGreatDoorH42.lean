import Derived.Deep.CutBlock
import Derived.Deep.DeepCutAuto
import Derived.KernelRfl
import Derived.Test.YtdlkcjkjnehnkaaGreatDoorH39
import Derived.Test.YtdlkcjkjnehnkaaGreatDoorH31
import Derived.Test.YtdlkcjkjnehnkaaGreatDoorH41
open Nat(le_refl)
namespace Go.Proofs.YtdlkcjkjnehnkaaGreatDoor
open Go Go.Lib
open Go.ChangeShapes Go.WideShapes Go.ChangeAt Go.RowKit
open Go.ChangeShapes Go.WideShapes Go.ChangeAt Go.RowKit Go.Lib
open Go.RowKit
open Go Go.ChangeShapes Go.WideShapes Go.ChangeAt Go.RowKit Go.Lib
open Go
open _root_.Go.Proofs.Tryz
set_option linter.all false
set_option maxRecDepth 100000
set_option maxHeartbeats 32000000
def dfA(d:Bool)(T:List Tok):Nat->Bool
 |0=>d
 |k+1=>Qdm (hd (T.drop k))
theorem Qfh(fr to':List UInt8):∀ (l:List Tok) (d:Bool),(rnG fr to' d l).length=l.length
 |[],d=>by rw[rnG]
 |t::r,d=>by rw[rnG,List.length_cons,List.length_cons,Qfh fr to' r]
theorem QgG(fr to':List UInt8):∀ (T:List Tok) (d:Bool) (k:Nat) (t:Tok),T[k]?=some t->(rnG fr to' d T)[k]?=some (if t.kind=0/\t.text=fr/\Qch (hd (T.drop (k+1)))=false/\dfA d T k=false then⟨t.kind,to',t.n,t.off⟩ else t)
 |[],_,_,_,h=>by simp at h
 |x::r,d,0,t,h=>by
  simp only[List.getElem?_cons_zero,Option.some.injEq]at h;subst h;rw[rnG,List.getElem?_cons_zero];rfl
 |x::r,d,k+1,t,h=>by
  rw[List.getElem?_cons_succ]at h;rw[rnG,List.getElem?_cons_succ,QgG fr to' r _ k t h]
  cases k<;>rfl
theorem QhN:(Tryz.prog.info? 46).map (fun i=>(i.zero,i.size,i.bytes))=some (some (.agg #[.int .i64 0,.string ⟨#[]⟩,.int .i64 0,.int .i64 0]),4,40):=by kernel_rfl
theorem QlR{T:List Tok}{k:Nat}{t:Tok}(h:T[k]?=some t):hd (T.drop k)=t:=by rw[Jhb h];rfl
set_option maxRecDepth 100000 in
set_option maxHeartbeats 16000000 in
theorem Qfj(A:Option Addr)(n c:Nat)(T:List Tok)(fr to':List UInt8)(w:World)(hA:Qgq w A T)(hn:T.length=n)(hlim:n<=5000) :
  Calls Tryz.prog 20 #[.slice A n c,.string (bs fr),.string (bs to')] w (fun e w'=>∃ a c',e=.returned (.slice a n c')/\Qgq w' a (rnG fr to' false T)/\Below w.heap.size w w'):=by
 obtain⟨i0,hi,hz0,hz1,hz2⟩:=info_parts QhN;have HA:=Lib.hid hA;have HN:=Lib.hid hn;have uf:=Jl fr;have hgl:=Qfh fr to' T false;rw[hn]at hgl;have HGL:=Lib.hid hgl;have HGG:=Lib.hid (QgG fr to' T false);generalize rnG fr to' false T=G at *;clear hA hn hgl;go_enter Tryz.func20,Tryz.ntmps20;go_wp2;go_loopw [7,8] (fun v7 v8 wr=>∃ k:Nat,k<=n/\v8=.int .i64 k/\Hid (wr.ownsRow w.heap.size 46 4 v7 k (Qan (G.take k)))/\Hid (Bel w wr)) (fun _ v8 _=>n-(intOf v8).toNat)
 case atStart=>exact⟨0,by omega,rfl,World.ownsRow_nil _ _ _ _,Below.refl _ _⟩
 case round=>
  obtain⟨wl,rfl⟩:∃ wl:World,wl=wr:=⟨_,rfl⟩
  obtain⟨k,hk,rfl,ho,hb⟩:=hrel;have HO:=Lib.hid ho.out;have HB:=Lib.hid hb.out;clear ho hb
  by_cases hlt:k<n
  ·have dil:decide ((k:Int)<(n:Int))=true:=decide_eq_true (by omega);have diN:decide (k<n)=true:=decide_eq_true hlt;obtain⟨t,ht⟩:∃ t,T[k]?=some t:=⟨_,List.getElem?_eq_getElem (by rw[HN.out];exact hlt)⟩
   have HGK:=Lib.hid (HGG.out k t ht);obtain⟨g,o,rfl,hg,a0,a1,a2,a3⟩:=(HA.out.below HB.out) k t ht;obtain⟨va,vc,rfl⟩:=Jan HO.out;obtain⟨tk,tt,tn,tof⟩:=t;have HBE:Hid (Bel wl (wl.alloc (.cells #[.int .i64 tk,.string (bs tt),.int .i64 tn,.int .i64 tof] 46))):=(Below.refl _ _).alloc (le_refl _) _;have HX:=Lib.hid (BxB.of (heap_alloc_new wl (.cells #[.int .i64 tk,.string (bs tt),.int .i64 tn,.int .i64 tof] 46)));have ut:=Jl tt;have HT:=Lib.hid ht;clear ht;go_upto_region 6 with fail;clear a0 a1 a2 a3;have hsz:wl.heap.size<=(wl.alloc (.cells #[.int .i64 tk,.string (bs tt),.int .i64 tn,.int .i64 tof] 46)).heap.size:=HBE.out.size;have hcb:wl.heap.size<(wl.alloc (.cells #[.int .i64 tk,.string (bs tt),.int .i64 tn,.int .i64 tof] 46)).heap.size:=by simp
   generalize World.alloc wl _=w1 at *;obtain⟨cb,hcbe⟩:∃ cb,wl.heap.size=cb:=⟨_,rfl⟩
   have HCB:=Lib.hid hcbe;rw[hcbe]at HX hcb |-;have HB1:Hid (Bel w w1):=Jd HB.out HBE.out;have HA1:=Lib.hid (HA.out.below HB1.out);clear hsz hcbe;go_cut [10] (fun s10 wx=>s10=.bool (Qch (hd (T.drop (k+1))))/\w1=wx)
   case first=>
    by_cases hk1:k+1<n
    ·obtain⟨u,hu⟩:∃ u,T[k+1]?=some u:=⟨_,List.getElem?_eq_getElem (by rw[HN.out];exact hk1)⟩
     obtain⟨g',o',he,hg',a0,a1,a2,a3⟩:=HA1.out (k+1) u hu;injection he with he;injection he with he1 he2 he3;subst he1 he2;have HU:=Lib.hid (QlR hu);obtain⟨uk,ux,un,uo⟩:=u;have uu:=Jl ux;have d1:decide ((k:Int)+1<(n:Int))=true:=decide_eq_true (by omega);clear hu a2 a3
     by_cases hp:ux=[40]
     ·subst hp;obtain⟨q,hq⟩:∃ q,((uk:Int)==3)=q:=⟨_,rfl⟩
      have HQ:=Lib.hid hq;clear hq;go_wp2;go_meet;refine⟨?_,rfl⟩;rw[HU.out];unfold Qch
      congr 1
      rw[Bool.eq_iff_iff];simp
     ·have q0:(ux==[40])=false:=beq_eq_false_iff_ne.2 hp;have HP:=Lib.hid hp;clear hp;go_wp2;go_meet;refine⟨?_,rfl⟩;rw[HU.out];unfold Qch;rw[decide_eq_false (fun h=>HP.out h.2)]
    ·have d1:decide ((k:Int)+1<(n:Int))=false:=decide_eq_false (by omega);go_wp2;go_meet;refine⟨?_,rfl⟩;rw[List.drop_of_length_le (by rw[HN.out];omega)];rfl
   case rest=>
   obtain⟨rfl,rfl⟩:=hcut;obtain⟨P,hP⟩:∃ P,Qch (hd (T.drop (k+1)))=P:=⟨_,rfl⟩
   rw[hP]at HGK |-;clear hP;go_upto_region 7 with fail;go_cut [11] (fun s11 wx=>s11=.bool (dfA false T k)/\w1=wx)
   case first=>
    cases k with
    |zero=>
     go_wp2;go_meet;exact⟨rfl,rfl⟩
    |succ j=>
     obtain⟨u,hu⟩:∃ u,T[j]?=some u:=⟨_,List.getElem?_eq_getElem (by rw[HN.out];omega)⟩
     obtain⟨g',o',he,hg',a0,a1,a2,a3⟩:=HA1.out j u hu;injection he with he;injection he with he1 he2 he3;subst he1 he2;have HU:=Lib.hid (QlR hu);obtain⟨uk,ux,un,uo⟩:=u;have uu:=Jl ux;have d1:decide ((j:Int)+1>0)=true:=decide_eq_true (by omega);have wj:IntKind.i64.wrap ((j:Int)+1-1)=(j:Int):=by rw[IntWalk.i64_in _ (by omega)];omega
     clear hu a2 a3
     by_cases hp:ux=[100,101,102]
     ·subst hp;obtain⟨q,hq⟩:∃ q,((uk:Int)==0)=q:=⟨_,rfl⟩
      have HQ:=Lib.hid hq;clear hq;go_wp2;go_meet;refine⟨?_,rfl⟩;rw[dfA,HU.out];unfold Qdm
      congr 1
      rw[Bool.eq_iff_iff];simp[QdX]
     ·have q0:(ux==[100,101,102])=false:=beq_eq_false_iff_ne.2 hp;have HP:=Lib.hid hp;clear hp;go_wp2;go_meet;refine⟨?_,rfl⟩;rw[dfA,HU.out];unfold Qdm;rw[decide_eq_false (fun h=>HP.out h.2)]
   case rest=>
   obtain⟨rfl,rfl⟩:=hcut;obtain⟨D,hD⟩:∃ D,dfA false T k=D:=⟨_,rfl⟩
   rw[hD]at HGK |-;clear hD HA1;dsimp only at HGK;go_upto_region 8 with fail;obtain⟨x0,x1,x2,x3⟩:=Qeq (HX.out _ (Below.refl _ _));obtain⟨b,hbd⟩:∃ b,decide (tk=0/\tt=fr/\P=false/\D=false)=b:=⟨_,rfl⟩
   go_cut [81] (fun s81 wx=>s81=.bool b/\w1=wx)
   case first=>
    have HBD:=Lib.hid hbd;clear hbd
    by_cases c0:tk=0
    ·subst c0
     by_cases c1:tt=fr
     ·subst c1;have q1:(tt==tt)=true:=beq_self_eq_true _
      cases P with
      |false=>
       go_wp2;go_meet;refine⟨?_,rfl⟩;rw[<- HBD.out]
       cases D<;>simp
      |true=>
       go_wp2;go_meet;refine⟨?_,rfl⟩;rw[<- HBD.out];simp
     ·have q1:(tt==fr)=false:=beq_eq_false_iff_ne.2 c1;have HC:=Lib.hid c1;clear c1;go_wp2;go_meet;refine⟨?_,rfl⟩;rw[<- HBD.out,decide_eq_false (fun h=>HC.out h.2.1)]
    ·have q1:(tk==(0:Int))=false:=beq_eq_false_iff_ne.2 c0;have HC:=Lib.hid c0;clear c0;go_wp2;go_meet;refine⟨?_,rfl⟩;rw[<- HBD.out,decide_eq_false (fun h=>HC.out h.1)]
   case rest=>
   obtain⟨rfl,rfl⟩:=hcut
   cases b with
   |true=>
    obtain⟨c0,c1,c2,c3⟩:=of_decide_eq_true hbd;rw[if_pos ⟨c0,c1,c2,c3⟩]at HGK;subst c0;have fz:=Jc (HX.out _ (Below.refl _ _)) 1;go_upto_region 10 with fail;have HB2:Hid (Bel wl (w1.setCell ⟨cb,1,none⟩ (.string (bs to')))):=HBE.out.setCell (by rw[HCB.out];exact le_refl _) _;have HO2:=Lib.hid (JfH HO.out HB2.out);have e1:(w1.setCell ⟨cb,1,none⟩ (.string (bs to'))).heap.size=w1.heap.size:=by simp[World.setCell]
    go_wp2_with (at_builtin;refine wpList_append_own _ rfl _ _ 38 rfl w.heap.size 46 i0 (.agg #[.int .i64 0,.string ⟨#[]⟩,.int .i64 0,.int .i64 0]) 4 40 Tryz.underlying38 hi hz0 hz1 hz2 rfl (by decide) _ _ _ rfl (HO2.out.alloc _) ⟨w1.heap.size,0,none⟩ 1 1 [.int .i64 0,.string (bs to'),.int .i64 tn,.int .i64 tof] rfl rfl ?ga1 ?ga2 ?ga3 ?ga4 ?ga5 ?_)
    case ga2=>exact⟨rfl,rfl,rfl,rfl⟩
    case ga3=>unfold maxLen;omega
    case ga4=>omega
    case ga5=>have:=HB1.out.size;first|omega|(simp;omega)
    intro v' w' hown' hgrow _;have hbA:=(Jd HB.out HB2.out).alloc (Jd HB.out HB2.out).size (.cells #[.int .i64 0,.string (bs to'),.int .i64 tn,.int .i64 tof] 46);have HBG:Hid (Bel w w'):=hbA.grown hgrow hbA.size (JdE HO2.out)
    have HOW:Hid (w'.ownsRow w.heap.size 46 4 v' (k+1) (Qan (G.take (k+1)))):=by
     unfold Hid;rw[List.take_add_one,HGK.out,Vc];exact hown'
    clear hown' hgrow hbA HO2 HB2 HO;go_wp2;go_roundw
    case rel=>exact⟨k+1,by omega,by go_num,HOW.out,HBG.out⟩
    case measure=>simp[intOf];omega
   |false=>
    rw[if_neg (of_decide_eq_false hbd)]at HGK;have HB2:=HBE;have HO2:=Lib.hid (JfH HO.out HB2.out);go_upto_region 10 with fail;go_wp2_with (at_builtin;refine wpList_append_own _ rfl _ _ 38 rfl w.heap.size 46 i0 (.agg #[.int .i64 0,.string ⟨#[]⟩,.int .i64 0,.int .i64 0]) 4 40 Tryz.underlying38 hi hz0 hz1 hz2 rfl (by decide) _ _ _ rfl (HO2.out.alloc _) ⟨w1.heap.size,0,none⟩ 1 1 [.int .i64 tk,.string (bs tt),.int .i64 tn,.int .i64 tof] rfl rfl ?gb1 ?gb2 ?gb3 ?gb4 ?gb5 ?_)
    case gb1=>intro j u hj;(try rw[<- e1]);rw[KV];simpa using hj
    case gb2=>intro u hu;simp at hu;rcases hu with rfl|rfl|rfl|rfl<;>rfl
    case gb3=>unfold maxLen;omega
    case gb4=>omega
    case gb5=>simp;exact Nat.le_succ_of_le HB1.out.size
    intro v' w' hown' hgrow _;have hbA:=(Jd HB.out HB2.out).alloc (Jd HB.out HB2.out).size (.cells #[.int .i64 tk,.string (bs tt),.int .i64 tn,.int .i64 tof] 46);have HBG:Hid (Bel w w'):=hbA.grown hgrow hbA.size (JdE HO2.out)
    have HOW:Hid (w'.ownsRow w.heap.size 46 4 v' (k+1) (Qan (G.take (k+1)))):=by
     unfold Hid;rw[List.take_add_one,HGK.out,Vc];exact hown'
    clear hown' hgrow hbA HO2 HB2 HO;go_wp2;go_roundw
    case rel=>exact⟨k+1,by omega,by go_num,HOW.out,HBG.out⟩
    case measure=>simp[intOf];omega
  ·have hkn:k=n:=by omega
   subst hkn;have hfin:G.take k=G:=List.take_of_length_le (by rw[HGL.out];exact le_refl _);obtain⟨va,vc,rfl⟩:=Jan HO.out;rw[hfin]at HO;have dil:decide ((k:Int)<(k:Int))=false:=decide_eq_false (by omega);clear hfin;go_wp2;go_ret;refine⟨_,_,rfl,?_,HB.out⟩;have h:=HO.out;have hl:=HGL.out;subst hl;exact Qgq.of_own h
theorem JC{ops:Array Oper}{tm:Array Value}{d:Option Tmp}{oo:Op}{ty:TypeId}{p:String}{af:Array Edge}{j t:Nat}{b:Bool}(e:tm[t]?.getD undef=.bool b)(hj:(ops[j]?).bind (·.dst)=some t) :
  Region.wanted ⟨d,oo,ty,p,af,some (j,b)⟩ (yielded ops tm)=true:=by
 have h2:tm[t]?=some (.bool b):=by
  cases h:tm[t]? with
  |none=>rw[h]at e;exact absurd e (by unfold undef;simp)
  |some v=>rw[h]at e;simp at e;rw[e]
 simp[Region.wanted,yielded,hj,h2]
def lkN:List UInt8:=[108,105,107,101,115]
def ex1:Qaq:=⟨[⟨[102],[0],1,.mk 13 0 [] [.mk 0 3 [] [],.mk 2 0 [] []]⟩],[⟨.mk 20 0 [] [.mk 3 0 lkN []],3,[115,112,97,109]⟩],0⟩
def tx1:List UInt8:=[100,101,102,32,102,40,110,58,32,105,110,116,41,58,32,98,111,111,108,32,61,32,110,32,62,32,51,32,119,104,101,110,32,102,40,108,105,107,101,115,41,32,116,104,101,110,32,104,105,100,101,32,34,115,112,97,109,34,32,100,101,102,97,117,108,116,32,115,104,111,119]
theorem JiK:Qbr tx1=(ex1,0,0):=by kernel_rfl
def tx2:List UInt8:=[119,104,101,110,32,108,105,107,101,115,32,116,104,101,110,32,104,105,100,101,32,34,120,34,32,100,101,102,97,117,108,116,32,115,104,111,119]
theorem JiL:Qbr tx2=(Qag,15,5):=by kernel_rfl
def tx3:List UInt8:=[119,104,101,110,32,120,32,116,104,101,110,32,104,105,100,101,32,34,120,34,32,100,101,102,97,117,108,116,32,115,104,111,119]
theorem JiM:Qbr tx3=(Qag,16,5):=by kernel_rfl
def tx4:List UInt8:=[119,104,101,110,32,49,32,60,32,50,32,60,32,51,32,116,104,101,110,32,104,105,100,101,32,34,120,34,32,100,101,102,97,117,108,116,32,115,104,111,119]
theorem JiN:Qbr tx4=(Qag,2,11):=by kernel_rfl
def tx5:List UInt8:=[100,101,102,97,117,108,116]
theorem JiO:Qbr tx5=(Qag,2,7):=by kernel_rfl
def wx1:List UInt8:=[100,101,102,32,102,40,118,48,58,32,105,110,116,41,58,32,98,111,111,108,32,61,32,51,32,60,32,118,48,10,119,104,101,110,32,102,40,108,105,107,101,115,41,32,116,104,101,110,32,104,105,100,101,32,34,115,112,97,109,34,10,100,101,102,97,117,108,116,32,115,104,111,119,10]
theorem JiP:QdG ex1=wx1:=by kernel_rfl
theorem Jmb:RSz ex1:=by
 refine⟨by decide,by decide,fun f hf=>?_,fun c hc=>?_⟩
 ·simp[ex1]at hf;subst hf;exact⟨by simp,by simp,by simp[NmN,NmL],by simp[utN,utL,JG,Ju,JE]⟩
 ·simp[ex1]at hc;subst hc;exact⟨by simp[NmN,NmL,lkN],by simp[utN,utL,JG,Ju,JE],by simp⟩
theorem PsP.inw{w:World}{X:Qaq × Int × Int}{e:Ending}{w':World}(h:PsP w X e w'):∃ c,e=.returned (.tuple #[.agg c,.int .i64 X.2.1,.int .i64 X.2.2])/\QaZ w' (In w') X.1 c/\Below w.heap.size w w':=by
 obtain⟨c,h1,h2,h3⟩:=h;exact⟨c,h1,h2.keep (fun _ _=>rfl) (fun b hb=>hb.2),h3⟩
theorem JbK(W:World)(hL:Laid W):Calls prog 16 #[.string ⟨#[100,101,102,32,102,40,110,58,32,105,110,116,41,58,32,98,111,111,108,32,61,32,110,32,62,32,51,32,119,104,101,110,32,102,40,108,105,107,101,115,41,32,116,104,101,110,32,104,105,100,101,32,34,115,112,97,109,34,32,100,101,102,97,117,108,116,32,115,104,111,119]⟩] W (fun e w'=>∃ c,e=.returned (.tuple #[.agg c,.int .i64 0,.int .i64 0])/\QaZ w' (In w') ex1 c/\Below W.heap.size W w'):=by
 have h:=Qbm tx1 W (by decide) hL;rw[JiK]at h;exact h.mono fun e w' hp=>hp.inw
theorem JbL(W:World)(hL:Laid W):Calls prog 16 #[.string ⟨#[119,104,101,110,32,108,105,107,101,115,32,116,104,101,110,32,104,105,100,101,32,34,120,34,32,100,101,102,97,117,108,116,32,115,104,111,119]⟩] W (fun e w'=>∃ c,e=.returned (.tuple #[.agg c,.int .i64 15,.int .i64 5])/\QaZ w' (In w') Qag c/\Below W.heap.size W w'):=by
 have h:=Qbm tx2 W (by decide) hL;rw[JiL]at h;exact h.mono fun e w' hp=>hp.inw
theorem JbM(W:World)(hL:Laid W):Calls prog 16 #[.string ⟨#[119,104,101,110,32,120,32,116,104,101,110,32,104,105,100,101,32,34,120,34,32,100,101,102,97,117,108,116,32,115,104,111,119]⟩] W (fun e w'=>∃ c,e=.returned (.tuple #[.agg c,.int .i64 16,.int .i64 5])/\QaZ w' (In w') Qag c/\Below W.heap.size W w'):=by
 have h:=Qbm tx3 W (by decide) hL;rw[JiM]at h;exact h.mono fun e w' hp=>hp.inw
theorem JbN(W:World)(hL:Laid W):Calls prog 16 #[.string ⟨#[119,104,101,110,32,49,32,60,32,50,32,60,32,51,32,116,104,101,110,32,104,105,100,101,32,34,120,34,32,100,101,102,97,117,108,116,32,115,104,111,119]⟩] W (fun e w'=>∃ c,e=.returned (.tuple #[.agg c,.int .i64 2,.int .i64 11])/\QaZ w' (In w') Qag c/\Below W.heap.size W w'):=by
 have h:=Qbm tx4 W (by decide) hL;rw[JiN]at h;exact h.mono fun e w' hp=>hp.inw
theorem JbO(W:World)(hL:Laid W):Calls prog 16 #[.string ⟨#[100,101,102,97,117,108,116]⟩] W (fun e w'=>∃ c,e=.returned (.tuple #[.agg c,.int .i64 2,.int .i64 7])/\QaZ w' (In w') Qag c/\Below W.heap.size W w'):=by
 have h:=Qbm tx5 W (by decide) hL;rw[JiO]at h;exact h.mono fun e w' hp=>hp.inw
theorem Jdb(W:World)(c:Array Value)(h:QaZ W (In W) ex1 c)(hL:Laid W):Calls prog 14 #[.agg c] W (fun e W'=>e=.returned (.string ⟨#[100,101,102,32,102,40,118,48,58,32,105,110,116,41,58,32,98,111,111,108,32,61,32,51,32,60,32,118,48,10,119,104,101,110,32,102,40,108,105,107,101,115,41,32,116,104,101,110,32,104,105,100,101,32,34,115,112,97,109,34,10,100,101,102,97,117,108,116,32,115,104,111,119,10]⟩)/\Bel W W'):=by
 have h1:=Zz ex1 c W h Jmb hL (fun _=>by decide +kernel);rw[JiP]at h1;exact h1
theorem JkR(w:World)(o0 o1 o2 o3:Obj):Below w.heap.size w ((((w.alloc o0).alloc o1).alloc o2).alloc o3)/\((((w.alloc o0).alloc o1).alloc o2).alloc o3).heap[w.heap.size]?=some o0/\((((w.alloc o0).alloc o1).alloc o2).alloc o3).heap[w.heap.size+1]?=some o1/\((((w.alloc o0).alloc o1).alloc o2).alloc o3).heap[w.heap.size+1+1]?=some o2/\((((w.alloc o0).alloc o1).alloc o2).alloc o3).heap[w.heap.size+1+1+1]?=some o3:=by
 obtain⟨h0,h1⟩:=Zx w o0 o1;obtain⟨h2,h3⟩:=Zx ((w.alloc o0).alloc o1) o2 o3;simp only[World.size_alloc]at h2 h3;refine⟨?_,Jg (Jg h0),Jg (Jg h1),h2,h3⟩;exact(((K8 w o0 o1).alloc (by simp only[World.size_alloc];omega) _).alloc (by simp only[World.size_alloc];omega) _)
theorem JaM(W:World)(P:Nat->Prop)(k n:Int)(s:List UInt8):XAt W P (.mk k n s []) #[.int .i64 k,.int .i64 n,.string (bs s),.slice none 0 0]:=by
 unfold XAt Qcy;exact⟨none,0,[],rfl,le_refl _,rfl,.inl rfl⟩
theorem JiQ{W:World}{b t:Nat}{fr:Nat × Nat}(h:W.heap[b]?=some (.cells #[.int .i64 0,.int .i64 3,.string ⟨#[]⟩,.slice none 0 0,.int .i64 2,.int .i64 0,.string ⟨#[]⟩,.slice none 0 0] t fr)):QdC W (.mk 13 0 [] [.mk 0 3 [] [],.mk 2 0 [] []]) [.int .i64 13,.int .i64 0,.string ⟨#[]⟩,.slice (some ⟨b,0,none⟩) 2 2]:=by
 unfold QdC XAt;refine⟨some ⟨b,0,none⟩,2,[.int .i64 0,.int .i64 3,.string ⟨#[]⟩,.slice none 0 0,.int .i64 2,.int .i64 0,.string ⟨#[]⟩,.slice none 0 0],rfl,le_refl _,?_,.inr ⟨b,0,rfl,Jb h,fun j u hj=>?_⟩⟩
 ·unfold Qcy;refine⟨_,_,JaM W _ 0 3 [],rfl,?_⟩;unfold Qcy;refine⟨_,[],JaM W _ 2 0 [],rfl,?_⟩;unfold Qcy;rfl
 ·rw[Ja h,<- hj,Nat.zero_add];exact List.getElem?_toArray
theorem JiR{W:World}{b t:Nat}{fr:Nat × Nat}(h:W.heap[b]?=some (.cells #[.int .i64 3,.int .i64 0,.string ⟨#[108,105,107,101,115]⟩,.slice none 0 0] t fr)):QdC W (.mk 20 0 [] [.mk 3 0 lkN []]) [.int .i64 20,.int .i64 0,.string ⟨#[]⟩,.slice (some ⟨b,0,none⟩) 1 1]:=by
 unfold QdC XAt;refine⟨some ⟨b,0,none⟩,1,[.int .i64 3,.int .i64 0,.string (bs lkN),.slice none 0 0],rfl,le_refl _,?_,.inr ⟨b,0,rfl,Jb h,fun j u hj=>?_⟩⟩
 ·unfold Qcy;refine⟨_,[],JaM W _ 3 0 lkN,rfl,?_⟩;unfold Qcy;rfl
 ·rw[Ja h,<- hj,Nat.zero_add];exact List.getElem?_toArray
theorem QjX{P:Prop}(h:P:=by
  have o1:a0.tmps[1]?.getD undef=.pointer (some ⟨k1,0,none⟩):=ho 1 (by kernel_rfl)
  exact bx4):P:=h
theorem Qks{P:Prop}(h:P:=by
  go_simp;go_at_call 21;refine cr.mono ?_;rintro e w9 ⟨rfl,hbb⟩
  exact hK.out _ _ hbb (fun _ _ _=>rfl) (fun h=>absurd h (by decide))):P:=h
theorem Jhe(w:World)(hL:Laid w):Calls prog 8 #[] w (Qck w (.bool true)):=by
 have HL:=Zh hL;have HB0:Hid (Bel w w):=Below.refl _ _;clear hL;go_enter func8,ntmps8;go_wp2_with fail;refine(JbK w (HL.out.below HB0.out)).mono ?_;rintro e u1 ⟨c1,rfl,hx1,hb1⟩;obtain⟨fa1,fc1,ca1,cc1,rfl,_,_⟩:=hx1.parts;have hq1:Below u1.heap.size u1 (u1.alloc (.cells #[.slice fa1 ex1.funcs.length fc1,.slice ca1 ex1.clauses.length cc1,.int .i64 ex1.action] 25)):=zzb.alloc zzl _;have HB1:Hid (Bel w (u1.alloc (.cells #[.slice fa1 ex1.funcs.length fc1,.slice ca1 ex1.clauses.length cc1,.int .i64 ex1.action] 25))):=Jd HB0.out (Jd hb1 hq1);have HN1:=Zh (zzw u1 (.cells #[.slice fa1 ex1.funcs.length fc1,.slice ca1 ex1.clauses.length cc1,.int .i64 ex1.action] 25));have HY1:=Zh (hx1.up hq1);clear hx1 hb1 hq1;go_upto_region 2 with fail;generalize World.alloc u1 _=v1 at *;generalize u1.heap.size=k1 at *;go_wp2_with fail;refine(JbL v1 (HL.out.below HB1.out)).mono ?_;rintro e u2 ⟨c2,rfl,hx2,hb2⟩;obtain⟨fa2,fc2,ca2,cc2,rfl,_,_⟩:=hx2.parts;have hq2:Below u2.heap.size u2 (u2.alloc (.cells #[.slice fa2 Qag.funcs.length fc2,.slice ca2 Qag.clauses.length cc2,.int .i64 Qag.action] 25)):=zzb.alloc zzl _;have HB2:Hid (Bel w (u2.alloc (.cells #[.slice fa2 Qag.funcs.length fc2,.slice ca2 Qag.clauses.length cc2,.int .i64 Qag.action] 25))):=Jd HB1.out (Jd hb2 hq2);have HP2:Hid (Below v1.heap.size v1 (u2.alloc (.cells #[.slice fa2 Qag.funcs.length fc2,.slice ca2 Qag.clauses.length cc2,.int .i64 Qag.action] 25))):=Jd hb2 hq2;clear hx2 hb2 hq2;go_upto_region 3 with fail;generalize World.alloc u2 _=v2 at *;generalize u2.heap.size=k2 at *;go_wp2_with fail;refine(JbM v2 (HL.out.below HB2.out)).mono ?_;rintro e u3 ⟨c3,rfl,hx3,hb3⟩;obtain⟨fa3,fc3,ca3,cc3,rfl,_,_⟩:=hx3.parts;have hq3:Below u3.heap.size u3 (u3.alloc (.cells #[.slice fa3 Qag.funcs.length fc3,.slice ca3 Qag.clauses.length cc3,.int .i64 Qag.action] 25)):=zzb.alloc zzl _;have HB3:Hid (Bel w (u3.alloc (.cells #[.slice fa3 Qag.funcs.length fc3,.slice ca3 Qag.clauses.length cc3,.int .i64 Qag.action] 25))):=Jd HB2.out (Jd hb3 hq3);have HP3:Hid (Below v2.heap.size v2 (u3.alloc (.cells #[.slice fa3 Qag.funcs.length fc3,.slice ca3 Qag.clauses.length cc3,.int .i64 Qag.action] 25))):=Jd hb3 hq3;clear hx3 hb3 hq3;go_upto_region 4 with fail;generalize World.alloc u3 _=v3 at *;generalize u3.heap.size=k3 at *;go_wp2_with fail;refine(JbN v3 (HL.out.below HB3.out)).mono ?_;rintro e u4 ⟨c4,rfl,hx4,hb4⟩;obtain⟨fa4,fc4,ca4,cc4,rfl,_,_⟩:=hx4.parts;have hq4:Below u4.heap.size u4 (u4.alloc (.cells #[.slice fa4 Qag.funcs.length fc4,.slice ca4 Qag.clauses.length cc4,.int .i64 Qag.action] 25)):=zzb.alloc zzl _;have HB4:Hid (Bel w (u4.alloc (.cells #[.slice fa4 Qag.funcs.length fc4,.slice ca4 Qag.clauses.length cc4,.int .i64 Qag.action] 25))):=Jd HB3.out (Jd hb4 hq4);have HP4:Hid (Below v3.heap.size v3 (u4.alloc (.cells #[.slice fa4 Qag.funcs.length fc4,.slice ca4 Qag.clauses.length cc4,.int .i64 Qag.action] 25))):=Jd hb4 hq4;clear hx4 hb4 hq4;go_upto_region 5 with fail;generalize World.alloc u4 _=v4 at *;generalize u4.heap.size=k4 at *;go_wp2_with fail;refine(JbO v4 (HL.out.below HB4.out)).mono ?_;rintro e u5 ⟨c5,rfl,hx5,hb5⟩;obtain⟨fa5,fc5,ca5,cc5,rfl,_,_⟩:=hx5.parts;have hq5:Below u5.heap.size u5 (u5.alloc (.cells #[.slice fa5 Qag.funcs.length fc5,.slice ca5 Qag.clauses.length cc5,.int .i64 Qag.action] 25)):=zzb.alloc zzl _;have HB5:Hid (Bel w (u5.alloc (.cells #[.slice fa5 Qag.funcs.length fc5,.slice ca5 Qag.clauses.length cc5,.int .i64 Qag.action] 25))):=Jd HB4.out (Jd hb5 hq5);have HP5:Hid (Below v4.heap.size v4 (u5.alloc (.cells #[.slice fa5 Qag.funcs.length fc5,.slice ca5 Qag.clauses.length cc5,.int .i64 Qag.action] 25))):=Jd hb5 hq5;clear hx5 hb5 hq5;go_upto_region 6 with fail;generalize World.alloc u5 _=v5 at *;generalize u5.heap.size=k5 at *;have HW5:Hid (Bel v1 v5):=Jd (Jd (Jd HP2.out HP3.out) HP4.out) HP5.out;clear HP2 HP3 HP4 HP5
 have F1:Hid (∀ W,Bel v1 W->W.cell? ⟨k1,0,none⟩=some (.slice fa1 1 fc1)/\W.cell? ⟨k1,1,none⟩=some (.slice ca1 1 cc1)/\W.cell? ⟨k1,2,none⟩=some (.int .i64 0)):=by
  intro W hW;have hh:=(hW.block _ (Jb HN1.out)).trans HN1.out;refine⟨?_,?_,?_⟩<;>(rw[Ja hh];rfl)
 obtain⟨r0,r1,r2⟩:=F1.out _ HW5.out;go_upto_region 8 with fail;clear r0 r1 r2;obtain⟨hbv,hz1,hz2,hz3,hz4⟩:=JkR v5 (.cells #[.int .i64 0,.int .i64 3,.string ⟨#[]⟩,.slice none 0 0,.int .i64 2,.int .i64 0,.string ⟨#[]⟩,.slice none 0 0] 30) (.cells #[.int .i64 13,.int .i64 0,.string ⟨#[]⟩,.slice (some ⟨v5.heap.size,0,none⟩) 2 2] 30) (.cells #[.int .i64 3,.int .i64 0,.string ⟨#[108,105,107,101,115]⟩,.slice none 0 0] 30) (.cells #[.int .i64 20,.int .i64 0,.string ⟨#[]⟩,.slice (some ⟨v5.heap.size+1+1,0,none⟩) 1 1] 30);have HV6:=Zh (Jd HW5.out hbv);have HB6:=Zh (Jd HB5.out hbv);have HZ1:=Zh hz1;have HZ2:=Zh hz2;have HZ3:=Zh hz3;have HZ4:=Zh hz4;clear hbv hz1 hz2 hz3 hz4;go_upto_region 10 with fail;generalize World.alloc (World.alloc (World.alloc (World.alloc v5 _) _) _) _=v6 at *;generalize v5.heap.size+1+1+1=z4 at *;generalize v5.heap.size+1+1=z3 at *;generalize v5.heap.size+1=z2 at *;generalize v5.heap.size=z1 at *;have HEL1:Hid (QdC v6 (.mk 13 0 [] [.mk 0 3 [] [],.mk 2 0 [] []]) [.int .i64 13,.int .i64 0,.string ⟨#[]⟩,.slice (some ⟨z1,0,none⟩) 2 2]):=JiQ HZ1.out;have HEL2:Hid (QdC v6 (.mk 20 0 [] [.mk 3 0 lkN []]) [.int .i64 20,.int .i64 0,.string ⟨#[]⟩,.slice (some ⟨z3,0,none⟩) 1 1]):=JiR HZ3.out;replace HV6:Hid (Bel v1 v6):=HV6;replace HB6:Hid (Bel w v6):=HB6;replace HZ2:Hid (∀ W,Bel v6 W->_):=Zh fun W hW=>Qeq (b:=z2) ((hW.block _ (Jb HZ2.out)).trans HZ2.out)
 replace HZ4:Hid (∀ W,Bel v6 W->_):=Zh fun W hW=>Qeq (b:=z4) ((hW.block _ (Jb HZ4.out)).trans HZ4.out)
 obtain⟨fv,cv,ee,hf1,hk1⟩:=HY1.out.up HV6.out;obtain⟨fad,fcc,rfl,g1⟩:=Qec.of FnX.len hf1;obtain⟨cad,ccc,rfl,g2⟩:=Qec.of ClX.len hk1;injection ee with ee;injection ee with e1 ee;injection ee with e2 _;injection e1 with e1 _ e3;injection e2 with e2 _ e4;subst e1;subst e2;subst e3;subst e4;obtain⟨fb,fo,rfl,hk⟩:=g1 (List.cons_ne_nil _ _);obtain⟨cb,co,rfl,hk2⟩:=g2 (List.cons_ne_nil _ _);obtain⟨d,hr,hc⟩:=hk 0 _ rfl;obtain⟨d2,hr2,hc2⟩:=hk2 0 _ rfl;obtain⟨pa,pc,xa,xc,rfl,_,hbody⟩:=hr.form;obtain⟨ya,yc,rfl,hcond⟩:=hr2.form;have HPF:Hid (∀ W,Bel v6 W->W.cell? ⟨fb,fo+3,none⟩=some (.int .i64 13)/\W.cell? ⟨fb,fo+3+1,none⟩=some (.int .i64 0)/\W.cell? ⟨fb,fo+3+2,none⟩=some (.string (bs []))/\W.cell? ⟨fb,fo+3+3,none⟩=some (.slice xa 2 xc)):=Zh fun W hW=>⟨hc W hW 3 _ rfl,hc W hW 4 _ rfl,hc W hW 5 _ rfl,hc W hW 6 _ rfl⟩
 have HPC:Hid (∀ W,Bel v6 W->W.cell? ⟨cb,co,none⟩=some (.int .i64 20)/\W.cell? ⟨cb,co+1,none⟩=some (.int .i64 0)/\W.cell? ⟨cb,co+2,none⟩=some (.string (bs []))/\W.cell? ⟨cb,co+3,none⟩=some (.slice ya 1 yc)/\W.cell? ⟨cb,co+4,none⟩=some (.int .i64 3)/\W.cell? ⟨cb,co+5,none⟩=some (.string (bs [115,112,97,109]))):=Zh fun W hW=>⟨hc2 W hW 0 _ rfl,hc2 W hW 1 _ rfl,hc2 W hW 2 _ rfl,hc2 W hW 3 _ rfl,hc2 W hW 4 _ rfl,hc2 W hW 5 _ rfl⟩
 have HC1:Hid (∀ W,Bel v6 W->Calls prog 21 #[.agg #[.int .i64 13,.int .i64 0,.string (bs []),.slice xa 2 xc],.agg #[.int .i64 13,.int .i64 0,.string ⟨#[]⟩,.slice (some ⟨z1,0,none⟩) 2 2]] W (Qck W (.bool true))):=Zh fun W hW=>Vl (.mk 13 0 [] [.mk 0 3 [] [],.mk 2 0 [] []]) (.mk 13 0 [] [.mk 0 3 [] [],.mk 2 0 [] []]) _ _ W (by simp[utN,utL,JG,Ju,JE]) hbody HEL1.out hW
 have HC2:Hid (∀ W,Bel v6 W->Calls prog 21 #[.agg #[.int .i64 20,.int .i64 0,.string (bs []),.slice ya 1 yc],.agg #[.int .i64 20,.int .i64 0,.string ⟨#[]⟩,.slice (some ⟨z3,0,none⟩) 1 1]] W (Qck W (.bool true))):=Zh fun W hW=>Vl (.mk 20 0 [] [.mk 3 0 lkN []]) (.mk 20 0 [] [.mk 3 0 lkN []]) _ _ W (by simp[utN,utL,JG,Ju,JE]) hcond HEL2.out hW
 have F2:Hid (∀ W,Bel v6 W->_):=Zh fun W hW=>F1.out W (Jd HV6.out hW)
 have HY6:=Zh (HY1.out.up HV6.out);clear hf1 hk1 g1 g2 hk hk2 hr hr2 hc hc2 hbody hcond F1 HY1 HV6 HEL1 HEL2 HZ1 HZ3 HW5;refine KJ 38 [] (fun i=>WK.rel (match i with|0=>.const (.pointer (some ⟨k1,0,none⟩))|1=>.const (.slice (some ⟨fb,fo,none⟩) 1 fc1)|2=>.const (.pointer (some ⟨fb,fo,none⟩))|3=>.const (.pointer (some ⟨fb,fo+3,none⟩))|4=>.const (.agg #[.int .i64 13,.int .i64 0,.string (bs []),.slice xa 2 xc])|5=>.const (.agg #[.int .i64 13,.int .i64 0,.string ⟨#[]⟩,.slice (some ⟨z1,0,none⟩) 2 2])|6=>.const (.bool true)|7=>.const (.bool true)|8=>.const (.pointer (some ⟨k1,1,none⟩))|9=>.const (.slice (some ⟨cb,co,none⟩) 1 cc1)|10=>.const (.pointer (some ⟨cb,co,none⟩))|11=>.const (.pointer (some ⟨cb,co,none⟩))|12=>.const (.agg #[.int .i64 20,.int .i64 0,.string (bs []),.slice ya 1 yc])|13=>.const (.agg #[.int .i64 20,.int .i64 0,.string ⟨#[]⟩,.slice (some ⟨z3,0,none⟩) 1 1])|14=>.const (.bool true)|15=>.const (.bool true)|16=>.const (.bool true)|17=>.const (.pointer (some ⟨k1,1,none⟩))|18=>.const (.slice (some ⟨cb,co,none⟩) 1 cc1)|19=>.const (.pointer (some ⟨cb,co,none⟩))|20=>.const (.pointer (some ⟨cb,co+4,none⟩))|21=>.const (.int .i64 3)|22=>.const (.bool true)|23=>.const (.bool true)|24=>.const (.bool true)|25=>.const (.pointer (some ⟨k1,1,none⟩))|26=>.const (.slice (some ⟨cb,co,none⟩) 1 cc1)|27=>.const (.pointer (some ⟨cb,co,none⟩))|28=>.const (.pointer (some ⟨cb,co+5,none⟩))|29=>.const (.string (bs [115,112,97,109]))|30=>.const (.bool true)|31=>.const (.bool true)|32=>.const (.bool true)|33=>.const (.pointer (some ⟨k1,2,none⟩))|34=>.const (.int .i64 0)|35=>.const (.bool true)|36=>.const (.bool true)|37=>.const (.bool true)|_=>.const undef)) (fun W=>Bel v6 W) zzb.drew (by decide) (fun _ _ h hb=>Jd h hb) (fun i v P P1 w w1=>WK.keep _ v P P1 w w1) (Qft (n:=38) ?_) ?_
 ·refine⟨⟨⟨⟨⟨⟨⟨⟨⟨⟨⟨⟨⟨⟨⟨⟨⟨⟨⟨⟨⟨⟨⟨⟨⟨⟨⟨⟨⟨⟨⟨⟨⟨⟨⟨⟨⟨⟨trivial,?_⟩,?_⟩,?_⟩,?_⟩,?_⟩,?_⟩,?_⟩,?_⟩,?_⟩,?_⟩,?_⟩,?_⟩,?_⟩,?_⟩,?_⟩,?_⟩,?_⟩,?_⟩,?_⟩,?_⟩,?_⟩,?_⟩,?_⟩,?_⟩,?_⟩,?_⟩,?_⟩,?_⟩,?_⟩,?_⟩,?_⟩,?_⟩,?_⟩,?_⟩,?_⟩,?_⟩,?_⟩,?_⟩
  ·refine QaP.of 0 rfl fun a0 w0 Pr hb hP hn hd ho K hK=>?_
   exact QjX
  ·refine QaP.of 1 rfl fun a0 w0 Pr hb hP hn hd ho K hK=>?_
   obtain⟨v0,rfl,e0⟩:=hd 0 69 (by kernel_rfl) rfl;obtain⟨r0,r1,r2⟩:=F2.out _ hb;exact bx4
  ·refine QaP.of 2 rfl fun a0 w0 Pr hb hP hn hd ho K hK=>?_
   obtain⟨v1,rfl,e1⟩:=hd 1 70 (by kernel_rfl) rfl;exact bx4
  ·refine QaP.of 3 rfl fun a0 w0 Pr hb hP hn hd ho K hK=>?_
   obtain⟨v2,rfl,e2⟩:=hd 2 71 (by kernel_rfl) rfl;exact bx4
  ·refine QaP.of 4 rfl fun a0 w0 Pr hb hP hn hd ho K hK=>?_
   obtain⟨v3,rfl,e3⟩:=hd 3 72 (by kernel_rfl) rfl;obtain⟨p0,p1,p2,p3⟩:=HPF.out _ hb;exact bx4
  ·refine QaP.of 5 rfl fun a0 w0 Pr hb hP hn hd ho K hK=>?_
   have o16:a0.tmps[16]?.getD undef=.pointer (some ⟨z2,0,none⟩):=ho 16 (by kernel_rfl);obtain⟨s0,s1,s2,s3⟩:=HZ2.out _ hb;exact bx4
  ·refine QaP.of 6 rfl fun a0 w0 Pr hb hP hn hd ho K hK=>?_
   obtain⟨v4,rfl,e4⟩:=hd 4 73 (by kernel_rfl) rfl;obtain⟨v5,rfl,e5⟩:=hd 5 74 (by kernel_rfl) rfl;have cr:=HC1.out _ hb;exact Qks
  ·refine QaP.of 7 rfl fun a0 w0 Pr hb hP hn hd ho K hK=>?_
   obtain⟨v6,rfl,e6⟩:=hd 6 75 (by kernel_rfl) rfl;exact bx4
  ·refine QaP.of 8 rfl fun a0 w0 Pr hb hP hn hd ho K hK=>?_
   obtain⟨v7,rfl,e7⟩:=hd 7 76 (by kernel_rfl) rfl;rw[if_pos (JC e7 (by kernel_rfl))];exact QjX
  ·refine QaP.of 9 rfl fun a0 w0 Pr hb hP hn hd ho K hK=>?_
   obtain⟨v7,rfl,e7⟩:=hd 7 76 (by kernel_rfl) rfl;rw[if_pos (JC e7 (by kernel_rfl))];obtain⟨v8,rfl,e8⟩:=hd 8 77 (by kernel_rfl) rfl;obtain⟨r0,r1,r2⟩:=F2.out _ hb;exact bx4
  ·refine QaP.of 10 rfl fun a0 w0 Pr hb hP hn hd ho K hK=>?_
   obtain⟨v7,rfl,e7⟩:=hd 7 76 (by kernel_rfl) rfl;rw[if_pos (JC e7 (by kernel_rfl))];obtain⟨v9,rfl,e9⟩:=hd 9 78 (by kernel_rfl) rfl;exact bx4
  ·refine QaP.of 11 rfl fun a0 w0 Pr hb hP hn hd ho K hK=>?_
   obtain⟨v7,rfl,e7⟩:=hd 7 76 (by kernel_rfl) rfl;rw[if_pos (JC e7 (by kernel_rfl))];obtain⟨v10,rfl,e10⟩:=hd 10 79 (by kernel_rfl) rfl;exact bx4
  ·refine QaP.of 12 rfl fun a0 w0 Pr hb hP hn hd ho K hK=>?_
   obtain⟨v7,rfl,e7⟩:=hd 7 76 (by kernel_rfl) rfl;rw[if_pos (JC e7 (by kernel_rfl))];obtain⟨v11,rfl,e11⟩:=hd 11 80 (by kernel_rfl) rfl;obtain⟨q0,q1,q2,q3,q4,q5⟩:=HPC.out _ hb;exact bx4
  ·refine QaP.of 13 rfl fun a0 w0 Pr hb hP hn hd ho K hK=>?_
   obtain⟨v7,rfl,e7⟩:=hd 7 76 (by kernel_rfl) rfl;rw[if_pos (JC e7 (by kernel_rfl))];have o17:a0.tmps[17]?.getD undef=.pointer (some ⟨z4,0,none⟩):=ho 17 (by kernel_rfl);obtain⟨s0,s1,s2,s3⟩:=HZ4.out _ hb;exact bx4
  ·refine QaP.of 14 rfl fun a0 w0 Pr hb hP hn hd ho K hK=>?_
   obtain⟨v7,rfl,e7⟩:=hd 7 76 (by kernel_rfl) rfl;rw[if_pos (JC e7 (by kernel_rfl))];obtain⟨v12,rfl,e12⟩:=hd 12 81 (by kernel_rfl) rfl;obtain⟨v13,rfl,e13⟩:=hd 13 82 (by kernel_rfl) rfl;have cr:=HC2.out _ hb;exact Qks
  ·refine QaP.of 15 rfl fun a0 w0 Pr hb hP hn hd ho K hK=>?_
   obtain⟨v7,rfl,e7⟩:=hd 7 76 (by kernel_rfl) rfl;obtain⟨v14,rfl,e14⟩:=hd 14 83 (by kernel_rfl) rfl;exact bx4
  ·refine QaP.of 16 rfl fun a0 w0 Pr hb hP hn hd ho K hK=>?_
   obtain⟨v15,rfl,e15⟩:=hd 15 84 (by kernel_rfl) rfl;exact bx4
  ·refine QaP.of 17 rfl fun a0 w0 Pr hb hP hn hd ho K hK=>?_
   obtain⟨v16,rfl,e16⟩:=hd 16 85 (by kernel_rfl) rfl;rw[if_pos (JC e16 (by kernel_rfl))];exact QjX
  ·refine QaP.of 18 rfl fun a0 w0 Pr hb hP hn hd ho K hK=>?_
   obtain⟨v16,rfl,e16⟩:=hd 16 85 (by kernel_rfl) rfl;rw[if_pos (JC e16 (by kernel_rfl))];obtain⟨v17,rfl,e17⟩:=hd 17 86 (by kernel_rfl) rfl;obtain⟨r0,r1,r2⟩:=F2.out _ hb;exact bx4
  ·refine QaP.of 19 rfl fun a0 w0 Pr hb hP hn hd ho K hK=>?_
   obtain⟨v16,rfl,e16⟩:=hd 16 85 (by kernel_rfl) rfl;rw[if_pos (JC e16 (by kernel_rfl))];obtain⟨v18,rfl,e18⟩:=hd 18 87 (by kernel_rfl) rfl;exact bx4
  ·refine QaP.of 20 rfl fun a0 w0 Pr hb hP hn hd ho K hK=>?_
   obtain⟨v16,rfl,e16⟩:=hd 16 85 (by kernel_rfl) rfl;rw[if_pos (JC e16 (by kernel_rfl))];obtain⟨v19,rfl,e19⟩:=hd 19 88 (by kernel_rfl) rfl;exact bx4
  ·refine QaP.of 21 rfl fun a0 w0 Pr hb hP hn hd ho K hK=>?_
   obtain⟨v16,rfl,e16⟩:=hd 16 85 (by kernel_rfl) rfl;rw[if_pos (JC e16 (by kernel_rfl))];obtain⟨v20,rfl,e20⟩:=hd 20 89 (by kernel_rfl) rfl;obtain⟨q0,q1,q2,q3,q4,q5⟩:=HPC.out _ hb;exact bx4
  ·refine QaP.of 22 rfl fun a0 w0 Pr hb hP hn hd ho K hK=>?_
   obtain⟨v16,rfl,e16⟩:=hd 16 85 (by kernel_rfl) rfl;rw[if_pos (JC e16 (by kernel_rfl))];obtain⟨v21,rfl,e21⟩:=hd 21 90 (by kernel_rfl) rfl;exact bx4
  ·refine QaP.of 23 rfl fun a0 w0 Pr hb hP hn hd ho K hK=>?_
   obtain⟨v16,rfl,e16⟩:=hd 16 85 (by kernel_rfl) rfl;obtain⟨v22,rfl,e22⟩:=hd 22 91 (by kernel_rfl) rfl;exact bx4
  ·refine QaP.of 24 rfl fun a0 w0 Pr hb hP hn hd ho K hK=>?_
   obtain⟨v23,rfl,e23⟩:=hd 23 92 (by kernel_rfl) rfl;exact bx4
  ·refine QaP.of 25 rfl fun a0 w0 Pr hb hP hn hd ho K hK=>?_
   obtain⟨v24,rfl,e24⟩:=hd 24 93 (by kernel_rfl) rfl;rw[if_pos (JC e24 (by kernel_rfl))];exact QjX
  ·refine QaP.of 26 rfl fun a0 w0 Pr hb hP hn hd ho K hK=>?_
   obtain⟨v24,rfl,e24⟩:=hd 24 93 (by kernel_rfl) rfl;rw[if_pos (JC e24 (by kernel_rfl))];obtain⟨v25,rfl,e25⟩:=hd 25 94 (by kernel_rfl) rfl;obtain⟨r0,r1,r2⟩:=F2.out _ hb;exact bx4
  ·refine QaP.of 27 rfl fun a0 w0 Pr hb hP hn hd ho K hK=>?_
   obtain⟨v24,rfl,e24⟩:=hd 24 93 (by kernel_rfl) rfl;rw[if_pos (JC e24 (by kernel_rfl))];obtain⟨v26,rfl,e26⟩:=hd 26 95 (by kernel_rfl) rfl;exact bx4
  ·refine QaP.of 28 rfl fun a0 w0 Pr hb hP hn hd ho K hK=>?_
   obtain⟨v24,rfl,e24⟩:=hd 24 93 (by kernel_rfl) rfl;rw[if_pos (JC e24 (by kernel_rfl))];obtain⟨v27,rfl,e27⟩:=hd 27 96 (by kernel_rfl) rfl;exact bx4
  ·refine QaP.of 29 rfl fun a0 w0 Pr hb hP hn hd ho K hK=>?_
   obtain⟨v24,rfl,e24⟩:=hd 24 93 (by kernel_rfl) rfl;rw[if_pos (JC e24 (by kernel_rfl))];obtain⟨v28,rfl,e28⟩:=hd 28 97 (by kernel_rfl) rfl;obtain⟨q0,q1,q2,q3,q4,q5⟩:=HPC.out _ hb;exact bx4
  ·refine QaP.of 30 rfl fun a0 w0 Pr hb hP hn hd ho K hK=>?_
   obtain⟨v24,rfl,e24⟩:=hd 24 93 (by kernel_rfl) rfl;rw[if_pos (JC e24 (by kernel_rfl))];obtain⟨v29,rfl,e29⟩:=hd 29 98 (by kernel_rfl) rfl;have qb:((bs [115,112,97,109]).toList==([115,112,97,109]:List UInt8))=true:=by rw[Jl];rfl
   exact bx4
  ·refine QaP.of 31 rfl fun a0 w0 Pr hb hP hn hd ho K hK=>?_
   obtain⟨v24,rfl,e24⟩:=hd 24 93 (by kernel_rfl) rfl;obtain⟨v30,rfl,e30⟩:=hd 30 99 (by kernel_rfl) rfl;exact bx4
  ·refine QaP.of 32 rfl fun a0 w0 Pr hb hP hn hd ho K hK=>?_
   obtain⟨v31,rfl,e31⟩:=hd 31 100 (by kernel_rfl) rfl;exact bx4
  ·refine QaP.of 33 rfl fun a0 w0 Pr hb hP hn hd ho K hK=>?_
   obtain⟨v32,rfl,e32⟩:=hd 32 101 (by kernel_rfl) rfl;rw[if_pos (JC e32 (by kernel_rfl))];exact QjX
  ·refine QaP.of 34 rfl fun a0 w0 Pr hb hP hn hd ho K hK=>?_
   obtain⟨v32,rfl,e32⟩:=hd 32 101 (by kernel_rfl) rfl;rw[if_pos (JC e32 (by kernel_rfl))];obtain⟨v33,rfl,e33⟩:=hd 33 102 (by kernel_rfl) rfl;obtain⟨r0,r1,r2⟩:=F2.out _ hb;exact bx4
  ·refine QaP.of 35 rfl fun a0 w0 Pr hb hP hn hd ho K hK=>?_
   obtain⟨v32,rfl,e32⟩:=hd 32 101 (by kernel_rfl) rfl;rw[if_pos (JC e32 (by kernel_rfl))];obtain⟨v34,rfl,e34⟩:=hd 34 103 (by kernel_rfl) rfl;exact bx4
  ·refine QaP.of 36 rfl fun a0 w0 Pr hb hP hn hd ho K hK=>?_
   obtain⟨v32,rfl,e32⟩:=hd 32 101 (by kernel_rfl) rfl;obtain⟨v35,rfl,e35⟩:=hd 35 104 (by kernel_rfl) rfl;exact bx4
  ·refine QaP.of 37 rfl fun a0 w0 Pr hb hP hn hd ho K hK=>?_
   obtain⟨v36,rfl,e36⟩:=hd 36 105 (by kernel_rfl) rfl;exact bx4
 intro n9 vs v9 hn9 hb9 hp9 hd9 hr9;have e9:vs 37=_:=hr9 37 (by decide);have hb9:Bel v6 v9:=hb9;rw[show Qbk _ 38 vs=[(69,vs 0),(70,vs 1),(71,vs 2),(72,vs 3),(73,vs 4),(74,vs 5),(75,vs 6),(76,vs 7),(77,vs 8),(78,vs 9),(79,vs 10),(80,vs 11),(81,vs 12),(82,vs 13),(83,vs 14),(84,vs 15),(85,vs 16),(86,vs 17),(87,vs 18),(88,vs 19),(89,vs 20),(90,vs 21),(91,vs 22),(92,vs 23),(93,vs 24),(94,vs 25),(95,vs 26),(96,vs 27),(97,vs 28),(98,vs 29),(99,vs 30),(100,vs 31),(101,vs 32),(102,vs 33),(103,vs 34),(104,vs 35),(105,vs 36),(18,vs 37)] from rfl];simp only[Qcq,e9,List.setIfInBounds_toArray,List.set_cons_zero,List.set_cons_succ];have HB9:Hid (Bel w v9):=Jd HB6.out hb9;have HY9:=Zh (HY6.out.up hb9);obtain⟨r0,r1,r2⟩:=F2.out _ hb9;clear hn9 hb9 hp9 hd9 hr9 e9 HC1 HC2 HPF HPC F2 HY6 HB6 HZ2 HZ4;generalize vs 0=x0;generalize vs 1=x1;generalize vs 2=x2;generalize vs 3=x3;generalize vs 4=x4;generalize vs 5=x5;generalize vs 6=x6;generalize vs 7=x7;generalize vs 8=x8;generalize vs 9=x9;generalize vs 10=x10;generalize vs 11=x11;generalize vs 12=x12;generalize vs 13=x13;generalize vs 14=x14;generalize vs 15=x15;generalize vs 16=x16;generalize vs 17=x17;generalize vs 18=x18;generalize vs 19=x19;generalize vs 20=x20;generalize vs 21=x21;generalize vs 22=x22;generalize vs 23=x23;generalize vs 24=x24;generalize vs 25=x25;generalize vs 26=x26;generalize vs 27=x27;generalize vs 28=x28;generalize vs 29=x29;generalize vs 30=x30;generalize vs 31=x31;generalize vs 32=x32;generalize vs 33=x33;generalize vs 34=x34;generalize vs 35=x35;generalize vs 36=x36;clear vs;refine QjP ?_;go_wp2_with fail;refine(Jdb v9 _ HY9.out (HL.out.below HB9.out)).mono ?_;rintro e w9 ⟨rfl,hbb⟩;have HFIN:Hid (Bel w w9):=Jd HB9.out hbb;clear hbb r0 r1 r2;go_wp2;go_ret;exact⟨rfl,HFIN.out⟩
theorem QbU{w W:World}{k:Nat}{o:Obj}(h:w.heap[k]?=some o)(hb:Below w.heap.size w W):W.heap[k]?=some o:=(hb.block _ (Jb h)).trans h
theorem QiB{l:List UInt8}{ts:List Tok}(h:sc 0 l=.ok ts):∀ t∈ts,QcA t.n/\t.text.length<=50:=by
 obtain⟨us,rfl,hu,_⟩:=Jjy l 0 ts h;intro t ht
 rcases List.mem_append.1 ht with g|g
 ·have:=hu t g;exact⟨by unfold QcA;omega,by omega⟩
 ·rw[List.mem_singleton.1 g];exact⟨⟨show (-9223372036854775808:Int)<=0 by decide,show (0:Int)<=9223372036854775807 by decide⟩,Nat.zero_le _⟩
end Go.Proofs.YtdlkcjkjnehnkaaGreatDoor
