import Derived.Test.YtncanmdgdflnpaaGreatDoorR07
open List(all_eq_true mem_of_getElem?)
namespace Go.Proofs.YtncanmdgdflnpaaGreatDoor
open Go.ChangeShapes Go.WideShapes Go.ChangeAt Go.RowKit Go.Lib
open _root_.Go.Proofs.Tryz
set_option linter.all false
set_option maxRecDepth 100000
set_option maxHeartbeats 32000000
def In.up{w W:World}(hb:Below w.heap.size w W){b:Nat}(h:In w b):In W b:=Nat.lt_of_lt_of_le h hb.size
def Qbc.up{w W:World}{l:List Int}{v:Value}(h:Qbc w (In w) l v)(hb:Below w.heap.size w W):Qbc W (In W) l v:=Qbc.keep (λb hP=>hb.block b hP) (λb hP=>In.up hb hP) h
def Qbc.form{W:World}{P:Nat->Prop}{l:List Int}{v:Value}(h:Qbc W P l v):∃ad cc,v=.slice ad l.length cc/\l.length<=cc:=by
 obtain⟨ad,cc,h1,h2,_⟩:=h;exact⟨ad,cc,h1,h2⟩
def Qbc.get{W:World}{l:List Int}{ad:Option Addr}{m cc:Nat}(h:Qbc W (In W) l (.slice ad m cc)){i:Nat}{n:Int}(hi:l[i]?=some n):∃b o,ad=some ⟨b,o,none⟩/\b<W.heap.size/\W.cell? ⟨b,o+i,none⟩=some (Iv n):=by
 obtain⟨xA,yA,h1,_,h3⟩:=h;injection h1 with e1 e2 e3;subst e1
 rcases h3 with h|⟨b,o,h4,h5,h6⟩
 ·rw[h]at hi
  cases hi
 ·exact⟨b,o,h4,h5,h6 i n hi⟩
def QbU(W:World)(v:Value)(fs:List FnM):Prop:=Qao W (In W) (FnX W (In W)) fs v
def Qeh(W:World)(v:Value)(cs:List ClM):Prop:=Qao W (In W) (ClX W (In W)) cs v
def QbU.up{w W:World}{v:Value}{fs:List FnM}(h:QbU w v fs)(hb:Below w.heap.size w W):QbU W v fs:=Qao.keep (λb hP=>hb.block b hP) (λb hP=>In.up hb hP) (FnX.keep (λb hP=>hb.block b hP) λb hP=>In.up hb hP) h
def Qeh.up{w W:World}{v:Value}{cs:List ClM}(h:Qeh w v cs)(hb:Below w.heap.size w W):Qeh W v cs:=Qao.keep (λb hP=>hb.block b hP) (λb hP=>In.up hb hP) (ClX.keep (λb hP=>hb.block b hP) λb hP=>In.up hb hP) h
def QbU.form{W:World}{v:Value}{fs:List FnM}(h:QbU W v fs):∃ad cc,v=.slice ad fs.length cc/\fs.length<=cc:=by
 obtain⟨ad,cc,h1,h2,_⟩:=Qao.get FnX.len h;exact⟨ad,cc,h1,h2⟩
def Qeh.form{W:World}{v:Value}{cs:List ClM}(h:Qeh W v cs):∃ad cc,v=.slice ad cs.length cc/\cs.length<=cc:=by
 obtain⟨ad,cc,h1,h2,_⟩:=Qao.get ClX.len h;exact⟨ad,cc,h1,h2⟩
structure FnC(W:World)(b o:Nat)(f:FnM)(pa:Option Addr)(pc:Nat)(da:Option Addr)(dc:Nat):Prop where
 nums:Qbc W (In W) f.params (.slice pa f.params.length pc)
 ple:f.params.length<=pc
 body:XAt W (In W) f.body #[Iv f.body.kind,Iv f.body.num,.string (bs f.body.name),.slice da f.body.kids.length dc]
 blt:b<W.heap.size
 c0:W.cell? ⟨b,o,none⟩=some (.string (bs f.name))
 c1:W.cell? ⟨b,o+1,none⟩=some (.slice pa f.params.length pc)
 c2:W.cell? ⟨b,o+2,none⟩=some (Iv f.result)
 c3:W.cell? ⟨b,o+3,none⟩=some (Iv f.body.kind)
 c4:W.cell? ⟨b,o+4,none⟩=some (Iv f.body.num)
 c5:W.cell? ⟨b,o+5,none⟩=some (.string (bs f.body.name))
 c6:W.cell? ⟨b,o+6,none⟩=some (.slice da f.body.kids.length dc)
def QbU.get{W:World}{ad:Option Addr}{m cc:Nat}{fs:List FnM}(h:QbU W (.slice ad m cc) fs){i:Nat}{f:FnM}(hi:fs[i]?=some f):∃b o pa pc da dc,ad=some ⟨b,o,none⟩/\FnC W b (o+i*7) f pa pc da dc:=by
 obtain⟨xA,yA,h1,_,h3⟩:=Qao.get FnX.len h;injection h1 with e1 e2 e3;subst e1;obtain⟨b,o,h4,h5,h6⟩:=h3 (List.ne_nil_of_mem (mem_of_getElem? hi));obtain⟨c,⟨v,d,h7,h8,h9⟩,V3⟩:=h6 i f hi;obtain⟨pa,pc,rfl,hp⟩:=h7.form;obtain⟨da,dc,rfl,_⟩:=h8.form;subst h9;exact⟨b,o,pa,pc,da,dc,h4,h7,hp,h8,h5,V3 0 _ rfl,V3 1 _ rfl,V3 2 _ rfl,V3 3 _ rfl,V3 4 _ rfl,V3 5 _ rfl,V3 6 _ rfl⟩
structure ClC(W:World)(b o:Nat)(c:ClM)(da:Option Addr)(dc:Nat):Prop where
 cond:XAt W (In W) c.cond #[Iv c.cond.kind,Iv c.cond.num,.string (bs c.cond.name),.slice da c.cond.kids.length dc]
 blt:b<W.heap.size
 c0:W.cell? ⟨b,o,none⟩=some (Iv c.cond.kind)
 c1:W.cell? ⟨b,o+1,none⟩=some (Iv c.cond.num)
 c2:W.cell? ⟨b,o+2,none⟩=some (.string (bs c.cond.name))
 c3:W.cell? ⟨b,o+3,none⟩=some (.slice da c.cond.kids.length dc)
 c4:W.cell? ⟨b,o+4,none⟩=some (Iv c.action)
 c5:W.cell? ⟨b,o+5,none⟩=some (.string (bs c.reason))
def Qeh.get{W:World}{ad:Option Addr}{m cc:Nat}{cs:List ClM}(h:Qeh W (.slice ad m cc) cs){i:Nat}{c:ClM}(hi:cs[i]?=some c):∃b o da dc,ad=some ⟨b,o,none⟩/\ClC W b (o+i*6) c da dc:=by
 obtain⟨xA,yA,h1,_,h3⟩:=Qao.get ClX.len h;injection h1 with e1 e2 e3;subst e1;obtain⟨b,o,h4,h5,h6⟩:=h3 (List.ne_nil_of_mem (mem_of_getElem? hi));obtain⟨cl,⟨d,h8,h9⟩,V3⟩:=h6 i c hi;obtain⟨da,dc,rfl,_⟩:=h8.form;subst h9;exact⟨b,o,da,dc,h4,h8,h5,V3 0 _ rfl,V3 1 _ rfl,V3 2 _ rfl,V3 3 _ rfl,V3 4 _ rfl,V3 5 _ rfl⟩
def QbL(w:World)(v:Value)(e:Ending)(w':World):Prop:=e=.returned v/\Below w.heap.size w w'
def Qmy{P:Prop}(h:P:=by
  rw[hq];clear hq;go_enter func48,ntmps48;go_wp2;go_ret
  exact⟨rfl,rfl⟩):P:=h
def YZ(n:Int)(w:World):Calls prog 48 #[Iv n] w (Qbj (.bool (QdU n)) w):=by
 by_cases h0:0<=n
 ·have d0:decide (0<=n)=true:=zE h0
  by_cases h3:n<=3
  ·have d3:decide (n<=3)=true:=zE h3;have hq:QdU n=true:=by unfold QdU;rw[d0,d3];rfl
   exact Qmy
  ·have d3:decide (n<=3)=false:=zF h3;have hq:QdU n=false:=by unfold QdU;rw[d0,d3];rfl
   exact Qmy
 ·have d0:decide (0<=n)=false:=zF h0;have hq:QdU n=false:=by unfold QdU;rw[d0];rfl
  exact Qmy
def txB(c:UInt8):Bool:=decide (32<=c.toNat)&&decide (c.toNat<=126)&&c !=34&&c !=92
def Jhq(s:By):QbM s=(s.all txB&&decide (s.length<=24)):=rfl
def Jjd(m:Nat)(c:UInt8)(hc:c.toNat=m):txB c=true↔32<=m/\m<=126/\m≠34/\m≠92:=by
 subst hc;have xA:c=34↔c.toNat=34:=⟨λh=>by rw[h];rfl,λh=>UInt8.toNat_inj.1 h⟩
 have yA:c=92↔c.toNat=92:=⟨λh=>by rw[h];rfl,λh=>UInt8.toNat_inj.1 h⟩
 unfold txB;simp only[Bool.and_eq_true,decide_eq_true_eq,bne_iff_ne,ne_eq,xA,yA,and_assoc]
def Jbc(s:By)(w:World)(hs:s.length<=9223372036854775807):Calls prog 49 #[Sv s] w (Qbj (.bool (QbM s)) w):=by
 have z1:=JP s;obtain⟨n,hn⟩:∃n,s.length=n:=⟨_,rfl⟩
 obtain⟨q,hq⟩:∃q,QbM s=q:=⟨_,rfl⟩
 have hI:=Jhq s;rw[hq]at hI |-;rw[hn]at hI z1 hs;have HI:=Zh hI;have HN:=Zh hn;have HS:=Zh hs;clear hI hn hq hs;go_enter func49,ntmps49;go_wp2;go_loop [6] (λv=>∃k:Nat,v=Iv k/\k<=n/\Hi ((s.take k).all txB=true)) λv=>n-(intOf v).toNat
 case atStart=>exact⟨0,rfl,Nat.zero_le _,by unfold Hi;rfl⟩
 case round=>
  obtain⟨k,rfl,hk,hz⟩:=hrel
  by_cases hkn:k<n
  ·have wk:IntKind.i64.wrap ((k:Int)+1)=(k:Int)+1:=IntWalk.i64_in _ (zt HS.o);have dk:decide ((k:Int)<(n:Int))=true:=zE zo;have bA:decide (k<n)=true:=zE hkn;have bk:(k:Int)<(n:Int):=zo
   obtain⟨c,hc⟩:∃c,s[k]?=some c:=⟨_,List.getElem?_eq_getElem (zt HN.o)⟩
   obtain⟨m,hm⟩:∃m,c.toNat=m:=⟨_,rfl⟩
   have uA:m<256:=by rw[<-hm];exact c.toNat_lt
   have hg:∀h,((bs s)[k]'h).toNat=m:=λh=>by
    obtain⟨_,h2⟩:=List.getElem?_eq_some_iff.1 hc;rw[<-hm,<-h2];rfl
   have hw:=Jjd m c hm
   by_cases hwo:32<=m/\m<=126/\m≠34/\m≠92
   ·have RA:=Zh (JcD hz.o hc (hw.2 hwo));clear hz hc hm hw;obtain⟨g1,g2,g3,g4⟩:=hwo;have a1:decide ((m:Int)<32)=false:=zF zo;have vA:decide (m<32)=false:=zF zo;have a2:decide (126<(m:Int))=false:=zF zo;have aA:decide (126<m)=false:=zF zo;have e1:((m:Int)==34)=false:=zzq zo;have cA:(m==34)=false:=zzq zo;have e2:((m:Int)==92)=false:=zzq zo;have dA:(m==92)=false:=zzq zo;clear g1 g2 g3 g4;exact Qmk
   ·have hb:txB c=false:=by cases h:txB c with|false=>rfl|true=>exact absurd (hw.1 h) hwo
    have O0:q=false:=by rw[HI.o,JeA hc hb];rfl
    subst O0;clear hz hc hm hw hb HI
    by_cases l1:m<32
    ·have a1:decide ((m:Int)<32)=true:=zE zo;have vA:decide (m<32)=true:=zE zo;clear hwo;go_wp2;go_ret;exact⟨rfl,rfl⟩
    by_cases l2:126<m
    ·have a1:decide ((m:Int)<32)=false:=zF zo;have vA:decide (m<32)=false:=zF zo;have a2:decide (126<(m:Int))=true:=zE zo;have aA:decide (126<m)=true:=zE zo;clear l1;clear hwo;go_wp2;go_ret;exact⟨rfl,rfl⟩
    by_cases l3:m=34
    ·subst l3;clear l1 l2;clear hwo;go_wp2;go_ret;exact⟨rfl,rfl⟩
    have l4:m=92:=zo
    subst l4;clear l1 l2 l3;clear hwo;go_wp2;go_ret;exact⟨rfl,rfl⟩
  ·have dk:decide ((k:Int)<(n:Int))=false:=zF zo;have bA:decide (k<n)=false:=zF hkn
   have xA:s.all txB=true:=by
    have:=hz.o
    rwa [List.take_of_length_le (zt HN.o)]at this
   have yA:=HI.o;rw[xA]at yA;simp only[Bool.true_and]at yA
   by_cases R6:n<=24
   ·have d1:decide ((n:Int)<=24)=true:=zE zo;have zA:decide (n<=24)=true:=zE R6;have O0:q=true:=by rw[yA,zA]
    subst O0;clear hz xA yA HI R6 hk hkn;go_wp2;go_ret;exact⟨rfl,rfl⟩
   ·have d1:decide ((n:Int)<=24)=false:=zF zo;have zA:decide (n<=24)=false:=zF R6;have O0:q=false:=by rw[yA,zA]
    subst O0;clear hz xA yA HI R6 hk hkn;go_wp2;go_ret;exact⟨rfl,rfl⟩
def Jfx(s:By)(w:World)(hs:s.length<=9223372036854775807):Calls prog 47 #[Sv s] w (Qbj (.bool (Qbd s)) w):=by
 by_cases h:s.length<=1000000
 ·exact Jat s w h
 cases s with
 |nil=>simp at h
 |cons c0 r0=>
  have hq:Qbd (c0::r0)=false:=by
   unfold Qbd;rw[zF (show ¬(c0::r0).length<=24 by omega)];simp
  rw[hq];have u1:=Jk (c0::r0);have z1:=JP (c0::r0);have e0:((c0::r0)==[])=false:=rfl;have yA:(c0::r0).isEmpty=false:=rfl;obtain⟨n,hn⟩:∃n,(c0::r0).length=n:=⟨_,rfl⟩
  generalize c0::r0=s at*;rw[hn]at z1 h hs;have d1:decide (24<(n:Int))=true:=zE zo;have xA:decide (24<n)=true:=zE zo;clear hn hq h;exact QkS
def Qmj{P:Prop}(h:P:=by
  go_enter func123,ntmps123;go_wp2;go_ret
  exact⟨rfl,HB.o⟩):P:=h
def Jcn(fs:List FnM)(fa:Option Addr)(fl fc:Nat)(k n:Int)(s:By)(ad:Option Addr)(m cc:Nat)(w:World)(O2:k≠20):
  Calls prog 123 #[.slice fa fl fc,.agg #[Iv k,Iv n,Sv s,.slice ad m cc]] w (QbL w (Iv (Qbi (fs.map (·.params.length)) k n))):=by
 have HB:Hi (Below w.heap.size w (w.alloc (.cells #[Iv k,Iv n,Sv s,.slice ad m cc] 50))):=zzb.alloc zzl _
 by_cases h5:k=0\/k=1\/k=2\/k=3\/k=4\/k=5
 ·have hq:Qbi (fs.map (·.params.length)) k n=0:=by unfold Qbi;rw[if_pos h5]
  rw[hq];clear hq O2
  rcases h5 with rfl|rfl|rfl|rfl|rfl|rfl
  all_goals
   exact Qmj
 by_cases wB:k=6\/k=7
 ·have hq:Qbi (fs.map (·.params.length)) k n=1:=by unfold Qbi;rw[if_neg h5,if_pos wB]
  rw[hq];clear hq h5 O2
  rcases wB with rfl|rfl
  all_goals
   exact Qmj
 by_cases F5:k=18
 ·subst F5;exact Qmj
 have hq:Qbi (fs.map (·.params.length)) k n=2:=by unfold Qbi;rw[if_neg h5,if_neg wB,if_neg F5,if_neg O2]
 rw[hq];have e0:(k==0)=false:=zzq zo;have e1:(k==1)=false:=zzq zo;have e2:(k==2)=false:=zzq zo;have e3:(k==3)=false:=zzq zo;have e4:(k==4)=false:=zzq zo;have e5:(k==5)=false:=zzq zo;have e6:(k==6)=false:=zzq zo;have e7:(k==7)=false:=zzq zo;have yA:(k==18)=false:=zzq zo;have xA:(k==20)=false:=zzq zo;clear hq h5 wB F5 O2;exact Qmj
def JdS(fs:List FnM)(fa:Option Addr)(fc:Nat)(n:Int)(s:By)(ad:Option Addr)(m cc:Nat)(w:World)(hF:QbU w (.slice fa fs.length fc) fs)(hn:0<=n/\n<(fs.length:Int)):
  Calls prog 123 #[.slice fa fs.length fc,.agg #[Iv 20,Iv n,Sv s,.slice ad m cc]] w (QbL w (Iv (Qbi (fs.map (·.params.length)) 20 n))):=by
 obtain⟨i,rfl⟩:∃i:Nat,n=i:=⟨n.toNat,by omega⟩
 have hi:i<fs.length:=zo
 have hil:(i:Int)<(fs.length:Int):=zo
 obtain⟨f,hf⟩:∃f,fs[i]?=some f:=⟨fs[i],List.getElem?_eq_getElem hi⟩
 have hq:Qbi (fs.map (·.params.length)) 20 (i:Int)=f.params.length:=by
  unfold Qbi;rw[if_neg zd,if_neg zd,if_neg zd,if_pos rfl,List.getD_eq_getElem?_getD,List.getElem?_map,Int.toNat_natCast,hf];rfl
 rw[hq];have HB:Hi (Below w.heap.size w (w.alloc (.cells #[Iv 20,Iv i,Sv s,.slice ad m cc] 50))):=zzb.alloc zzl _;obtain⟨b,o,pa,pc,da,dc,rfl,hC⟩:=(hF.up HB.o).get hf;have S0:=Zh (zzw w (.cells #[Iv 20,Iv i,Sv s,.slice ad m cc] 50));have c1:=hC.c1;clear hq hf hF hC hn;go_enter func123,ntmps123;go_upto_region 1 with fail;generalize World.alloc w _=w1 at*;have b0:=Ja S0.o 0;have b1:=Ja S0.o 1;simp only[zW]at b0 b1;go_wp2;go_ret;exact⟨rfl,HB.o⟩
def Jbd(fs:List FnM)(v:Value)(k n:Int)(s:By)(ad:Option Addr)(m cc:Nat)(w:World)(hF:QbU w v fs)(hn:k=20->0<=n/\n<(fs.length:Int)):
  Calls prog 123 #[v,.agg #[Iv k,Iv n,Sv s,.slice ad m cc]] w (QbL w (Iv (Qbi (fs.map (·.params.length)) k n))):=by
 obtain⟨fa,fc,rfl,_⟩:=hF.form
 by_cases h:k=20
 ·subst h;exact JdS fs fa fc n s ad m cc w hF (hn rfl)
 ·exact Jcn fs fa _ fc k n s ad m cc w h
def wx3{P:Prop}(h:P:=by
  clear hq;go_enter func122,ntmps122;go_upto_region 1 with fail;generalize World.alloc w _=w1 at*;have b0:=Ja S0.o 0;have b1:=Ja S0.o 1;have b2:=Ja S0.o 2;simp only[ZD,ZE,ZF]at b0 b1 b2;go_region;go_wp2;go_ret
  exact⟨rfl,HB.o⟩):P:=h
def QkN{P:Prop}(h:P:=by
  cases s with
  |nil=>
   have es:(([]:By)==[])=true:=rfl;obtain rfl:q=true:=by rw[<-hq];simp[*]
   exact wx3
  |cons c0 r0=>
   have es:((c0::r0)==[])=false:=rfl;have es2:(c0::r0).isEmpty=false:=rfl;have es3:¬(c0::r0)=[]:=by simp
   generalize c0::r0=s at*;obtain rfl:q=false:=by rw[<-hq];simp[*]
   exact wx3):P:=h
theorem zAe{P:Prop}(h:P:=by
  have d1:decide (0<=n)=false:=zF zo;obtain rfl:q=false:=by rw[<-hq];simp[*]
  exact wx3):P:=h
theorem zAf{P:Prop}(h:P:=by
  have d1:decide (0<=n)=true:=zE zo;obtain rfl:q=false:=by rw[<-hq];simp[*]
  exact wx3):P:=h
def Jhr(fa:Option Addr)(nf fc M0:Nat)(n:Int)(s:By)(ad:Option Addr)(m cc:Nat)(w:World)(hs:s.length<=9223372036854775807):
  Calls prog 122 #[.slice fa nf fc,.agg #[Iv 0,Iv n,Sv s,.slice ad m cc],Iv M0] w (QbL w (.bool (Qab nf M0 0 n s))):=by
 obtain⟨q,hq⟩:∃q,Qab nf M0 0 n s=q:=⟨_,rfl⟩
 rw[hq];have S0:=Zh (zzw w (.cells #[Iv 0,Iv n,Sv s,.slice ad m cc] 50));have HB:Hi (Below w.heap.size w (w.alloc (.cells #[Iv 0,Iv n,Sv s,.slice ad m cc] 50)).drew):=(zzb.alloc zzl _).drew;have u1:=Jk s;unfold Qab at hq
 by_cases h1:0<=n
 ·by_cases h2:n<=1125899906842624
  ·have d1:decide (0<=n)=true:=zE zo;have d2:decide (n<=1125899906842624)=true:=zE zo;exact QkN
  ·exact zAf
 ·exact zAe
def Jhs(fa:Option Addr)(nf fc M0:Nat)(n:Int)(s:By)(ad:Option Addr)(m cc:Nat)(w:World)(hs:s.length<=9223372036854775807):
  Calls prog 122 #[.slice fa nf fc,.agg #[Iv 1,Iv n,Sv s,.slice ad m cc],Iv M0] w (QbL w (.bool (Qab nf M0 1 n s))):=by
 obtain⟨q,hq⟩:∃q,Qab nf M0 1 n s=q:=⟨_,rfl⟩
 rw[hq];have S0:=Zh (zzw w (.cells #[Iv 1,Iv n,Sv s,.slice ad m cc] 50));have HB:Hi (Below w.heap.size w (w.alloc (.cells #[Iv 1,Iv n,Sv s,.slice ad m cc] 50)).drew):=(zzb.alloc zzl _).drew;have u1:=Jk s;unfold Qab at hq
 by_cases h1:n=0
 ·subst h1;exact QkN
 ·have e0:(n==0)=false:=zzq h1
  by_cases h2:n=1
  ·subst h2;exact QkN
  ·have e1:(n==1)=false:=zzq h2;obtain rfl:q=false:=by rw[<-hq];simp[*]
   exact wx3
def Jht(fa:Option Addr)(nf fc M0:Nat)(n:Int)(s:By)(ad:Option Addr)(m cc:Nat)(w:World)(hs:s.length<=9223372036854775807):
  Calls prog 122 #[.slice fa nf fc,.agg #[Iv 2,Iv n,Sv s,.slice ad m cc],Iv M0] w (QbL w (.bool (Qab nf M0 2 n s))):=by
 obtain⟨q,hq⟩:∃q,Qab nf M0 2 n s=q:=⟨_,rfl⟩
 rw[hq];have S0:=Zh (zzw w (.cells #[Iv 2,Iv n,Sv s,.slice ad m cc] 50));have HB:Hi (Below w.heap.size w (w.alloc (.cells #[Iv 2,Iv n,Sv s,.slice ad m cc] 50)).drew):=(zzb.alloc zzl _).drew;have u1:=Jk s;unfold Qab at hq
 by_cases h1:0<=n
 ·by_cases h2:n<(M0:Int)
  ·have d1:decide (0<=n)=true:=zE zo;have d2:decide (n<(M0:Int))=true:=zE zo;exact QkN
  ·exact zAf
 ·exact zAe
def Jfy(fa:Option Addr)(nf fc M0:Nat)(n:Int)(s:By)(ad:Option Addr)(m cc:Nat)(w:World)(hs:s.length<=9223372036854775807):
  Calls prog 122 #[.slice fa nf fc,.agg #[Iv 19,Iv n,Sv s,.slice ad m cc],Iv M0] w (QbL w (.bool (Qab nf M0 19 n s))):=by
 obtain⟨q,hq⟩:∃q,Qab nf M0 19 n s=q:=⟨_,rfl⟩
 rw[hq];have S0:=Zh (zzw w (.cells #[Iv 19,Iv n,Sv s,.slice ad m cc] 50));have HB:Hi (Below w.heap.size w (w.alloc (.cells #[Iv 19,Iv n,Sv s,.slice ad m cc] 50)).drew):=(zzb.alloc zzl _).drew;have u1:=Jk s;unfold Qab at hq
 by_cases h1:n=(M0:Int)
 ·have e1:(n==(M0:Int))=true:=beq_iff_eq.2 h1;rw[e1]at hq;have HH:=Zh h1;clear h1;exact QkN
 ·have e1:(n==(M0:Int))=false:=zzq h1;obtain rfl:q=false:=by rw[<-hq];simp[*]
  exact wx3
def Jfz(fa:Option Addr)(nf fc M0:Nat)(n:Int)(s:By)(ad:Option Addr)(m cc:Nat)(w:World)(hs:s.length<=9223372036854775807):
  Calls prog 122 #[.slice fa nf fc,.agg #[Iv 20,Iv n,Sv s,.slice ad m cc],Iv M0] w (QbL w (.bool (Qab nf M0 20 n s))):=by
 obtain⟨q,hq⟩:∃q,Qab nf M0 20 n s=q:=⟨_,rfl⟩
 rw[hq];have S0:=Zh (zzw w (.cells #[Iv 20,Iv n,Sv s,.slice ad m cc] 50));have HB:Hi (Below w.heap.size w (w.alloc (.cells #[Iv 20,Iv n,Sv s,.slice ad m cc] 50)).drew):=(zzb.alloc zzl _).drew;have u1:=Jk s;unfold Qab at hq
 by_cases h1:0<=n
 ·by_cases h2:n<(nf:Int)
  ·have d1:decide (0<=n)=true:=zE zo;have d2:decide (n<(nf:Int))=true:=zE zo;exact QkN
  ·exact zAf
 ·exact zAe
def Qmq{P:Prop}(h:P:=by
  clear hq;go_enter func122,ntmps122;go_upto_region 1 with fail;generalize World.alloc w _=w1 at*;have b0:=Ja S0.o 0;have b1:=Ja S0.o 1;have b2:=Ja S0.o 2;simp only[ZD,ZE,ZF]at b0 b1 b2;go_region;go_wp2_with fail;refine(cf _).mono ?_;rintro e w3 ⟨rfl,rfl⟩;go_wp2;go_ret
  exact⟨rfl,HB.o⟩):P:=h
def Jhu(fa:Option Addr)(nf fc M0:Nat)(n:Int)(s:By)(ad:Option Addr)(m cc:Nat)(w:World)(hs:s.length<=9223372036854775807):
  Calls prog 122 #[.slice fa nf fc,.agg #[Iv 3,Iv n,Sv s,.slice ad m cc],Iv M0] w (QbL w (.bool (Qab nf M0 3 n s))):=by
 obtain⟨q,hq⟩:∃q,Qab nf M0 3 n s=q:=⟨_,rfl⟩
 rw[hq];have S0:=Zh (zzw w (.cells #[Iv 3,Iv n,Sv s,.slice ad m cc] 50));have HB:Hi (Below w.heap.size w (w.alloc (.cells #[Iv 3,Iv n,Sv s,.slice ad m cc] 50)).drew):=(zzb.alloc zzl _).drew;have u1:=Jk s;unfold Qab at hq;have cf:=λW=>Ye s W
 obtain⟨x,hx⟩:∃x,(QaA s).isSome=x:=⟨_,rfl⟩
 obtain⟨y,hy⟩:∃y,(QaA s).getD 0=y:=⟨_,rfl⟩
 rw[hx,hy]at cf;rw[hx]at hq;clear hx hy
 by_cases h1:n=0
 ·subst h1
  cases x with
  |true=>
   obtain rfl:q=true:=by rw[<-hq];simp[*]
   exact Qmq
  |false=>
   obtain rfl:q=false:=by rw[<-hq];simp[*]
   exact Qmq
 ·have e0:(n==0)=false:=zzq h1
  cases x with
  |true=>
   obtain rfl:q=false:=by rw[<-hq];simp[*]
   exact Qmq
  |false=>
   obtain rfl:q=false:=by rw[<-hq];simp[*]
   exact Qmq
def Qms{P:Prop}(h:P:=by
  clear hq;go_enter func122,ntmps122;go_upto_region 1 with fail;generalize World.alloc w _=w1 at*;have b0:=Ja S0.o 0;have b1:=Ja S0.o 1;have b2:=Ja S0.o 2;simp only[ZD,ZE,ZF]at b0 b1 b2;go_region;go_wp2_with fail;refine(ct _).mono ?_;rintro e w3 ⟨rfl,rfl⟩;go_wp2;go_ret
  exact⟨rfl,HB.o⟩):P:=h
def QnL{P:Prop}(h:P:=by
  have u1:=Jk s;unfold Qab at hq;have ct:=λW=>Jbc s W hs
  obtain⟨x,hx⟩:∃x,QbM s=x:=⟨_,rfl⟩
  rw[hx]at ct hq;clear hx
  by_cases h1:n=0
  ·subst h1
   cases x with
   |true=>
    obtain rfl:q=true:=by rw[<-hq];simp[*]
    exact Qms
   |false=>
    obtain rfl:q=false:=by rw[<-hq];simp[*]
    exact Qms
  ·have e0:(n==0)=false:=zzq h1
   cases x with
   |true=>
    obtain rfl:q=false:=by rw[<-hq];simp[*]
    exact Qms
   |false=>
    obtain rfl:q=false:=by rw[<-hq];simp[*]
    exact Qms):P:=h
def Jhv(fa:Option Addr)(nf fc M0:Nat)(n:Int)(s:By)(ad:Option Addr)(m cc:Nat)(w:World)(hs:s.length<=9223372036854775807):
  Calls prog 122 #[.slice fa nf fc,.agg #[Iv 4,Iv n,Sv s,.slice ad m cc],Iv M0] w (QbL w (.bool (Qab nf M0 4 n s))):=by
 obtain⟨q,hq⟩:∃q,Qab nf M0 4 n s=q:=⟨_,rfl⟩
 rw[hq];have S0:=Zh (zzw w (.cells #[Iv 4,Iv n,Sv s,.slice ad m cc] 50));have HB:Hi (Below w.heap.size w (w.alloc (.cells #[Iv 4,Iv n,Sv s,.slice ad m cc] 50)).drew):=(zzb.alloc zzl _).drew;exact QnL
def Jhw(fa:Option Addr)(nf fc M0:Nat)(n:Int)(s:By)(ad:Option Addr)(m cc:Nat)(w:World)(hs:s.length<=9223372036854775807):
  Calls prog 122 #[.slice fa nf fc,.agg #[Iv 5,Iv n,Sv s,.slice ad m cc],Iv M0] w (QbL w (.bool (Qab nf M0 5 n s))):=by
 obtain⟨q,hq⟩:∃q,Qab nf M0 5 n s=q:=⟨_,rfl⟩
 rw[hq];have S0:=Zh (zzw w (.cells #[Iv 5,Iv n,Sv s,.slice ad m cc] 50));have HB:Hi (Below w.heap.size w (w.alloc (.cells #[Iv 5,Iv n,Sv s,.slice ad m cc] 50)).drew):=(zzb.alloc zzl _).drew;exact QnL
def Jbe(fa:Option Addr)(nf fc M0:Nat)(k n:Int)(s:By)(ad:Option Addr)(m cc:Nat)(w:World)(hs:s.length<=9223372036854775807)
  (h0:k≠0) (h1:k≠1) (h2:k≠2) (h3:k≠3) (h4:k≠4) (h5:k≠5) (N2:k≠19) (O2:k≠20):
  Calls prog 122 #[.slice fa nf fc,.agg #[Iv k,Iv n,Sv s,.slice ad m cc],Iv M0] w (QbL w (.bool (Qab nf M0 k n s))):=by
 obtain⟨q,hq⟩:∃q,Qab nf M0 k n s=q:=⟨_,rfl⟩
 rw[hq];have S0:=Zh (zzw w (.cells #[Iv k,Iv n,Sv s,.slice ad m cc] 50));have HB:Hi (Below w.heap.size w (w.alloc (.cells #[Iv k,Iv n,Sv s,.slice ad m cc] 50)).drew):=(zzb.alloc zzl _).drew;have u1:=Jk s;unfold Qab at hq;rw[if_neg h0,if_neg h1,if_neg h2,if_neg N2,if_neg O2,if_neg h3,if_neg zo]at hq
 by_cases h1:n=0
 ·subst h1
  cases s with
  |nil=>
   have es:(([]:By)==[])=true:=rfl
   by_cases g1:0<=k
   ·have d1:decide (0<=k)=true:=zE zo
    by_cases g2:k<21
    ·have d2:decide (k<21)=true:=zE zo;obtain rfl:q=true:=by rw[<-hq];simp[*]
     exact wx3
    ·have d2:decide (k<21)=false:=zF zo;obtain rfl:q=false:=by rw[<-hq];simp[*]
     exact wx3
   ·have d1:decide (0<=k)=false:=zF zo;obtain rfl:q=false:=by rw[<-hq];simp[*]
    exact wx3
  |cons c0 r0=>
   have es3:¬(c0::r0)=[]:=zp
   generalize c0::r0=s at*;obtain rfl:q=false:=by rw[<-hq];simp[*]
   exact wx3
 ·have e0:(n==0)=false:=zzq h1;obtain rfl:q=false:=by rw[<-hq];simp[*]
  exact wx3
def V1(v:Value)(fs:List FnM)(M0:Nat)(k n:Int)(s:By)(ad:Option Addr)(m cc:Nat)(w:World)(hs:s.length<=9223372036854775807)(hF:QbU w v fs):
  Calls prog 122 #[v,.agg #[Iv k,Iv n,Sv s,.slice ad m cc],Iv M0] w (QbL w (.bool (Qab fs.length M0 k n s))):=by
 obtain⟨fa,fc,rfl,_⟩:=hF.form
 by_cases h0:k=0
 ·subst h0;exact Jhr fa _ fc M0 n s ad m cc w hs
 by_cases h1:k=1
 ·subst h1;exact Jhs fa _ fc M0 n s ad m cc w hs
 by_cases h2:k=2
 ·subst h2;exact Jht fa _ fc M0 n s ad m cc w hs
 by_cases h3:k=3
 ·subst h3;exact Jhu fa _ fc M0 n s ad m cc w hs
 by_cases h4:k=4
 ·subst h4;exact Jhv fa _ fc M0 n s ad m cc w hs
 by_cases h5:k=5
 ·subst h5;exact Jhw fa _ fc M0 n s ad m cc w hs
 by_cases N2:k=19
 ·subst N2;exact Jfy fa _ fc M0 n s ad m cc w hs
 by_cases O2:k=20
 ·subst O2;exact Jfz fa _ fc M0 n s ad m cc w hs
 exact Jbe fa _ fc M0 k n s ad m cc w hs h0 h1 h2 h3 h4 h5 N2 O2
open Go Go.Lib
open Go.ChangeShapes Go.WideShapes Go.RowKit Go.Deep
open Go.Joins
def Qja(a1 u1 e1 a2 u2 e2:Int)(s1 s2:By)(w:World):Calls prog 31 #[.agg #[Iv a1,Sv s1,Iv u1,Iv e1],.agg #[Iv a2,Sv s2,Iv u2,Iv e2]] w (QbL w (.bool (decide (a1=a2)&&decide (s1=s2)&&decide (u1=u2)&&decide (e1=e2)))):=by
 have h1:=Jk s1;have h2:=Jk s2;go_enter func31,ntmps31;go_wp2_with fail
 all_goals
  go_ret;refine⟨?_,(zzb.alloc zzl _).alloc zp _⟩
  simp_all
mutual
def NmN:Exp->Prop
 |.mk k n s l=>s.length<=9223372036854775807/\NmL l
def NmL:List Exp->Prop
 |[]=>True
 |a::l=>NmN a/\NmL l
end
def JfA{l:List Exp}(h:NmL l):∀a∈l,NmN a:=by
 induction l with
 |nil=>intro a ha;cases ha
 |cons x r ih=>
  unfold NmL at h;exact QjP
def Bel(w W:World):Prop:=Below w.heap.size w W
def QdX(k:Int)(i M0:Nat):Nat:=if k=19/\i=1 then M0+1 else M0
def Zw(pa:List Nat)(M0 Qad:Nat)(k:Int):∀(l:List Exp)(i:Nat)(a:Exp),QaD pa M0 Qad k i (l++[a])=(QaD pa M0 Qad k i l&&QaC pa (QdX k (i+l.length) M0) Qad a)
 |[],i,a=>by rw[List.nil_append,QaD,QaD,QaD];simp[QdX]
 |x::l,i,a=>by
  rw[List.cons_append,QaD,QaD,Zw pa M0 Qad k l (i+1) a,Bool.and_assoc,List.length_cons,show i+1+l.length=i+(l.length+1) by omega]
def Y0(pa:List Nat)(M0 Qad:Nat)(k:Int):∀(l:List Exp)(i j:Nat)(a:Exp),l[j]?=some a->QaC pa (QdX k (i+j) M0) Qad a=false->QaD pa M0 Qad k i l=false
 |[],i,j,a,h,_=>by simp at h
 |x::l,i,0,a,h,hf=>by
  obtain rfl:x=a:=by simpa using h
  rw[QaD];have:QaC pa (if k=19/\i=1 then M0+1 else M0) Qad x=false:=hf;rw[this];rfl
 |x::l,i,j+1,a,h,hf=>by
  rw[QaD,Y0 pa M0 Qad k l (i+1) j a (by simpa using h) (by rw[show i+1+j=i+(j+1) by omega];exact hf)];simp
def QmI{P:Prop}(h:P:=by
  go_wp2_with fail;refine ci.mono ?_;rintro e w7 ⟨rfl,E4⟩;have I3:=Zh (Je P2.o E4);clear ci E4 b0 b1 b2 b3 c0 c1 c2 c3 P2
  cases x with
  |true=>
   have M7:Hi (QaD pa M0 dn k 0 (l.take (i+1))=true):=by rw[Hi,List.take_add_one,HY.o];show QaD _ _ _ _ _ (_++[y])=true;rw[Zw,Y4.o,Nat.zero_add,List.length_take_of_le (Nat.le_of_lt B3.o),HX.o];rfl
   clear Y4;go_wp2;go_roundg (l.length-(i+1))
   case measure=>have:=HG.o;have:=B3.o;omega
   case rel=>exact⟨i+1,by have:=B3.o;omega,by go_num,I3,M7⟩
  |false=>
   have O0:q=false:=by rw[<-D5.o];exact Y0 pa M0 dn k l 0 i y HY.o (by rw[Nat.zero_add];exact HX.o)
   subst O0;have L8:=Zh (B0.o _ I3.o);clear Y4 I3;go_wp2;go_ret
   exact⟨rfl,L8.o⟩):P:=h
def QmB{P:Prop}(h:P:=by
  try simp only[Act.put,ZA,ZB,ZC]
  refine wpAnyH_done (by kernel_rfl) ?_ _;have C4:=Zh hH.1;clear hH b0 b1 b2 b3;go_wp2;go_ret
  exact⟨rfl,B0.o _ C4.o⟩):P:=h
def Qml{P:Prop}(h:P:=by
  intro W hW;have hh:=(hW.block _ S3.o).trans S0.o
  refine⟨?_,?_,?_,?_⟩<;>(rw[Ja hh];rfl)):P:=h
def JfB(fs:List FnM)(n:Nat)(IH:∀(y:Exp)(d:Array Value)(v:Value)(M0 Qad:Nat)(W:World),siz (utN y)<=n->NmN y->M0+siz (utN y)<=4000000000->Qad<=4000000000->XAt W (In W) y d->QbU W v fs->
  Calls prog 95 #[v,.agg d,Iv M0,Iv Qad] W (QbL W (.bool (QaC (fs.map (·.params.length)) M0 Qad y))))
  (k nn:Int) (s:By) (l:List Exp) (ad:Option Addr) (cc:Nat) (v:Value) (M0 Qad:Nat) (w:World) (hs:s.length<=9223372036854775807) (hl:NmL l) (hn:Qaz (utL l)<=n) (hv:M0+Qaz (utL l)+1<=4000000000) (hne:Qad<=4000000000) (hK:QbC w ad l) (hF:QbU w v fs):
  Calls prog 95 #[v,.agg #[Iv k,Iv nn,Sv s,.slice ad l.length cc],Iv M0,Iv Qad] w (QbL w (.bool (QaC (fs.map (·.params.length)) M0 Qad (.mk k nn s l)))):=by
 obtain⟨q,hq⟩:∃q,QaC (fs.map (·.params.length)) M0 Qad (.mk k nn s l)=q:=⟨_,rfl⟩
 rw[hq,];rw[QaC]at hq;have gA:(fs.map (·.params.length)).length=fs.length:=zp
 rw[gA]at hq;generalize rA:fs.map (·.params.length)=pa at*;obtain⟨fa,fc,rfl,_⟩:=hF.form;have mA:Below w.heap.size w (w.alloc (.cells #[Iv k,Iv nn,Sv s,.slice ad l.length cc] 50)):=zzb.alloc zzl _;have S0:=Zh (zzw w (.cells #[Iv k,Iv nn,Sv s,.slice ad l.length cc] 50));have B0:Hi (∀W,Below (w.alloc (.cells #[Iv k,Iv nn,Sv s,.slice ad l.length cc] 50)).heap.size (w.alloc (.cells #[Iv k,Iv nn,Sv s,.slice ad l.length cc] 50)) W->Bel w W):=λW hW=>Je mA hW
 have dB:=Zh hK;have vA:=Zh hF;have yB:=Zh IH;have sA:=Zh rA;have xB:=Zh hl;have eB:l.length<=4000000000:=by have:=Jfw l;omega
 have j4:=Zh hn;have C7:=Zh hv;clear mA hK hF IH rA hl gA hn hv
 by_cases h1:1<=Qad
 ·have d1:decide ((Qad:Int)<1)=false:=zF zo;have cB:decide (Qad<1)=false:=zF zo;obtain⟨dn,zB⟩:∃dn,Qad=dn+1:=⟨Qad-1,by omega⟩
  have wn:IntKind.i64.wrap ((Qad:Int)-1)=(dn:Int):=by rw[IntWalk.i64_in _ zo];omega
  have tA:Qad-1=dn:=zo
  rw[tA,zE h1,Bool.true_and]at hq;have uB:Hi (dn<=4000000000):=by unfold Hi;omega
  clear zB h1 tA hne;obtain⟨fb,dA⟩:∃fb,Qab fs.length M0 k nn s=fb:=⟨_,rfl⟩
  have L1:=Zh dA;rw[dA]at hq;clear dA
  cases fb with
  |false=>
   obtain rfl:q=false:=by rw[<-hq];rfl
   clear hq wn;go_enter func95,ntmps95;go_upto_region 1 with fail;have S3:Hi (w.heap.size<(w.alloc (.cells #[Iv k,Iv nn,Sv s,.slice ad l.length cc] 50)).heap.size):=Jb S0.o;generalize World.alloc w _=w1 at*;generalize w.heap.size=eb at*
   have FF:Hi (∀W,Below w1.heap.size w1 W->W.cell? ⟨eb,0,none⟩=some (Iv k)/\W.cell? ⟨eb,1,none⟩=some (Iv nn)/\W.cell? ⟨eb,2,none⟩=some (Sv s)/\W.cell? ⟨eb,3,none⟩=some (.slice ad l.length cc)):=by
    exact Qml
   obtain⟨b0,b1,b2,b3⟩:=FF.o _ zzb;refine wp_region_held_drew (S:=(λW=>Below w1.heap.size w1 W/\W.cell? ⟨eb,0,none⟩=some (Iv k)/\W.cell? ⟨eb,1,none⟩=some (Iv nn)/\W.cell? ⟨eb,2,none⟩=some (Sv s)/\W.cell? ⟨eb,3,none⟩=some (.slice ad l.length cc))) zk (⟨(Below.refl w1.heap.size w1).drew,FF.o _ (Below.refl w1.heap.size w1).drew⟩) λhH=>?_;refine ZT (i:=0) (v:=?vF0) rfl (Or.inl ⟨by rfl,?yF0⟩) ?_
   case yF0=>exact ZyQ
   try simp only[zX]
   refine ZT (i:=1) (v:=?vF1) rfl (Or.inl ⟨by rfl,?yF1⟩) ?_
   case yF1=>exact ZyQ
   try simp only[zX]
   refine ZT (i:=2) (v:=?vF2) rfl (Or.inl ⟨by rfl,?yF2⟩) ?_
   case yF2=>exact ZyQ
   try simp only[zX]
   refine ZT (i:=3) (v:=?vF3) rfl (Or.inl ⟨by rfl,?yF3⟩) ?_
   case yF3=>exact ZyQ
   try simp only[zX]
   refine ZT (i:=4) (v:=?vF4) rfl (Or.inl ⟨by rfl,?yF4⟩) ?_
   case yF4=>exact ZyQ
   try simp only[zX]
   refine ZT (i:=5) (v:=?vF5) rfl (Or.inl ⟨by rfl,?yF5⟩) ?_
   case yF5=>exact ZyQ
   try simp only[zX]
   refine ZS 6 rfl λK hK=>?_;have uA:=V1 (.slice fa fs.length fc) fs M0 k nn s ad l.length cc _ hs (vA.o.up (B0.o _ ((Below.refl w1.heap.size w1).drew)));rw[L1.o]at uA
   (go_simp;go_at_call 122;refine uA.mono ?_;rintro e nA ⟨rfl,xA⟩)
   refine zU hK (⟨((Below.refl w1.heap.size w1).drew).trans (xA.mono ((Below.refl w1.heap.size w1).drew).size),FF.o _ (((Below.refl w1.heap.size w1).drew).trans (xA.mono ((Below.refl w1.heap.size w1).drew).size))⟩) λhH=>?_;clear hK K
   try simp only[zX]
   refine ZT (i:=7) (v:=?vF7) rfl (Or.inl ⟨by rfl,?yF7⟩) ?_
   case yF7=>exact ZyQ
   try simp only[zX]
   refine ZT (i:=8) (v:=?vF8) rfl (Or.inl ⟨by rfl,?yF8⟩) ?_
   case yF8=>exact ZyQ
   try simp only[zX]
   refine ZT (i:=9) (v:=?vF9) rfl (Or.inl ⟨by rfl,?yF9⟩) ?_
   case yF9=>exact ZyQ
   try simp only[zX]
   refine ZT (i:=10) (v:=undef) rfl (Or.inr ⟨by rfl,rfl⟩) ?_
   try simp only[zX]
   refine ZT (i:=11) (v:=undef) rfl (Or.inr ⟨by rfl,rfl⟩) ?_
   try simp only[zX]
   refine ZT (i:=12) (v:=undef) rfl (Or.inr ⟨by rfl,rfl⟩) ?_
   try simp only[zX]
   refine ZT (i:=13) (v:=undef) rfl (Or.inr ⟨by rfl,rfl⟩) ?_
   try simp only[zX]
   refine ZT (i:=14) (v:=undef) rfl (Or.inr ⟨by rfl,rfl⟩) ?_
   try simp only[zX]
   refine ZT (i:=15) (v:=undef) rfl (Or.inr ⟨by rfl,rfl⟩) ?_
   try simp only[zX]
   refine ZT (i:=16) (v:=undef) rfl (Or.inr ⟨by rfl,rfl⟩) ?_
   try simp only[zX]
   refine ZT (i:=17) (v:=?vF17) rfl (Or.inl ⟨by rfl,?yF17⟩) ?_
   case yF17=>exact ZyQ
   exact QmB
  |true=>
  rw[Bool.true_and]at hq
  have O2:k=20->0<=nn/\nn<(fs.length:Int):=by
   intro e;subst e;have:=L1.o;unfold Qab at this;simp at this;exact⟨this.1.1,this.1.2⟩
  have jA:=Zh O2;obtain⟨am,eA⟩:∃am,Qbi pa k nn=am:=⟨_,rfl⟩
  have pA:=Zh eA;rw[eA]at hq;clear eA O2
  by_cases hlen:l.length=am
  ·have C8:=Zh hlen;have Q4:QaD pa M0 dn k 0 l=q:=by rw[<-hq,hlen];simp
   have D5:=Zh Q4;have ea:((l.length:Int)==(am:Int))=true:=beq_iff_eq.2 zo;have kA:((l.length:Int) !=(am:Int))=false:=by rw[bne,ea];rfl
   clear hlen hq Q4;go_enter func95,ntmps95;go_upto_region 1 with fail;have S3:Hi (w.heap.size<(w.alloc (.cells #[Iv k,Iv nn,Sv s,.slice ad l.length cc] 50)).heap.size):=Jb S0.o;generalize World.alloc w _=w1 at*;generalize w.heap.size=eb at*
   have FF:Hi (∀W,Below w1.heap.size w1 W->W.cell? ⟨eb,0,none⟩=some (Iv k)/\W.cell? ⟨eb,1,none⟩=some (Iv nn)/\W.cell? ⟨eb,2,none⟩=some (Sv s)/\W.cell? ⟨eb,3,none⟩=some (.slice ad l.length cc)):=by
    exact Qml
   obtain⟨b0,b1,b2,b3⟩:=FF.o _ zzb;refine wp_region_held_drew (S:=(λW=>Below w1.heap.size w1 W/\W.cell? ⟨eb,0,none⟩=some (Iv k)/\W.cell? ⟨eb,1,none⟩=some (Iv nn)/\W.cell? ⟨eb,2,none⟩=some (Sv s)/\W.cell? ⟨eb,3,none⟩=some (.slice ad l.length cc))) zk (⟨(Below.refl w1.heap.size w1).drew,FF.o _ (Below.refl w1.heap.size w1).drew⟩) λhH=>?_;refine ZT (i:=0) (v:=?vT0) rfl (Or.inl ⟨by rfl,?yT0⟩) ?_
   case yT0=>exact ZyQ
   try simp only[zX]
   refine ZT (i:=1) (v:=?vT1) rfl (Or.inl ⟨by rfl,?yT1⟩) ?_
   case yT1=>exact ZyQ
   try simp only[zX]
   refine ZT (i:=2) (v:=?vT2) rfl (Or.inl ⟨by rfl,?yT2⟩) ?_
   case yT2=>exact ZyQ
   try simp only[zX]
   refine ZT (i:=3) (v:=?vT3) rfl (Or.inl ⟨by rfl,?yT3⟩) ?_
   case yT3=>exact ZyQ
   try simp only[zX]
   refine ZT (i:=4) (v:=?vT4) rfl (Or.inl ⟨by rfl,?yT4⟩) ?_
   case yT4=>exact ZyQ
   try simp only[zX]
   refine ZT (i:=5) (v:=?vT5) rfl (Or.inl ⟨by rfl,?yT5⟩) ?_
   case yT5=>exact ZyQ
   try simp only[zX]
   refine ZS 6 rfl λK hK=>?_;have uA:=V1 (.slice fa fs.length fc) fs M0 k nn s ad l.length cc _ hs (vA.o.up (B0.o _ ((Below.refl w1.heap.size w1).drew)));rw[L1.o]at uA
   (go_simp;go_at_call 122;refine uA.mono ?_;rintro e nA ⟨rfl,xA⟩)
   refine zU hK (⟨((Below.refl w1.heap.size w1).drew).trans (xA.mono ((Below.refl w1.heap.size w1).drew).size),FF.o _ (((Below.refl w1.heap.size w1).drew).trans (xA.mono ((Below.refl w1.heap.size w1).drew).size))⟩) λhH=>?_;clear hK K
   try simp only[zX]
   refine ZT (i:=7) (v:=?vT7) rfl (Or.inl ⟨by rfl,?yT7⟩) ?_
   case yT7=>exact ZyQ
   try simp only[zX]
   refine ZT (i:=8) (v:=?vT8) rfl (Or.inl ⟨by rfl,?yT8⟩) ?_
   case yT8=>exact ZyQ
   try simp only[zX]
   refine ZT (i:=9) (v:=?vT9) rfl (Or.inl ⟨by rfl,?yT9⟩) ?_
   case yT9=>exact ZyQ
   try simp only[zX]
   refine ZT (i:=10) (v:=?vT10) rfl (Or.inl ⟨by rfl,?yT10⟩) ?_
   case yT10=>exact ZyQ
   try simp only[zX]
   refine ZT (i:=11) (v:=?vT11) rfl (Or.inl ⟨by rfl,?yT11⟩) ?_
   case yT11=>exact ZyQ
   try simp only[zX]
   refine ZT (i:=12) (v:=?vT12) rfl (Or.inl ⟨by rfl,?yT12⟩) ?_
   case yT12=>exact ZyQ
   try simp only[zX]
   refine ZT (i:=13) (v:=?vT13) rfl (Or.inl ⟨by rfl,?yT13⟩) ?_
   case yT13=>exact ZyQ
   try simp only[zX]
   refine ZT (i:=14) (v:=?vT14) rfl (Or.inl ⟨by rfl,?yT14⟩) ?_
   case yT14=>exact ZyQ
   try simp only[zX]
   refine ZS 15 rfl λK hK=>?_;have aA:=Jbd fs (.slice fa fs.length fc) k nn s ad l.length cc _ (vA.o.up (B0.o _ (hH.1))) jA.o;rw[sA.o,pA.o]at aA
   (go_simp;go_at_call 123;refine aA.mono ?_;rintro e iA ⟨rfl,yA⟩)
   refine zU hK (⟨(hH.1).trans (yA.mono (hH.1).size),FF.o _ ((hH.1).trans (yA.mono (hH.1).size))⟩) λhH=>?_;clear hK K
   try simp only[zX]
   refine ZT (i:=16) (v:=?vT16) rfl (Or.inl ⟨by rfl,?yT16⟩) ?_
   case yT16=>exact ZyQ
   try simp only[zX]
   refine ZT (i:=17) (v:=?vT17) rfl (Or.inl ⟨by rfl,?yT17⟩) ?_
   case yT17=>exact ZyQ
   try simp only[zX]
   refine wpAnyH_done zk ?_ _;have C4:=Zh hH.1;have qA:=FF.o _ hH.1;clear b0 b1 b2 b3 hH;clear uA aA xA yA;obtain⟨w3,hA⟩:∃w3,w3=iA:=⟨_,rfl⟩
   rw[<-hA]at C4 qA |-;clear hA;obtain⟨b0,b1,b2,b3⟩:=qA;go_wp2_with fail;clear b0 b1 b2 b3 ea kA;go_loopg [33] l.length λg v33 wr=>∃i:Nat,g+i=l.length/\v33=Iv i/\Hi (Below w1.heap.size w1 wr)/\Hi (QaD pa M0 dn k 0 (l.take i)=true)
   case atStart=>exact⟨0,rfl,rfl,C4,by unfold Hi;rw[List.take_zero,QaD]⟩
   case round=>
   clear C4;obtain⟨wl,rfl⟩:=zG wr
   obtain⟨i,hg,rfl,G1,Y4⟩:=hrel
   by_cases hi:i<l.length
   ·have hil:(i:Int)<(l.length:Int):=zo
    obtain⟨y,hy⟩:∃y,l[i]?=some y:=⟨l[i],List.getElem?_eq_getElem hi⟩
    have hmem:=mem_of_getElem? hy;obtain⟨b,o,da,dc,vB,hxy,c0,c1,c2,c3⟩:=dB.o.at' (B0.o _ G1.o) hy;have wk:=zI i;have I0:Below wl.heap.size wl (wl.alloc (.cells #[Iv y.kind,Iv y.num,.string (bs y.name),.slice da y.kids.length dc] 50)):=zzb.alloc zzl _;have U0:Below w1.heap.size w1 (wl.alloc (.cells #[Iv y.kind,Iv y.num,.string (bs y.name),.slice da y.kids.length dc] 50)):=Je G1.o I0;have ci:=yB.o y _ (.slice fa fs.length fc) (QdX k i M0) dn (wl.alloc (.cells #[Iv y.kind,Iv y.num,.string (bs y.name),.slice da y.kids.length dc] 50)) (zu (KE hmem) j4.o) (JfA xB.o y hmem) (by have:=KE hmem;have:=C7.o;unfold QdX;split<;>omega) uB.o (hxy.up I0) (vA.o.up (B0.o _ U0));obtain⟨x,hx⟩:∃x,QaC pa (QdX k i M0) dn y=x:=⟨_,rfl⟩
    rw[hx]at ci;have HX:=Zh hx;have HY:=Zh hy;have P2:=Zh U0;have HG:=Zh hg;have B3:=Zh hi;obtain⟨b0,b1,b2,b3⟩:=FF.o _ U0;subst vB;clear I0 U0 hmem hxy G1 hx hy hi hg;have zA:QdX k i M0=if k=19/\i=1 then M0+1 else M0:=rfl
    by_cases e19:k=19
    ·have bB:(k==19)=true:=beq_iff_eq.2 e19
     by_cases e1:i=1
     ·rw[if_pos ⟨e19,e1⟩]at zA;have aB:((i:Int)==1)=true:=beq_iff_eq.2 zo;have cA:(i==1)=true:=beq_iff_eq.2 e1;have wv:IntKind.i64.wrap ((M0:Int)+1)=((M0+1:Nat):Int):=by rw[IntWalk.i64_in _ (zt C7.o)];omega
      rw[zA]at ci HX;rw[Int.natCast_add,Int.natCast_one]at ci wv;have C0:Hi (QaC pa (QdX k i M0) dn y=x):=by unfold Hi;rw[zA];exact HX.o
      clear HX;have HX:=C0;clear C0 zA e19 e1;exact QmI
     ·rw[if_neg λh=>e1 h.2]at zA;have aB:((i:Int)==1)=false:=zzq zo;have cA:(i==1)=false:=zzq e1;rw[zA]at ci;clear zA e19 e1;exact QmI
    ·have bB:(k==19)=false:=zzq e19;rw[if_neg λh=>e19 h.1]at zA;rw[zA]at ci;clear zA e19;exact QmI
   ·have hil:¬(i:Int)<(l.length:Int):=zo
    obtain rfl:i=l.length:=zo
    have bA:=Y4.o;rw[List.take_length,D5.o]at bA;subst bA;have S4:=Zh (B0.o _ G1.o);clear hi hg Y4 G1;go_wp2;go_ret;exact⟨rfl,S4.o⟩
  ·have C8:=Zh hlen;have O0:q=false:=by rw[<-hq,zzq hlen];rfl
   subst O0;have ea:((l.length:Int)==(am:Int))=false:=zzq zo;have kA:((l.length:Int) !=(am:Int))=true:=by rw[bne,ea];rfl
   clear hlen hq wn;go_enter func95,ntmps95;go_upto_region 1 with fail;have S3:Hi (w.heap.size<(w.alloc (.cells #[Iv k,Iv nn,Sv s,.slice ad l.length cc] 50)).heap.size):=Jb S0.o;generalize World.alloc w _=w1 at*;generalize w.heap.size=eb at*
   have FF:Hi (∀W,Below w1.heap.size w1 W->W.cell? ⟨eb,0,none⟩=some (Iv k)/\W.cell? ⟨eb,1,none⟩=some (Iv nn)/\W.cell? ⟨eb,2,none⟩=some (Sv s)/\W.cell? ⟨eb,3,none⟩=some (.slice ad l.length cc)):=by
    exact Qml
   obtain⟨b0,b1,b2,b3⟩:=FF.o _ zzb;refine wp_region_held_drew (S:=(λW=>Below w1.heap.size w1 W/\W.cell? ⟨eb,0,none⟩=some (Iv k)/\W.cell? ⟨eb,1,none⟩=some (Iv nn)/\W.cell? ⟨eb,2,none⟩=some (Sv s)/\W.cell? ⟨eb,3,none⟩=some (.slice ad l.length cc))) zk (⟨(Below.refl w1.heap.size w1).drew,FF.o _ (Below.refl w1.heap.size w1).drew⟩) λhH=>?_;refine ZT (i:=0) (v:=?vE0) rfl (Or.inl ⟨by rfl,?yE0⟩) ?_
   case yE0=>exact ZyQ
   try simp only[zX]
   refine ZT (i:=1) (v:=?vE1) rfl (Or.inl ⟨by rfl,?yE1⟩) ?_
   case yE1=>exact ZyQ
   try simp only[zX]
   refine ZT (i:=2) (v:=?vE2) rfl (Or.inl ⟨by rfl,?yE2⟩) ?_
   case yE2=>exact ZyQ
   try simp only[zX]
   refine ZT (i:=3) (v:=?vE3) rfl (Or.inl ⟨by rfl,?yE3⟩) ?_
   case yE3=>exact ZyQ
   try simp only[zX]
   refine ZT (i:=4) (v:=?vE4) rfl (Or.inl ⟨by rfl,?yE4⟩) ?_
   case yE4=>exact ZyQ
   try simp only[zX]
   refine ZT (i:=5) (v:=?vE5) rfl (Or.inl ⟨by rfl,?yE5⟩) ?_
   case yE5=>exact ZyQ
   try simp only[zX]
   refine ZS 6 rfl λK hK=>?_;have uA:=V1 (.slice fa fs.length fc) fs M0 k nn s ad l.length cc _ hs (vA.o.up (B0.o _ ((Below.refl w1.heap.size w1).drew)));rw[L1.o]at uA
   (go_simp;go_at_call 122;refine uA.mono ?_;rintro e nA ⟨rfl,xA⟩)
   refine zU hK (⟨((Below.refl w1.heap.size w1).drew).trans (xA.mono ((Below.refl w1.heap.size w1).drew).size),FF.o _ (((Below.refl w1.heap.size w1).drew).trans (xA.mono ((Below.refl w1.heap.size w1).drew).size))⟩) λhH=>?_;clear hK K
   try simp only[zX]
   refine ZT (i:=7) (v:=?vE7) rfl (Or.inl ⟨by rfl,?yE7⟩) ?_
   case yE7=>exact ZyQ
   try simp only[zX]
   refine ZT (i:=8) (v:=?vE8) rfl (Or.inl ⟨by rfl,?yE8⟩) ?_
   case yE8=>exact ZyQ
   try simp only[zX]
   refine ZT (i:=9) (v:=?vE9) rfl (Or.inl ⟨by rfl,?yE9⟩) ?_
   case yE9=>exact ZyQ
   try simp only[zX]
   refine ZT (i:=10) (v:=?vE10) rfl (Or.inl ⟨by rfl,?yE10⟩) ?_
   case yE10=>exact ZyQ
   try simp only[zX]
   refine ZT (i:=11) (v:=?vE11) rfl (Or.inl ⟨by rfl,?yE11⟩) ?_
   case yE11=>exact ZyQ
   try simp only[zX]
   refine ZT (i:=12) (v:=?vE12) rfl (Or.inl ⟨by rfl,?yE12⟩) ?_
   case yE12=>exact ZyQ
   try simp only[zX]
   refine ZT (i:=13) (v:=?vE13) rfl (Or.inl ⟨by rfl,?yE13⟩) ?_
   case yE13=>exact ZyQ
   try simp only[zX]
   refine ZT (i:=14) (v:=?vE14) rfl (Or.inl ⟨by rfl,?yE14⟩) ?_
   case yE14=>exact ZyQ
   try simp only[zX]
   refine ZS 15 rfl λK hK=>?_;have aA:=Jbd fs (.slice fa fs.length fc) k nn s ad l.length cc _ (vA.o.up (B0.o _ (hH.1))) jA.o;rw[sA.o,pA.o]at aA
   (go_simp;go_at_call 123;refine aA.mono ?_;rintro e iA ⟨rfl,yA⟩)
   refine zU hK (⟨(hH.1).trans (yA.mono (hH.1).size),FF.o _ ((hH.1).trans (yA.mono (hH.1).size))⟩) λhH=>?_;clear hK K
   try simp only[zX]
   refine ZT (i:=16) (v:=?vE16) rfl (Or.inl ⟨by rfl,?yE16⟩) ?_
   case yE16=>exact ZyQ
   try simp only[zX]
   refine ZT (i:=17) (v:=?vE17) rfl (Or.inl ⟨by rfl,?yE17⟩) ?_
   case yE17=>exact ZyQ
   exact QmB
 ·have d1:decide ((Qad:Int)<1)=true:=zE zo;have cB:decide (Qad<1)=true:=zE zo;have O0:q=false:=by rw[<-hq,zF h1];rfl
  subst O0;clear hq h1;go_enter func95,ntmps95;go_upto_region 1 with fail;have S3:Hi (w.heap.size<(w.alloc (.cells #[Iv k,Iv nn,Sv s,.slice ad l.length cc] 50)).heap.size):=Jb S0.o;generalize World.alloc w _=w1 at*;generalize w.heap.size=eb at*
  have FF:Hi (∀W,Below w1.heap.size w1 W->W.cell? ⟨eb,0,none⟩=some (Iv k)/\W.cell? ⟨eb,1,none⟩=some (Iv nn)/\W.cell? ⟨eb,2,none⟩=some (Sv s)/\W.cell? ⟨eb,3,none⟩=some (.slice ad l.length cc)):=by
   exact Qml
  obtain⟨b0,b1,b2,b3⟩:=FF.o _ zzb;refine wp_region_held_drew (S:=(λW=>Below w1.heap.size w1 W/\W.cell? ⟨eb,0,none⟩=some (Iv k)/\W.cell? ⟨eb,1,none⟩=some (Iv nn)/\W.cell? ⟨eb,2,none⟩=some (Sv s)/\W.cell? ⟨eb,3,none⟩=some (.slice ad l.length cc))) zk (⟨(Below.refl w1.heap.size w1).drew,FF.o _ (Below.refl w1.heap.size w1).drew⟩) λhH=>?_;refine ZT (i:=0) (v:=?vN0) rfl (Or.inl ⟨by rfl,?yN0⟩) ?_
  case yN0=>exact ZyQ
  try simp only[zX]
  refine ZT (i:=1) (v:=?vN1) rfl (Or.inl ⟨by rfl,?yN1⟩) ?_
  case yN1=>exact ZyQ
  try simp only[zX]
  refine ZT (i:=2) (v:=?vN2) rfl (Or.inl ⟨by rfl,?yN2⟩) ?_
  case yN2=>exact ZyQ
  try simp only[zX]
  refine ZT (i:=3) (v:=undef) rfl (Or.inr ⟨by rfl,rfl⟩) ?_
  try simp only[zX]
  refine ZT (i:=4) (v:=undef) rfl (Or.inr ⟨by rfl,rfl⟩) ?_
  try simp only[zX]
  refine ZT (i:=5) (v:=undef) rfl (Or.inr ⟨by rfl,rfl⟩) ?_
  try simp only[zX]
  refine ZT (i:=6) (v:=undef) rfl (Or.inr ⟨by rfl,rfl⟩) ?_
  try simp only[zX]
  refine ZT (i:=7) (v:=undef) rfl (Or.inr ⟨by rfl,rfl⟩) ?_
  try simp only[zX]
  refine ZT (i:=8) (v:=?vN8) rfl (Or.inl ⟨by rfl,?yN8⟩) ?_
  case yN8=>exact ZyQ
  try simp only[zX]
  refine ZT (i:=9) (v:=?vN9) rfl (Or.inl ⟨by rfl,?yN9⟩) ?_
  case yN9=>exact ZyQ
  try simp only[zX]
  refine ZT (i:=10) (v:=undef) rfl (Or.inr ⟨by rfl,rfl⟩) ?_
  try simp only[zX]
  refine ZT (i:=11) (v:=undef) rfl (Or.inr ⟨by rfl,rfl⟩) ?_
  try simp only[zX]
  refine ZT (i:=12) (v:=undef) rfl (Or.inr ⟨by rfl,rfl⟩) ?_
  try simp only[zX]
  refine ZT (i:=13) (v:=undef) rfl (Or.inr ⟨by rfl,rfl⟩) ?_
  try simp only[zX]
  refine ZT (i:=14) (v:=undef) rfl (Or.inr ⟨by rfl,rfl⟩) ?_
  try simp only[zX]
  refine ZT (i:=15) (v:=undef) rfl (Or.inr ⟨by rfl,rfl⟩) ?_
  try simp only[zX]
  refine ZT (i:=16) (v:=undef) rfl (Or.inr ⟨by rfl,rfl⟩) ?_
  try simp only[zX]
  refine ZT (i:=17) (v:=?vN17) rfl (Or.inl ⟨by rfl,?yN17⟩) ?_
  case yN17=>exact ZyQ
  exact QmB
def Jda(fs:List FnM):∀n,∀(y:Exp)(d:Array Value)(v:Value)(M0 Qad:Nat)(W:World),siz (utN y)<=n->NmN y->M0+siz (utN y)<=4000000000->Qad<=4000000000->XAt W (In W) y d->QbU W v fs->
  Calls prog 95 #[v,.agg d,Iv M0,Iv Qad] W (QbL W (.bool (QaC (fs.map (·.params.length)) M0 Qad y)))
 |0,y,d,v,M0,Qad,W,h,_,_,_,_,_=>by have:=KN (utN y);omega
 |n+1,.mk k nn s l,d,v,M0,Qad,W,h,hN,hv,hne,hx,hF=>by
  rw[utN,JA]at h hv;unfold NmN at hN;obtain⟨ad,cc,rfl,_,hK⟩:=hx.kids;exact JfB fs n (Jda fs n) k nn s l ad cc v M0 Qad W hN.1 hN.2 zo zo hne hK hF
def Jdb(fs:List FnM)(y:Exp)(d:Array Value)(v:Value)(M0 Qad:Nat)(W:World)(hN:NmN y)(hv:M0+siz (utN y)<=4000000000)(hne:Qad<=4000000000)(hx:XAt W (In W) y d)(hF:QbU W v fs):
  Calls prog 95 #[v,.agg d,Iv M0,Iv Qad] W (QbL W (.bool (QaC (fs.map (·.params.length)) M0 Qad y))):=
 Jda fs _ y d v M0 Qad W zzl hN hv hne hx hF
def KK{α:Type}{p:α->Bool}{l:List α}{i:Nat}{a:α}(h:(l.take i).all p=true)(hi:l[i]?=some a)(hp:p a=true):(l.take (i+1)).all p=true:=by
 rw[List.take_add_one,hi,List.all_append,h];simp[hp]
def KQ{α:Type}{p:α->Bool}{l:List α}{i:Nat}{a:α}(hi:l[i]?=some a)(hp:p a=false):l.all p=false:=by
 cases h:l.all p with
 |false=>rfl
 |true=>
  have:=List.all_eq_true.1 h a (mem_of_getElem? hi);rw[hp]at this
  cases this
structure RSz(r:Qah):Prop where
 nf:r.funcs.length<=1000000
 nc:r.clauses.length<=1000000
 fn:∀f∈r.funcs,f.name.length<=9223372036854775807/\f.params.length<=1000000/\NmN f.body/\siz (utN f.body)<=1000000
 cl:∀c∈r.clauses,NmN c.cond/\siz (utN c.cond)<=1000000/\c.reason.length<=9223372036854775807
def QaV.parts{W:World}{r:Qah}{c:Array Value}(h:QaV W (In W) r c):∃fa fc ca cc,c=#[.slice fa r.funcs.length fc,.slice ca r.clauses.length cc,Iv r.action]/\QbU W (.slice fa r.funcs.length fc) r.funcs/\Qeh W (.slice ca r.clauses.length cc) r.clauses:=by
 obtain⟨fv,cv,h1,h2,h3⟩:=h;have h2':QbU W fv r.funcs:=h2;have xA:Qeh W cv r.clauses:=h3;obtain⟨fa,fc,rfl,_⟩:=h2'.form;obtain⟨ca,cc,rfl,_⟩:=xA.form;exact⟨fa,fc,ca,cc,h1,h2',xA⟩
def trF(r:Qah)(f:FnM):Bool:=QaC r.pa f.params.length 40 f.body
def trC(r:Qah)(c:ClM):Bool:=QaC r.pa 0 40 c.cond
def Jhx(r:Qah):QbI r=(r.funcs.all (trF r)&&r.clauses.all (trC r)):=rfl
def QaV.up{w W:World}{r:Qah}{c:Array Value}(h:QaV w (In w) r c)(hb:Below w.heap.size w W):QaV W (In W) r c:=by
 obtain⟨fv,cv,h1,h2,h3⟩:=h;exact⟨fv,cv,h1,QbU.up h2 hb,Qeh.up h3 hb⟩
def QmH{P:Prop}(h:P:=by
  intro W hW;have hh:=(hW.block _ S3.o).trans S0.o
  refine⟨?_,?_,?_⟩<;>(rw[Ja hh];rfl)):P:=h
def JfC(r:Qah)(c:Array Value)(w:World)(hx:QaV w (In w) r c)(hz:RSz r):Calls prog 50 #[.agg c] w (QbL w (.bool (QbI r))):=by
 obtain⟨fa,fc,ca,cc,rfl,hF,hC⟩:=hx.parts;obtain⟨q,hq⟩:∃q,QbI r=q:=⟨_,rfl⟩
 rw[hq];rw[Jhx]at hq;have HQ:=Zh hq;have bA:Below w.heap.size w (w.alloc (.cells #[.slice fa r.funcs.length fc,.slice ca r.clauses.length cc,Iv r.action] 30)):=zzb.alloc zzl _;have S0:=Zh (zzw w (.cells #[.slice fa r.funcs.length fc,.slice ca r.clauses.length cc,Iv r.action] 30));have B0:Hi (∀W,Below (w.alloc (.cells #[.slice fa r.funcs.length fc,.slice ca r.clauses.length cc,Iv r.action] 30)).heap.size (w.alloc (.cells #[.slice fa r.funcs.length fc,.slice ca r.clauses.length cc,Iv r.action] 30)) W->Bel w W):=λW hW=>Je bA hW
 have vA:=Zh hF;have U9:=Zh hC;have HZ:=Zh hz;have kA:=hz.nf;have jA:=hz.nc;obtain⟨fl,hfl⟩:∃fl,r.funcs.length=fl:=⟨_,rfl⟩
 obtain⟨cl,hcl⟩:∃cl,r.clauses.length=cl:=⟨_,rfl⟩
 rw[hfl]at kA;rw[hcl]at jA;have cA:=Zh hfl;have eA:=Zh hcl;have aA:Hi (Below (w.alloc (.cells #[.slice fa r.funcs.length fc,.slice ca r.clauses.length cc,Iv r.action] 30)).heap.size (w.alloc (.cells #[.slice fa r.funcs.length fc,.slice ca r.clauses.length cc,Iv r.action] 30)) (w.alloc (.cells #[.slice fa r.funcs.length fc,.slice ca r.clauses.length cc,Iv r.action] 30))):=zzb;simp only[hfl,hcl]at S0 B0 vA U9 aA |-;clear bA hx hF hC hz hq hfl hcl;go_enter func50,ntmps50;go_upto_region 1 with fail;have S3:Hi (w.heap.size<(w.alloc (.cells #[.slice fa fl fc,.slice ca cl cc,Iv r.action] 30)).heap.size):=Jb S0.o;generalize World.alloc w _=w1 at*;generalize w.heap.size=eb at*
 have FF:Hi (∀W,Below w1.heap.size w1 W->W.cell? ⟨eb,0,none⟩=some (.slice fa fl fc)/\W.cell? ⟨eb,1,none⟩=some (.slice ca cl cc)/\W.cell? ⟨eb,2,none⟩=some (Iv r.action)):=by
  exact QmH
 obtain⟨b0,b1,b2⟩:=FF.o _ zzb;go_wp2_with fail;clear b0 b1 b2;go_loopg [10] fl λg v10 wr=>∃i:Nat,g+i=fl/\v10=Iv i/\Hi (Below w1.heap.size w1 wr)/\Hi ((r.funcs.take i).all (trF r)=true)
 case atStart=>exact⟨0,rfl,rfl,aA,rfl⟩
 case round=>
 clear aA;obtain⟨wl,rfl⟩:=zG wr
 obtain⟨i,hg,rfl,G1,Y4⟩:=hrel
 by_cases hi:i<fl
 ·have hil:(i:Int)<(fl:Int):=zo
  obtain⟨f,hf⟩:∃f,r.funcs[i]?=some f:=⟨r.funcs[i]'(by rw[cA.o];exact hi),List.getElem?_eq_getElem _⟩
  have hmem:=mem_of_getElem? hf;have X5:=vA.o.up (B0.o _ G1.o);obtain⟨b,o,pa,pc,da,dc,rfl,hfc⟩:=X5.get hf;obtain⟨_,uA,zA,hsz⟩:=HZ.o.fn f hmem;have c0:=hfc.c0;have c1:=hfc.c1;have c2:=hfc.c2;have c3:=hfc.c3;have c4:=hfc.c4;have c5:=hfc.c5;have c6:=hfc.c6;have wk:=zI i;have I0:Below wl.heap.size wl (wl.alloc (.cells #[.string (bs f.name),.slice pa f.params.length pc,Iv f.result,Iv f.body.kind,Iv f.body.num,.string (bs f.body.name),.slice da f.body.kids.length dc] 79)):=zzb.alloc zzl _;have U0:Below w1.heap.size w1 (wl.alloc (.cells #[.string (bs f.name),.slice pa f.params.length pc,Iv f.result,Iv f.body.kind,Iv f.body.num,.string (bs f.body.name),.slice da f.body.kids.length dc] 79)):=Je G1.o I0;have ci:=Jdb r.funcs f.body _ (.slice (some ⟨b,o,none⟩) fl fc) f.params.length 40 (wl.alloc (.cells #[.string (bs f.name),.slice pa f.params.length pc,Iv f.result,Iv f.body.kind,Iv f.body.num,.string (bs f.body.name),.slice da f.body.kids.length dc] 79)) zA zo zd (hfc.body.up I0) (X5.up I0);obtain⟨x,hx⟩:∃x,trF r f=x:=⟨_,rfl⟩
  have yA:QaC (r.funcs.map (·.params.length)) f.params.length 40 f.body=x:=hx;rw[yA]at ci;rw[show ((40:Nat):Int)=40 from rfl]at ci;have HX:=Zh hx;have HY:=Zh hf;have P2:=Zh U0;have HG:=Zh hg;have B3:=Zh hi;obtain⟨b0,b1,b2⟩:=FF.o _ U0;go_wp2_with fail;refine ci.mono ?_;rintro e w7 ⟨rfl,E4⟩;have I3:=Zh (Je P2.o E4)
  cases x with
  |true=>
   have M7:Hi ((r.funcs.take (i+1)).all (trF r)=true):=KK Y4.o HY.o HX.o;go_wp2;go_roundg (fl-(i+1))
   case measure=>have:=HG.o;have:=B3.o;omega
   case rel=>exact⟨i+1,by have:=B3.o;omega,by go_num,I3,M7⟩
  |false=>
   have O0:q=false:=by rw[<-HQ.o,KQ HY.o HX.o];rfl
   subst O0;have L8:=Zh (B0.o _ I3.o);go_wp2;go_ret;exact⟨rfl,L8.o⟩
 have hil:¬(i:Int)<(fl:Int):=zo
 obtain rfl:i=fl:=zo
 have xA:=Y4.o;rw[<-cA.o,List.take_length]at xA;have D5:Hi (r.clauses.all (trC r)=q):=by rw[Hi,<-HQ.o,xA];rfl
 obtain⟨b0,b1,b2⟩:=FF.o _ G1.o;have S4:=Zh G1.o;go_wp2_with fail;go_loopg [27] cl λg v27 wr=>∃j:Nat,g+j=cl/\v27=Iv j/\Hi (Below w1.heap.size w1 wr)/\Hi ((r.clauses.take j).all (trC r)=true)
 case atStart=>exact⟨0,rfl,rfl,S4,rfl⟩
 case round=>
 obtain⟨wm,rfl⟩:=zG wr
 obtain⟨j,hg,rfl,G1,Y4⟩:=hrel
 by_cases hj:j<cl
 ·have hA:(j:Int)<(cl:Int):=zo
  obtain⟨m,hm⟩:∃m,r.clauses[j]?=some m:=⟨r.clauses[j]'(by rw[eA.o];exact hj),List.getElem?_eq_getElem _⟩
  have hmem:=mem_of_getElem? hm;have X5:=vA.o.up (B0.o _ G1.o);have dA:=U9.o.up (B0.o _ G1.o);obtain⟨b,o,da,dc,rfl,hfc⟩:=dA.get hm;obtain⟨zA,hsz,iA⟩:=HZ.o.cl m hmem;have c0:=hfc.c0;have c1:=hfc.c1;have c2:=hfc.c2;have c3:=hfc.c3;have c4:=hfc.c4;have c5:=hfc.c5;have wk:=zI j;have I0:Below wm.heap.size wm (wm.alloc (.cells #[Iv m.cond.kind,Iv m.cond.num,.string (bs m.cond.name),.slice da m.cond.kids.length dc,Iv m.action,.string (bs m.reason)] 62)):=zzb.alloc zzl _;have U0:Below w1.heap.size w1 (wm.alloc (.cells #[Iv m.cond.kind,Iv m.cond.num,.string (bs m.cond.name),.slice da m.cond.kids.length dc,Iv m.action,.string (bs m.reason)] 62)):=Je G1.o I0;have ci:=Jdb r.funcs m.cond _ (.slice fa i fc) 0 40 (wm.alloc (.cells #[Iv m.cond.kind,Iv m.cond.num,.string (bs m.cond.name),.slice da m.cond.kids.length dc,Iv m.action,.string (bs m.reason)] 62)) zA zo zd (hfc.cond.up I0) (X5.up I0);obtain⟨x,hx⟩:∃x,trC r m=x:=⟨_,rfl⟩
  have yA:QaC (r.funcs.map (·.params.length)) 0 40 m.cond=x:=hx;rw[yA]at ci;rw[show ((40:Nat):Int)=40 from rfl,show ((0:Nat):Int)=0 from rfl]at ci;have HX:=Zh hx;have HY:=Zh hm;have P2:=Zh U0;have HG:=Zh hg;have B3:=Zh hj;obtain⟨b0,b1,b2⟩:=FF.o _ U0;go_wp2_with fail;refine ci.mono ?_;rintro e w7 ⟨rfl,E4⟩;have I3:=Zh (Je P2.o E4)
  cases x with
  |true=>
   have M7:Hi ((r.clauses.take (j+1)).all (trC r)=true):=KK Y4.o HY.o HX.o;go_wp2;go_roundg (cl-(j+1))
   case measure=>have:=HG.o;have:=B3.o;omega
   case rel=>exact⟨j+1,by have:=B3.o;omega,by go_num,I3,M7⟩
  |false=>
   have O0:q=false:=by rw[<-D5.o,KQ HY.o HX.o]
   subst O0;have L8:=Zh (B0.o _ I3.o);go_wp2;go_ret;exact⟨rfl,L8.o⟩
 have hA:¬(j:Int)<(cl:Int):=zo
 obtain rfl:j=cl:=zo
 have xA:=Y4.o;rw[<-eA.o,List.take_length]at xA;have gA:q=true:=by rw[<-D5.o,xA]
 subst gA;have S4:=Zh (B0.o _ G1.o);go_wp2;go_ret;exact⟨rfl,S4.o⟩
def Zx(r:Qah):QbH r.sigs=r.pa:=by
 unfold QbH Qah.sigs Qah.pa;rw[List.map_map];rfl
def Jco{r:Qah}(h:QbJ r=true):QbI r=true/\QbX r=true/\QaZ [] r.funcs=true/\QkE r.clauses=true/\QdU r.action=true:=by
 unfold QbJ at h;simp only[Bool.and_eq_true]at h;exact⟨h.1.2,h.2,h.1.1.1.1,h.1.1.1.2,h.1.1.2⟩
def JfD{r:Qah}(h:QbI r=true){f:FnM}(hf:f∈r.funcs):QaC (QbH r.sigs) f.params.length 40 f.body=true:=by
 unfold QbI at h;simp only[Bool.and_eq_true,all_eq_true]at h;rw[Zx];exact h.1 f hf
def Jje{r:Qah}(h:QbI r=true){c:ClM}(hc:c∈r.clauses):QaC (QbH r.sigs) 0 40 c.cond=true:=by
 unfold QbI at h;simp only[Bool.and_eq_true,all_eq_true]at h;rw[Zx];exact h.2 c hc
def Jdc{r:Qah}(h:QbX r=true){f:FnM}(hf:f∈r.funcs):ofN r.sigs f.params (utN f.body)=(f.result,[]):=by
 unfold QbX at h;simp only[Bool.and_eq_true,all_eq_true,beq_iff_eq]at h;exact Vp (h.1 f hf)
def Jhy{r:Qah}(h:QbX r=true){c:ClM}(hc:c∈r.clauses):ofN r.sigs [] (utN c.cond)=(1,[]):=by
 unfold QbX at h;simp only[Bool.and_eq_true,all_eq_true,beq_iff_eq]at h;exact Vp (h.2 c hc)
def Jig{r:Qah}{i:Nat}{s:Qau}(h:r.sigs[i]?=some s):∃f,r.funcs[i]?=some f/\f∈r.funcs/\s.params=f.params/\s.result=f.result:=by
 unfold Qah.sigs at h;rw[List.getElem?_map]at h
 cases hf:r.funcs[i]? with
 |none=>rw[hf]at h;cases h
 |some f=>
  rw[hf]at h;injection h with h;subst h;exact⟨f,rfl,mem_of_getElem? hf,rfl,rfl⟩
def Jdd{r:Qah}{F:Qav}(ht:QbI r=true)(hy:QbX r=true)(hF:Qbs F=true):∀d,QiR r.sigs (Qca r.funcs F d)
 |0=>λn args u f h0 hf ha hu=>by
  unfold Qca;split
  ·rename_i h;exact⟨Nat.le_refl _,hu,.inr (.inr ⟨rfl,h⟩)⟩
  ·exact⟨by omega,by omega,.inr (.inl rfl)⟩
 |d+1=>λn args u s h0 hs ha hu=>by
  unfold Qca;split
  ·rename_i h;exact⟨Nat.le_refl _,hu,.inr (.inr ⟨rfl,h⟩)⟩
  ·obtain⟨f,hf,hm,e1,e2⟩:=Jig hs;rw[List.getD_eq_getElem?_getD,hf,e2];rw[e1]at ha;exact(KW hF (Jdd ht hy hF d) f.body f.params args 40 (u+1) f.result (JfD ht hm) (Jdc hy hm) ha zo).le zo
def opE(k:Int)(l:List Exp):Exp:=.mk k 0 [] l
def QnY(a:Exp):Exp:=opE 7 [a]
def RN.bind_val{α β:Type}(a:α)(u:Nat)(f:α->Nat->RN β):(RN.val a u).bind f=f a u:=rfl
def RN.bind_fault{α β:Type}(e:Int)(u:Nat)(f:α->Nat->RN β):(RN.fault e u:RN α).bind f=.fault e u:=rfl
def JdT{v:Int}(h:VOk 1 v):v=0\/v=1:=by
 rcases h with⟨h,_⟩|⟨_,h⟩
 ·exact absurd h zd
 ·exact h
def JfE{fs:List Qau}{n:Int}{s:By}{o:Int}{l:List Nd}{t:Int}{k:Int}(hk:k=7\/k=16\/k=17)(h:ofN fs [] (.mk k n s o l)=(t,[])):∀a∈l,ofN fs [] a=(1,[]):=by
 rw[YX,if_neg zo,if_neg zo,if_neg zo,if_neg zo,if_neg zo,if_neg zo,if_pos hk]at h;simp only[Prod.mk.injEq]at h;have h2:=Ko h.2;clear h
 induction l with
 |nil=>intro a ha;cases ha
 |cons x r ih=>
  intro a ha;rw[List.length_cons,List.replicate_succ]at h2
  rcases List.mem_cons.1 ha with rfl|ha
  ·exact h2.1
  ·exact ih h2.2 a ha
def ty1{fs:List Qau}{t:Int}{a:Exp}(h:ofN fs [] (utN (QnY a))=(t,[])):ofN fs [] (utN a)=(1,[]):=by
 unfold QnY opE at h;rw[utN,utL,utL]at h;exact JfE (.inl rfl) h _ zp
def r0:Qah:=⟨[],[],0⟩
def Qdv:List (Tmp×Value)->Array Value->Array Value
 |[],T=>T
 |(d,v)::r,T=>Qdv r (T.setIfInBounds d v)
def Zy:∀(l:List (Tmp×Value))(T:Array Value),(Qdv l T).size=T.size
 |[],T=>rfl
 |(d,v)::r,T=>(Zy r _).trans zp
def Y1:∀(l:List (Tmp×Value))(T:Array Value)(t:Nat),(∀p∈l,p.1≠t)->(Qdv l T).getD t undef=T.getD t undef
 |[],T,t,_=>rfl
 |(d,v)::r,T,t,h=>by
  have hd:d≠t:=h (d,v) zp;rw[Qdv,Y1 r _ t λp hp=>h p (List.mem_cons_of_mem _ hp)];simp[Array.getElem?_setIfInBounds_ne hd]
def Jbf:∀(l:List (Tmp×Value))(T:Array Value)(d:Tmp)(v:Value),(l.map (·.1)).Nodup->(d,v)∈l->d<T.size->(Qdv l T).getD d undef=v
 |(d',v')::r,T,d,v,hn,hm,hs=>by
  rw[List.map_cons,List.nodup_cons]at hn
  rcases List.mem_cons.1 hm with h|h
  ·injection h with h1 h2;subst h1 h2;rw[Qdv,Y1 r _ d λp hp e=>hn.1 (by have:=List.mem_map_of_mem (f:=λx:Tmp×Value=>x.1) hp;rw[e]at this;exact this)];simp[hs]
  ·rw[Qdv];exact Jbf r _ d v hn.2 h (by simpa using hs)
def Qbt(ops:Array Oper)(i:Nat):Option Tmp:=(ops[i]?).bind (·.dst)
def QdH:Value->Option Nat
 |.pointer (some ⟨b,0,none⟩)=>some b
 |_=>none
def Qge(l:Array Bool):Nat->Nat
 |0=>0
 |n+1=>Qge l n+if l.getD n false=true then 0 else 1
def KR{l:Array Bool}{i:Nat}(h:i<l.size):(l.setIfInBounds i true).getD i false=true:=by simp[h]
def Jde{l:Array Bool}{i:Nat}(hi:i<l.size)(h0:l.getD i false=false):∀n,Qge (l.setIfInBounds i true) n+(if i<n then 1 else 0)=Qge l n
 |0=>by simp[Qge]
 |n+1=>by
  have ih:=Jde hi h0 n;unfold Qge
  by_cases e:i=n
  ·subst e;rw[KR hi,h0];simp at ih |-;exact ih
  ·rw[getD_set_ne false e];have e2:(i<n+1)=(i<n):=propext ⟨λh=>by omega,λh=>by omega⟩;simp only[e2];generalize (if i<n then 1 else 0)=x at*;generalize (if l.getD n false=true then 0 else 1)=y at*;omega
def Yr{l:Array Bool}:∀n,Qge l n=0->∀i,i<n->l.getD i false=true
 |n+1,h,i,hi=>by
  unfold Qge at h
  by_cases e:i=n
  ·subst e
   by_cases hl:l.getD i false=true
   ·exact hl
   ·rw[if_neg hl]at h;omega
  ·exact Yr n zo i zo
def Jbg{l:Array Bool}:∀n,Qge l n≠0->∃i,i<n/\l.getD i false=false/\∀j,j<i->l.getD j false=true
 |0,h=>absurd rfl h
 |n+1,h=>by
  by_cases e:Qge l n=0
  ·refine⟨n,Nat.lt_succ_self _,?_,Yr n e⟩;unfold Qge at h
   cases hl:l.getD n false with
   |false=>rfl
   |true=>rw[e,if_pos hl]at h;exact absurd rfl h
  ·obtain⟨i,h1,h2,h3⟩:=Jbg n e;exact⟨i,by omega,h2,h3⟩
structure QeW(ops:Array Oper)(N:Nat)(a0:Act)(l:Array Bool)(vs:Nat->Value)(a:Act):Prop where
 dfr:a.defers=a0.defers
 siz:a.tmps.size=a0.tmps.size
 val:∀i d,i<N->Qbt ops i=some d->l.getD i false=true->a.tmps.getD d undef=vs i
 old:∀t,(∀i,i<N->l.getD i false=true->Qbt ops i≠some t)->a.tmps.getD t undef=a0.tmps.getD t undef
def QlZ(J:List Nat)(l:Array Bool)(vs:Nat->Value)(w:World)(q:Nat):Prop:=q<w.heap.size/\∀j∈J,l.getD j false=true->QdH (vs j)≠some q
structure Qmb(n0:Nat)(N:Nat)(J:List Nat)(rel:Nat->Value->(Nat->Prop)->World->Prop)(base:World->Prop)(l:Array Bool)(vs:Nat->Value)(w:World):Prop where
 bas:base w
 low:n0<=w.heap.size
 ptr:∀j∈J,l.getD j false=true->∃b,vs j=Pt b/\n0<=b/\b<w.heap.size
 dis:∀j∈J,∀k∈J,l.getD j false=true->l.getD k false=true->j≠k->QdH (vs j)≠QdH (vs k)
 rls:∀i,i<N->l.getD i false=true->rel i (vs i) (QlZ J l vs w) w
def upd(vs:Nat->Value)(i:Nat)(v:Value):Nat->Value:=λj=>if j=i then v else vs j
def Qcf(ops:Array Oper)(N:Nat)(vs:Nat->Value):List (Tmp×Value):=(List.range N).filterMap λi=>(Qbt ops i).map λd=>(d,vs i)
def QkD(md:Region.Mode)(ops:Array Oper)(z i:Nat):Bool:=match ops[z]? with|some o=>o.after.any λe=>Region.binds md e&&e.on==i|none=>false
def Jbh{md:Region.Mode}{ops:Array Oper}{z i:Nat}(h:QkD md ops z i=true):∃o,ops[z]?=some o/\∃e∈o.after,Region.binds md e=true/\e.on=i:=by
 unfold QkD at h
 cases ho:ops[z]? with
 |none=>rw[ho]at h;cases h
 |some o=>
  rw[ho]at h;obtain⟨e,he,hb⟩:=Array.any_eq_true'.1 h;simp only[Bool.and_eq_true,beq_iff_eq]at hb;exact⟨o,rfl,e,he,hb.1,hb.2⟩
def okR(md:Region.Mode)(ops:Array Oper)(N:Nat)(n:Nat):Bool:=
 decide (N<=ops.size)&&(List.range ops.size).all (λz=>decide (z<N)||(List.range N).all λi=>QkD md ops z i||(List.range N).any λk=>decide (i<k)&&QkD md ops k i) &&
 (List.range N).all (λi=>match ops[i]? with|some o=>o.after.all λe=>!Region.binds md e||decide (e.on<i)|none=>false) &&
 decide (((List.range N).filterMap (Qbt ops)).Nodup)&&((List.range N).filterMap (Qbt ops)).all (λd=>decide (d<n)) &&
 (List.range N).all λi=>(List.range N).all λj=>decide (i=j\/Qbt ops i=none\/Qbt ops i≠Qbt ops j)
def Qjh(ops:Array Oper)(N:Nat):Array Bool:=Array.replicate N true++Array.replicate (ops.size-N) false
structure OkR(md:Region.Mode)(ops:Array Oper)(N:Nat)(n:Nat):Prop where
 le:N<=ops.size
 late:∀z,N<=z->z<ops.size->∀i,i<N->QkD md ops z i=true\/∃k,i<k/\k<N/\QkD md ops k i=true
 down:∀i,i<N->∃o,ops[i]?=some o/\∀e∈o.after,Region.binds md e=true->e.on<i
 nodup:((List.range N).filterMap (Qbt ops)).Nodup
 bnd:∀i d,i<N->Qbt ops i=some d->d<n
 inj:∀i j d,i<N->j<N->i≠j->Qbt ops i=some d->Qbt ops j≠some d
def Jdf{md:Region.Mode}{ops:Array Oper}{N n:Nat}(h:okR md ops N n=true):OkR md ops N n:=by
 unfold okR at h;simp only[Bool.and_eq_true,decide_eq_true_eq,all_eq_true,List.mem_range,Bool.or_eq_true]at h;obtain⟨⟨⟨⟨⟨h1,h2⟩,h3⟩,h4⟩,h5⟩,h6⟩:=h;refine⟨h1,λz hz hzs i hi=>?_,λi hi=>?_,h4,λi d hi hd=>?_,λi j d hi hj hne hd he=>?_⟩
 ·rcases h2 z hzs with h|h
  ·omega
  ·rcases h i hi with h|h
   ·exact .inl h
   ·obtain⟨k,hk,xA⟩:=List.any_eq_true.1 h;rw[Bool.and_eq_true,decide_eq_true_eq]at xA;exact .inr ⟨k,xA.1,List.mem_range.1 hk,xA.2⟩
 ·have:=h3 i hi
  cases ho:ops[i]? with
  |none=>rw[ho]at this;cases this
  |some o=>
   rw[ho]at this;refine⟨o,rfl,λe he hb=>?_⟩;have:=Array.all_eq_true'.1 this e he;simp only[Bool.or_eq_true,Bool.not_eq_true',decide_eq_true_eq]at this
   rcases this with h|h
   ·rw[hb]at h;cases h
   ·exact h
 ·exact h5 d (List.mem_filterMap.2 ⟨i,List.mem_range.2 hi,hd⟩)
 ·rcases h6 i hi j hj with h|h|h
  ·exact hne h
  ·rw[hd]at h;cases h
  ·exact h (hd.trans he.symm)
section
variable {P:Program}{ops:Array Oper}{Q:Exit->Act->World->Prop}{md:Region.Mode}
def Qmb.step{n0 N:Nat}{J:List Nat}{rel:Nat->Value->(Nat->Prop)->World->Prop}{base:World->Prop}{l:Array Bool}{vs:Nat->Value}{w w':World}{i:Nat}{v:Value}(hbase:∀w w',base w->Below w.heap.size w w'->base w')
  (hrel:∀i v P P' w w',(∀q,P q->q<w.heap.size)->rel i v P w->Below w.heap.size w w'->(∀q,P q->P' q)->rel i v P' w')
  (h:Qmb n0 N J rel base l vs w) (hi:i<l.size) (h0:l.getD i false=false) (hb:Below w.heap.size w w')
  (hv:∀P',(∀q,QlZ J l vs w q->P' q)->(i∉J->∀q,w.heap.size<=q->q<w'.heap.size->P' q)->rel i v P' w')
  (hj:i∈J->∃b,v=Pt b/\w.heap.size<=b/\b<w'.heap.size):Qmb n0 N J rel base (l.setIfInBounds i true) (upd vs i v) w':=by
 have hl:∀j,j≠i->(l.setIfInBounds i true).getD j false=l.getD j false:=λj e=>getD_set_ne false (Ne.symm e)
 have hu:∀j,j≠i->upd vs i v j=vs j:=λj e=>if_neg e
 have xA:upd vs i v i=v:=if_pos rfl;have hsz:=hb.size
 have hP:∀q,QlZ J l vs w q->QlZ J (l.setIfInBounds i true) (upd vs i v) w' q:=λq hq=>by
  refine⟨Nat.lt_of_lt_of_le hq.1 hsz,λj N9 hl'=>?_⟩
  by_cases e:j=i
  ·subst e;obtain⟨b,rfl,h1,_⟩:=hj N9;rw[xA];intro h2;have h3:b=q:=by simpa[QdH] using h2
   have:=hq.1;omega
  ·rw[hu j e];rw[hl j e]at hl';exact hq.2 j N9 hl'
 refine⟨hbase _ _ h.bas hb,Nat.le_trans h.low hsz,λj N9 hl'=>?_,λj N9 k hkk fB hlk hne=>?_,λj hjN hl'=>?_⟩
 ·by_cases e:j=i
  ·subst e;obtain⟨b,h1,_,h3⟩:=hj N9;exact⟨b,by rw[xA];exact h1,by have:=h.low;omega,h3⟩
  ·rw[hl j e]at hl';obtain⟨b,h1,h1',h2⟩:=h.ptr j N9 hl';exact⟨b,by rw[hu j e];exact h1,h1',Nat.lt_of_lt_of_le h2 hsz⟩
 ·by_cases e:j=i
  ·have ek:k≠i:=λh=>hne (e.trans h.symm)
   subst e;obtain⟨b,rfl,h1,_⟩:=hj N9;rw[hl k ek]at hlk;obtain⟨b',h3,_,h4⟩:=h.ptr k hkk hlk;rw[xA,hu k ek,h3];intro h5;have:b=b':=by simpa[QdH] using h5
   omega
  ·by_cases ek:k=i
   ·subst ek;obtain⟨b,rfl,h1,_⟩:=hj hkk;rw[hl j e]at fB;obtain⟨b',h3,_,h4⟩:=h.ptr j N9 fB;rw[xA,hu j e,h3];intro h5;have:b'=b:=by simpa[QdH] using h5
    omega
   ·rw[hl j e]at fB;rw[hl k ek]at hlk;rw[hu j e,hu k ek];exact h.dis j N9 k hkk fB hlk hne
 ·by_cases e:j=i
  ·subst e;rw[xA];refine hv _ hP λhnj q h1 h2=>⟨h2,λk hkk hlk=>?_⟩;have ek:k≠j:=λh=>hnj (h ▸ hkk)
   rw[hl k ek]at hlk;obtain⟨b,h3,_,h4⟩:=h.ptr k hkk hlk;rw[hu k ek,h3];intro h5;have:b=q:=by simpa[QdH] using h5
   omega
  ·rw[hl j e]at hl';rw[hu j e];exact hrel j _ _ _ _ _ (λq hq=>hq.1) (h.rls j hjN hl') hb hP
def QeW.put{N:Nat}{a0 a:Act}{l:Array Bool}{vs:Nat->Value}{i:Nat}{v:Value}(hk:OkR md ops N a0.tmps.size)(h:QeW ops N a0 l vs a)(hi:i<N)(hl:i<l.size):QeW ops N a0 (l.setIfInBounds i true) (upd vs i v) (a.put (Qbt ops i) v):=by
 have yA:∀j,j≠i->(l.setIfInBounds i true).getD j false=l.getD j false:=λj e=>getD_set_ne false (Ne.symm e)
 have xA:∀t,Qbt ops i≠some t->(a.put (Qbt ops i) v).tmps.getD t undef=a.tmps.getD t undef:=λt ht=>by
  cases hd:Qbt ops i with
  |none=>rfl
  |some d=>
   have:d≠t:=λe=>ht (by rw[hd,e])
   simp[Act.put,Array.getElem?_setIfInBounds_ne this]
 refine⟨?_,?_,λj d hj hd hlt=>?_,λt ht=>?_⟩
 ·cases hd:Qbt ops i<;>exact h.dfr
 ·cases hd:Qbt ops i with
  |none=>exact h.siz
  |some d=>simpa[Act.put] using h.siz
 ·by_cases e:j=i
  ·subst e;have hb:=hk.bnd j d hj hd;rw[<-h.siz]at hb;rw[hd];simp[Act.put,upd,hb]
  ·rw[yA j e]at hlt;rw[xA d (hk.inj j i d hj hi e hd),h.val j d hj hd hlt];simp[upd,e]
 ·have h1:Qbt ops i≠some t:=ht i hi (KR hl);rw[xA t h1]
  exact h.old t λj hj hlt=>by
   by_cases e:j=i
   ·subst e;exact h1
   ·exact ht j hj (by rw[yA j e];exact hlt)
def QeW.full{N:Nat}{a0 a:Act}{l:Array Bool}{vs:Nat->Value}(hk:OkR md ops N a0.tmps.size)(h:QeW ops N a0 l vs a)(hl:∀i,i<N->l.getD i false=true):a=⟨Qdv (Qcf ops N vs) a0.tmps,a0.defers⟩:=by
 have xA:(Qcf ops N vs).map (·.1)=(List.range N).filterMap (Qbt ops):=by
  unfold Qcf;rw[List.map_filterMap]
  congr 1
  funext i
  cases Qbt ops i<;>rfl
 have ht:a.tmps=Qdv (Qcf ops N vs) a0.tmps:=by
  refine Array.ext (by rw[Zy,h.siz]) λt h1 h2=>?_
  have e1:a.tmps[t]=a.tmps.getD t undef:=by simp[h1]
  have e2:(Qdv (Qcf ops N vs) a0.tmps)[t]=(Qdv (Qcf ops N vs) a0.tmps).getD t undef:=by simp[h2]
  rw[e1,e2]
  by_cases hd:∃i,i<N/\Qbt ops i=some t
  ·obtain⟨i,hi,hd⟩:=hd;rw[h.val i t hi hd (hl i hi)];exact(Jbf (Qcf ops N vs) _ t (vs i) (by rw[xA];exact hk.nodup) (List.mem_filterMap.2 ⟨i,List.mem_range.2 hi,by rw[hd];rfl⟩) (by rw[<-h.siz];exact h1)).symm
  ·rw[h.old t λi hi _ e=>hd ⟨i,hi,e⟩];refine(Y1 _ _ t λp hp e=>?_).symm;obtain⟨i,hi,hp⟩:=List.mem_filterMap.1 hp
   cases SD:Qbt ops i with
   |none=>rw[SD]at hp;cases hp
   |some d=>
    rw[SD]at hp;have:d=t:=by rw[<-e];exact congrArg (·.1) (Option.some.inj hp)
    exact hd ⟨i,List.mem_range.1 hi,by rw[SD,this]⟩
 obtain⟨t,d⟩:=a;simp only at ht;have hd:=h.dfr;simp only at hd;rw[ht,hd]
def JfF{l:Array Bool}{N:Nat}(hle:N<=ops.size)(hs:l.size=ops.size)(h1:∀i,i<N->l.getD i false=true)(h2:∀z,N<=z->l.getD z false=false):l=Qjh ops N:=by
 unfold Qjh;refine Array.ext zq λt ht _=>?_
 have e:l[t]=l.getD t false:=by simp[ht]
 rw[e,Array.getElem_append]
 by_cases h:t<N
 ·rw[h1 t h];simp[h]
 ·rw[h2 t zo];simp[h]
def Qlp{P:Prop}(h:P:=by
  refine hrel i _ _ _ w w (λq hq=>hq.1) (hI.rls i hi (h0 i hi)) zzb λq hP=>⟨hP.1,λj hj=>hP.2 j hj (h0 j (hJ j hj))⟩):P:=h
def Jkd{n0 N:Nat}{J:List Nat}{rel:Nat->Value->(Nat->Prop)->World->Prop}{base:World->Prop}{a0:Act}(hk:OkR md ops N a0.tmps.size)(hJ:∀j∈J,j<N)(hbase:∀w w',base w->Below w.heap.size w w'->base w')
  (hrel:∀i v P P' w w',(∀q,P q->q<w.heap.size)->rel i v P w->Below w.heap.size w w'->(∀q,P q->P' q)->rel i v P' w')
  (hop:∀i,i<N->∀(a:Act)(w:World)(Pr:Nat->Prop),base w->(∀q,Pr q->q<w.heap.size)->(∀q,q<n0->Pr q)->
   (∀j,QfW md ops i j=true->∃v,rel j v Pr w/\∀d,Qbt ops j=some d->a.tmps.getD d undef=v)->
   (∀t,(∀j,j<N->Qbt ops j≠some t)->a.tmps.getD t undef=a0.tmps.getD t undef)->
   wpOp P ops Q i (λa' w'=>∃v,a'=a.put (Qbt ops i) v/\Below w.heap.size w w'/\(∀Pr',(∀q,Pr q->Pr' q)->(i∉J->∀q,w.heap.size<=q->q<w'.heap.size->Pr' q)->rel i v Pr' w')/\
    (i∈J->∃b,v=Pt b/\w.heap.size<=b/\b<w'.heap.size)) a w)
  (hend:∀n vs w,ops.size-N<=n->base w->(∀j∈J,∃b,vs j=Pt b/\n0<=b/\b<w.heap.size)->(∀j∈J,∀k∈J,j≠k->QdH (vs j)≠QdH (vs k))->
   (∀i,i<N->rel i (vs i) (λq=>q<w.heap.size/\∀j∈J,QdH (vs j)≠some q) w)->wpAny P md ops Q n (Qjh ops N) ⟨Qdv (Qcf ops N vs) a0.tmps,a0.defers⟩ w):
  ∀n l vs a w,l.size=ops.size->Qge l N+(ops.size-N)<=n->(∀z,N<=z->l.getD z false=false)->QeW ops N a0 l vs a->Qmb n0 N J rel base l vs w->(∀k i,k<N->QkD md ops k i=true->l.getD k false=true->l.getD i false=true)->wpAny P md ops Q n l a w:=by
 intro n
 induction n with
 |zero=>
  intro l vs a w hs hn hz hf hI hcl;have h0:=Yr N (show Qge l N=0 by omega);rw[JfF hk.le hs h0 hz,hf.full hk h0]
  exact hend 0 vs w zo hI.bas (λj hj=>hI.ptr j hj (h0 j (hJ j hj))) (λj hj k hkk=>hI.dis j hj k hkk (h0 j (hJ j hj)) (h0 k (hJ k hkk))) λi hi=>by
   exact Qlp
 |succ n ih=>
  intro l vs a w hs hn hz hf hI hcl
  by_cases X9:Qge l N=0
  ·have h0:=Yr N X9;rw[JfF hk.le hs h0 hz,hf.full hk h0]
   exact hend (n+1) vs w zo hI.bas (λj hj=>hI.ptr j hj (h0 j (hJ j hj))) (λj hj k hkk=>hI.dis j hj k hkk (h0 j (hJ j hj)) (h0 k (hJ k hkk))) λi hi=>by
    exact Qlp
  ·obtain⟨m,gA,j5,eA⟩:=Jbg N X9;have iA:∀j,j<N->j<l.size:=λj hj=>by have:=hk.le;omega
   have jA:m∈Region.ready md ops l:=by
    obtain⟨o,ho,hd⟩:=hk.down m gA;refine mem_ready.2 ⟨?_,o,ho,λe he hb=>eA e.on (hd e he hb)⟩;have:=iA m gA;simpa[this] using j5
   refine⟨λh=>(by rw[h]at jA;cases jA),λj hj=>?_⟩;obtain⟨mA,o,ho,zA⟩:=mem_ready.1 hj;have kA:j<ops.size:=(Array.getElem?_eq_some_iff.1 ho).1
   have cA:j<N:=by
    by_cases h:j<N
    ·exact h
    exfalso
    have hd:∀n i,N-i<=n->i<N->l.getD i false=true:=by
     intro n
     induction n with
     |zero=>intro i h1 h2;omega
     |succ n ih2=>
      intro i h1 h2
      rcases hk.late j zo kA i h2 with he|⟨k,h3,h4,he⟩
      ·obtain⟨o',xA,e,hA,hb,dA⟩:=Jbh he;rw[ho]at xA;obtain rfl:=Option.some.inj xA;have:=zA e hA hb;rw[dA]at this;exact this
      ·exact hcl k i h4 he (ih2 k zo h4)
    have:=hd N m zo gA;rw[j5]at this
    cases this
   have vA:=iA j cA;have aA:l.getD j false=false:=by simpa[vA] using mA
   refine wpOp_mono (λa' w' h'=>?_) (hop j cA a w (QlZ J l vs w) hI.bas (λq hq=>hq.1) (λq hq=>⟨Nat.lt_of_lt_of_le hq hI.low,λk hkk bA h=>by
     obtain⟨b,h3,h4,_⟩:=hI.ptr k hkk bA;rw[h3]at h;have:b=q:=by simpa[QdH] using h
     omega⟩) (λk hw=>?_) λt ht=>hf.old t λk uA _=>ht k uA)
   ·obtain⟨v,rfl,hb,hv,hp⟩:=h';refine ih _ (upd vs j v) _ _ (by simpa using hs) ?_ (λz hzN=>?_) (hf.put hk cA vA) (Qmb.step hbase hrel hI vA aA hb hv hp) λk i uA he hl'=>?_
    ·have:=Jde vA aA N;rw[if_pos cA]at this;omega
    ·rw[getD_set_ne false (by omega:j≠z)];exact hz z hzN
    ·have yA:∀i,l.getD i false=true->(l.setIfInBounds j true).getD i false=true:=λi h=>by
      by_cases e:j=i
      ·subst e;exact KR vA
      ·rw[getD_set_ne false e];exact h
     by_cases e:k=j
     ·subst e;obtain⟨o',xA,e,hA,A0,dA⟩:=Jbh he;rw[ho]at xA;obtain rfl:=Option.some.inj xA;have:=zA e hA A0;rw[dA]at this;exact yA _ this
     ·rw[getD_set_ne false (Ne.symm e)]at hl';exact yA _ (hcl k i uA he hl')
   ·unfold QfW at hw;rw[ho]at hw;obtain⟨e,he,hb⟩:=Array.any_eq_true'.1 hw;simp only[Bool.and_eq_true,beq_iff_eq]at hb;have bA:=zA e he hb.1;rw[hb.2]at bA
    have uA:k<N:=by
     obtain⟨o',xA,hd⟩:=hk.down j cA;rw[ho]at xA;obtain rfl:=Option.some.inj xA;have:=hd e he hb.1;omega
    exact⟨vs k,hI.rls k uA bA,λd hd=>hf.val k d uA hd bA⟩
def Qcm(P:Program)(ops:Array Oper)(Q:Exit->Act->World->Prop)(n0 N:Nat)(J:List Nat)(rel:Nat->Value->(Nat->Prop)->World->Prop)(base:World->Prop)(a0:Act)(i:Nat):Prop:=
 ∀(a:Act)(w:World)(Pr:Nat->Prop),base w->(∀q,Pr q->q<w.heap.size)->(∀q,q<n0->Pr q)->
  (∀j,QfW .any ops i j=true->∃v,rel j v Pr w/\∀d,Qbt ops j=some d->a.tmps.getD d undef=v)->
  (∀t,(∀j,j<N->Qbt ops j≠some t)->a.tmps.getD t undef=a0.tmps.getD t undef)->
  wpOp P ops Q i (λa' w'=>∃v,a'=a.put (Qbt ops i) v/\Below w.heap.size w w'/\(∀Pr',(∀q,Pr q->Pr' q)->(i∉J->∀q,w.heap.size<=q->q<w'.heap.size->Pr' q)->rel i v Pr' w')/\
   (i∈J->∃b,v=Pt b/\w.heap.size<=b/\b<w'.heap.size)) a w
def Qcm.of{n0 N:Nat}{J:List Nat}{rel:Nat->Value->(Nat->Prop)->World->Prop}{base:World->Prop}{a0:Act}(i:Nat){d:Option Tmp}{oo:Op}{t:TypeId}{p:String}{af:Array Edge}{g:Option (Nat×Bool)}(hi:ops[i]?=some ⟨d,oo,t,p,af,g⟩)
  (h:∀(a:Act)(w:World)(Pr:Nat->Prop),base w->(∀q,Pr q->q<w.heap.size)->(∀q,q<n0->Pr q)->
   (∀j t,QfW .any ops i j=true->Qbt ops j=some t->∃v,rel j v Pr w/\a.tmps[t]?.getD undef=v)->
   (∀t,((List.range N).all λj=>decide (Qbt ops j≠some t))=true->a.tmps[t]?.getD undef=a0.tmps.getD t undef)->
   ∀K:Act->World->Prop,Shut (∀v w',Below w.heap.size w w'->(∀Pr',(∀q,Pr q->Pr' q)->(i∉J->∀q,w.heap.size<=q->q<w'.heap.size->Pr' q)->rel i v Pr' w')->
    (i∈J->∃b,v=Pt b/\w.heap.size<=b/\b<w'.heap.size)->K (a.put d v) w')->
   if Region.wanted ⟨d,oo,t,p,af,g⟩ (yielded ops a.tmps)=true then Oper.wp P ⟨d,oo,t,p,af,g⟩ a w K Q else K (a.put d undef) w):Qcm P ops Q n0 N J rel base a0 i:=by
 intro a w Pr hb hP hn hd ho;refine wpOp_step hi λK' hK=>h a w Pr hb hP hn (λj t hw ht=>?_) (λt ht=>?_) K' λv w' h1 h2 h3=>hK _ _ ⟨v,?_,h1,h2,h3⟩
 ·obtain⟨v,h1,h2⟩:=hd j hw;exact⟨v,h1,by simpa using h2 t ht⟩
 ·have:=ho t λj hj e=>by
   have:=List.all_eq_true.1 ht j (List.mem_range.2 hj);simp[e]at this
  simpa using this
 ·unfold Qbt;rw[hi];rfl
def Jdg(k:Nat):∀n,Qge (Array.replicate k false) n=n
 |0=>rfl
 |n+1=>by
  unfold Qge;rw[Jdg k n];have:(Array.replicate k false).getD n false=false:=by by_cases h:n<k<;>simp[h]
  rw[this];rfl
def JdU(N:Nat)(J:List Nat)(rel:Nat->Value->(Nat->Prop)->World->Prop)(base:World->Prop){id:Nat}{a0:Act}{w:World}(hb:base w.drew)(hJ:∀j∈J,j<N)(hbase:∀w w',base w->Below w.heap.size w w'->base w')
  (hrel:∀i v P P' w w',(∀q,P q->q<w.heap.size)->rel i v P w->Below w.heap.size w w'->(∀q,P q->P' q)->rel i v P' w')
  (hop:∀i,i<N->Qcm P ops Q w.heap.size N J rel base a0 i)
  (hend:∀n vs w1,ops.size-N<=n->base w1->(∀j∈J,∃b,vs j=Pt b/\w.heap.size<=b/\b<w1.heap.size)->(∀j∈J,∀k∈J,j≠k->QdH (vs j)≠QdH (vs k))->
   (∀i,i<N->rel i (vs i) (λq=>q<w1.heap.size/\∀j∈J,QdH (vs j)≠some q) w1)->wpAny P .any ops Q n (Qjh ops N) ⟨Qdv (Qcf ops N vs) a0.tmps,a0.defers⟩ w1)
  (hk:okR .any ops N a0.tmps.size=true:=by kernel_rfl) (hm:P.follows .mixedOrders=true:=by kernel_rfl):(Code.region id ops true).wp P Q a0 w:=
 wp_region_any hm (Jkd (Jdf hk) hJ hbase hrel hop hend ops.size _ (λ_=>undef) a0 w.drew zp (by
  have:=(Jdf hk).le;rw[Jdg]
  omega) (λz _=>by by_cases h:z<ops.size<;>simp[h]) ⟨rfl,rfl,λi d _ _ h=>by by_cases h':i<ops.size<;>simp[h']at h,λ_ _=>rfl⟩ ⟨hb,Nat.le_refl _,λj _ h=>by by_cases h':j<ops.size<;>simp[h']at h,λj _ k _ h=>by by_cases h':j<ops.size<;>simp[h']at h,λj _ h=>by by_cases h':j<ops.size<;>simp[h']at h⟩ λk i _ _ h=>by by_cases h':k<ops.size<;>simp[h']at h)
end
def Qmf(p:Nat->Prop):Nat->Prop
 |0=>True
 |n+1=>Qmf p n/\p n
def QkH{p:Nat->Prop}:∀{n:Nat},Qmf p n->∀i,i<n->p i
 |n+1,h,i,hi=>by
  by_cases e:i=n
  ·subst e;exact h.2
  ·exact QkH h.1 i zo
def IntsX.away{w W:World}{rb:Nat}{l:List Int}{v:Value}(h:Qbc w (In w) l v)(hb:Bel w W)(hr:w.heap.size<=rb):QaP W rb v l:=by
 obtain⟨ad,cc,rfl,h2,h3⟩:=h
 rcases h3 with h5|⟨b,o,h4,h5,h6⟩
 ·subst h5;exact .inl ⟨rfl,ad,cc,rfl⟩
 ·subst h4;have hlt:b<w.heap.size:=h5;have hs:w.heap.size<=W.heap.size:=hb.size;exact .inr ⟨b,o,cc,rfl,h2,by omega,by omega,λi n hi=>(hb.cell (p:=⟨b,o+i,none⟩) hlt).trans (h6 i n hi)⟩
def Qas(f:FnM):Qau:=⟨f.params,f.result⟩
def Jcp{w W:World}{rb:Nat}{fs:List FnM}{v:Value}(h:QbU w v fs)(hb:Bel w W)(hr:w.heap.size<=rb):QdJ W rb v (fs.map Qas):=by
 obtain⟨ad,cc,rfl,_⟩:=h.form;refine⟨ad,cc,by rw[List.length_map],λhne=>?_⟩
 have xA:0<fs.length:=by
  cases fs with
  |nil=>exact absurd rfl hne
  |cons a l=>simp
 obtain⟨g,o,pa,pc,da,dc,yA,uA⟩:=h.get (i:=0) (List.getElem?_eq_getElem xA);refine⟨g,o,yA,by have:=uA.blt;omega,λi s hs=>?_⟩;rw[List.getElem?_map]at hs;obtain⟨f,hf,rfl⟩:=Option.map_eq_some_iff.1 hs;obtain⟨g',o',vA,aA,zA,bA,O1,hc⟩:=h.get hf;rw[yA]at O1;injection O1 with O1;injection O1 with e1 e2 e3;subst e1 e2;refine⟨bs f.name,.slice vA f.params.length aA,f.body.kind,f.body.num,bs f.body.name,zA,f.body.kids.length,bA,IntsX.away hc.nums hb hr,λj u hj=>?_⟩;have hlt:=hc.blt;have hk:∀j u,w.cell? ⟨g,o+i*7+j,none⟩=some u->W.cell? ⟨g,o+i*7+j,none⟩=some u:=λj u hu=>(hb.cell (p:=⟨g,o+i*7+j,none⟩) hlt).trans hu
 match j,hj with
 |0,hj=>obtain rfl:=Option.some.inj hj;exact hk 0 _ hc.c0
 |1,hj=>obtain rfl:=Option.some.inj hj;exact hk 1 _ hc.c1
 |2,hj=>obtain rfl:=Option.some.inj hj;exact hk 2 _ hc.c2
 |3,hj=>obtain rfl:=Option.some.inj hj;exact hk 3 _ hc.c3
 |4,hj=>obtain rfl:=Option.some.inj hj;exact hk 4 _ hc.c4
 |5,hj=>obtain rfl:=Option.some.inj hj;exact hk 5 _ hc.c5
 |6,hj=>obtain rfl:=Option.some.inj hj;exact hk 6 _ hc.c6
 |j+7,hj=>cases hj
def tyF(r:Qah)(f:FnM):List Int:=QbS r.sigs f.params f.result (utN f.body)
def tyC(r:Qah)(c:ClM):List Int:=QbS r.sigs [] 1 (utN c.cond)
def QeZ(r:Qah)(i:Nat):List Int:=((r.funcs.take i).map (tyF r)).flatten
def QgA(r:Qah)(i:Nat):List Int:=((r.clauses.take i).map (tyC r)).flatten
def JfG{r:Qah}{i:Nat}{f:FnM}(h:r.funcs[i]?=some f):QeZ r (i+1)=QeZ r i++tyF r f:=by unfold QeZ;rw[JF h];simp
def JfH{r:Qah}{i:Nat}{f:ClM}(h:r.clauses[i]?=some f):QgA r (i+1)=QgA r i++tyC r f:=by unfold QgA;rw[JF h];simp
def Jcq(x:Option Int)(l:List Int):(QaG x l).isSome=(x.isSome||!l.isEmpty):=by
 induction l generalizing x with
 |nil=>simp[QaG]
 |cons a l ih=>
  have:QaG x (a::l)=QaG (addF x a) l:=rfl;rw[this,ih];simp[addF]
def Jhz(r:Qah):QbX r=!(QaG none (QeZ r r.funcs.length++QgA r r.clauses.length)).isSome:=by
 rw[Jcq];unfold QeZ QgA QbX;rw[List.take_length,List.take_length];simp only[Option.isSome_none,Bool.false_or,Bool.not_not];have e1:∀f,QcW r.sigs f.params f.result (utN f.body)=tyF r f:=λ_=>rfl
 have e2:∀c,QcW r.sigs [] 1 (utN c.cond)=tyC r c:=λ_=>rfl
 simp only[e1,e2];rw[Bool.eq_iff_iff];simp[all_eq_true,List.flatten_eq_nil_iff]
def QdL{w W W':World}{rb:Nat}(hb:Bel w W)(hr:w.heap.size<=rb)(hc:Chg [rb] W W'):Bel w W':=
 Kk hb hc.os hc.tape hc.output hc.size λk hk=>hc.block k (Nat.lt_of_lt_of_le hk hb.size) zq
def JfI(r:Qah)(c:Array Value)(w:World)(hx:QaV w (In w) r c)(hz:RSz r)(ht:QbI r=true):Calls prog 51 #[.agg c] w (QbL w (.bool (QbX r))):=by
 obtain⟨fa,fc,ca,cc,rfl,hF,hC⟩:=hx.parts;have hq:QbX r=!(QaG none (QeZ r r.funcs.length++QgA r r.clauses.length)).isSome:=Jhz r;rw[hq]
 have zB:∀f∈r.funcs,QeI r.sigs.length f.params.length (utN f.body)/\WfN (utN f.body):=by
  intro f hf;unfold QbI at ht;simp only[Bool.and_eq_true,all_eq_true]at ht;have:=VJ f.body _ _ (ht.1 f hf);rw[show r.pa.length=r.sigs.length by simp[Qah.pa,Qah.sigs]]at this;exact this
 have uB:∀c∈r.clauses,QeI r.sigs.length 0 (utN c.cond)/\WfN (utN c.cond):=by
  intro c hc;unfold QbI at ht;simp only[Bool.and_eq_true,all_eq_true]at ht;have:=VJ c.cond _ _ (ht.2 c hc);rw[show r.pa.length=r.sigs.length by simp[Qah.pa,Qah.sigs]]at this;exact this
 have eB:∀s∈r.sigs,s.params.length<=1000000000:=by
  intro s hs;unfold Qah.sigs at hs;obtain⟨f,hf,rfl⟩:=List.mem_map.1 hs;have:=(hz.fn f hf).2.1
  show f.params.length<=_
  omega
 have bB:Below w.heap.size w (w.alloc (.cells #[.slice fa r.funcs.length fc,.slice ca r.clauses.length cc,Iv r.action] 30)):=zzb.alloc zzl _;have sA:Below w.heap.size w ((w.alloc (.cells #[.slice fa r.funcs.length fc,.slice ca r.clauses.length cc,Iv r.action] 30)).alloc (.cells #[.bool false,Iv 0,.slice fa r.funcs.length fc] 147)):=bB.alloc zp _;have S0:Hi (((w.alloc (.cells #[.slice fa r.funcs.length fc,.slice ca r.clauses.length cc,Iv r.action] 30)).alloc (.cells #[.bool false,Iv 0,.slice fa r.funcs.length fc] 147)).heap[w.heap.size]?=some (.cells #[.slice fa r.funcs.length fc,.slice ca r.clauses.length cc,Iv r.action] 30 (0,0))):=Jf (zzw w _)
 have kA:Qbf ((w.alloc (.cells #[.slice fa r.funcs.length fc,.slice ca r.clauses.length cc,Iv r.action] 30)).alloc (.cells #[.bool false,Iv 0,.slice fa r.funcs.length fc] 147)) (w.heap.size+1) 147 none (.slice fa r.funcs.length fc):=by
  have e1:=zzw (w.alloc (.cells #[.slice fa r.funcs.length fc,.slice ca r.clauses.length cc,Iv r.action] 30)) (.cells #[.bool false,Iv 0,.slice fa r.funcs.length fc] 147);simp only[World.size_alloc]at e1;exact e1
 have B0:Hi (∀W,Chg [w.heap.size+1] ((w.alloc (.cells #[.slice fa r.funcs.length fc,.slice ca r.clauses.length cc,Iv r.action] 30)).alloc (.cells #[.bool false,Iv 0,.slice fa r.funcs.length fc] 147)) W->Bel w W):=λW hW=>QdL (rb:=w.heap.size+1) sA zo hW
 have vB:Hi (∀W,Chg [w.heap.size+1] ((w.alloc (.cells #[.slice fa r.funcs.length fc,.slice ca r.clauses.length cc,Iv r.action] 30)).alloc (.cells #[.bool false,Iv 0,.slice fa r.funcs.length fc] 147)) W->QdJ W (w.heap.size+1) (.slice fa r.funcs.length fc) r.sigs):=λW hW=>Jcp hF (QdL (rb:=w.heap.size+1) sA zo hW) zo
 have jB:Hi (∀W l v,Bel w W->Qbc w (In w) l v->QaP W (w.heap.size+1) v l):=λW l v hb hn=>IntsX.away hn hb zo
 have cB:Hi (Qbf ((w.alloc (.cells #[.slice fa r.funcs.length fc,.slice ca r.clauses.length cc,Iv r.action] 30)).alloc (.cells #[.bool false,Iv 0,.slice fa r.funcs.length fc] 147)) (w.heap.size+1) 147 (QaG none (QeZ r 0)) (.slice fa r.funcs.length fc)):=kA;have aB:=Zh hF;have U9:=Zh hC;have HZ:=Zh hz;have nB:=Zh zB;have mB:=Zh uB;have G9:=Zh eB;have zC:=hz.nf;have xC:=hz.nc;have sB:Hi (w.heap.size≠w.heap.size+1/\w.heap.size+1<((w.alloc (.cells #[.slice fa r.funcs.length fc,.slice ca r.clauses.length cc,Iv r.action] 30)).alloc (.cells #[.bool false,Iv 0,.slice fa r.funcs.length fc] 147)).heap.size):=⟨by omega,by simp⟩
 go_enter func51,ntmps51;go_upto_region 1 with fail;have b0:(w.alloc (.cells #[.slice fa r.funcs.length fc,.slice ca r.clauses.length cc,Iv r.action] 30)).cell? ⟨w.heap.size,0,none⟩=some (.slice fa r.funcs.length fc):=by rw[Ja (zzw w (.cells #[.slice fa r.funcs.length fc,.slice ca r.clauses.length cc,Iv r.action] 30))];rfl
 go_upto_region 2 with fail
 (try simp only[World.size_alloc])
 generalize World.alloc (World.alloc w _) _=w2 at*;generalize w.heap.size+1=rb at*;generalize w.heap.size=eb at*
 have FF:Hi (∀W,Chg [rb] w2 W->W.cell? ⟨eb,0,none⟩=some (.slice fa r.funcs.length fc)/\W.cell? ⟨eb,1,none⟩=some (.slice ca r.clauses.length cc)/\W.cell? ⟨eb,2,none⟩=some (Iv r.action)):=by
  intro W hW;have hh:=hW.heap_some (by simp;exact sB.o.1) S0.o;refine⟨?_,?_,?_⟩<;>(rw[Ja hh];rfl)
 obtain⟨b0,b1,b2⟩:=FF.o _ (Chg.refl _ _);go_wp2_with fail;go_loopg [15] r.funcs.length λg v15 wr=>∃i:Nat,g+i=r.funcs.length/\v15=Iv i/\Hi (Chg [rb] w2 wr)/\Hi (Qbf wr rb 147 (QaG none (QeZ r i)) (.slice fa r.funcs.length fc))
 case atStart=>exact⟨0,rfl,rfl,Chg.refl _ _,cB⟩
 case round=>
 obtain⟨wl,rfl⟩:=zG wr
 obtain⟨i,hg,rfl,G1,Y4⟩:=hrel
 by_cases hi:i<r.funcs.length
 ·have hil:(i:Int)<(r.funcs.length:Int):=zo
  obtain⟨f,hf⟩:∃f,r.funcs[i]?=some f:=⟨r.funcs[i],List.getElem?_eq_getElem hi⟩
  have hmem:=List.mem_of_getElem? hf;have X5:=aB.o.up (B0.o _ G1.o);obtain⟨b,o,pa,pc,da,dc,G3,hfc⟩:=X5.get hf
  have vA:Qbc w (In w) f.params (.slice pa f.params.length pc):=by
   obtain⟨b9,o9,yC,uC,vC,tB,iA,aA⟩:=aB.o.get hf;rw[G3]at iA;injection iA with e9;injection e9 with e1 e2;subst e1 e2;have hlt:b<w.heap.size:=aA.blt;have h1:=hfc.c1;have h2:wl.cell? _=_:=((B0.o _ G1.o).cell (p:=⟨b,o+i*7+1,none⟩) hlt).trans aA.c1;rw[h1]at h2;injection h2 with h2;rw[h2];exact aA.nums
  obtain⟨_,gA,xB,hsz⟩:=HZ.o.fn f hmem;have c0:=hfc.c0;have c1:=hfc.c1;have c2:=hfc.c2;have c3:=hfc.c3;have c4:=hfc.c4;have c5:=hfc.c5;have c6:=hfc.c6;have wk:=zI i;have I0:Below wl.heap.size wl (wl.alloc (.cells #[.string (bs f.name),.slice pa f.params.length pc,Iv f.result,Iv f.body.kind,Iv f.body.num,.string (bs f.body.name),.slice da f.body.kids.length dc] 79)):=zzb.alloc zzl _;have U0:Chg [rb] w2 (wl.alloc (.cells #[.string (bs f.name),.slice pa f.params.length pc,Iv f.result,Iv f.body.kind,Iv f.body.num,.string (bs f.body.name),.slice da f.body.kids.length dc] 79)):=G1.o.trans (Chg.of_below I0 [rb]);have A2:=Zh (zzw wl (.cells #[.string (bs f.name),.slice pa f.params.length pc,Iv f.result,Iv f.body.kind,Iv f.body.num,.string (bs f.body.name),.slice da f.body.kids.length dc] 79));have rB:Hi (∀W,Bel (wl.alloc (.cells #[.string (bs f.name),.slice pa f.params.length pc,Iv f.result,Iv f.body.kind,Iv f.body.num,.string (bs f.body.name),.slice da f.body.kids.length dc] 79)) W->XAt W (In W) f.body #[Iv f.body.kind,Iv f.body.num,.string (bs f.body.name),.slice da f.body.kids.length dc]):=λW hW=>(hfc.body.up I0).up hW
  have M7:Hi (Qbf (wl.alloc (.cells #[.string (bs f.name),.slice pa f.params.length pc,Iv f.result,Iv f.body.kind,Iv f.body.num,.string (bs f.body.name),.slice da f.body.kids.length dc] 79)) rb 147 (QaG none (QeZ r i)) (.slice fa r.funcs.length fc)):=(I0.block _ (Jb Y4.o)).trans Y4.o;obtain⟨eA,hwf⟩:=nB.o f hmem;have rA:=Zh eA;have qA:=Zh hwf;have HS:Hi (siz (utN f.body)<=1000000/\f.params.length<=1000000):=⟨hsz,gA⟩
  have pB:=Zh vA;have HY:=Zh (JfG hf);have R5:=Zh U0;have HG:=Zh hg;have B3:=Zh hi;have iB:Hi (rb<wl.heap.size):=Jb Y4.o;have qB:=Zh G3;subst G3;go_upto_region 5 with fail;generalize World.alloc wl _=w3 at*;generalize P4:wl.heap.size=cb at*
  have F3:Hi (∀W,Chg [rb] w3 W->W.cell? ⟨cb,1,none⟩=some (.slice pa f.params.length pc)/\W.cell? ⟨cb,2,none⟩=some (Iv f.result)/\W.cell? ⟨cb,3,none⟩=some (Iv f.body.kind)/\W.cell? ⟨cb,4,none⟩=some (Iv f.body.num)/\W.cell? ⟨cb,5,none⟩=some (.string (bs f.body.name))/\W.cell? ⟨cb,6,none⟩=some (.slice da f.body.kids.length dc)):=by
   intro W hW;have hh:=hW.heap_some (by simp;have:=iB.o;omega) A2.o;refine⟨?_,?_,?_,?_,?_,?_⟩<;>(rw[Ja hh];rfl)
  have pA:Chg [rb] w3 w3.drew:=Chg.of_below (Below.refl w3.heap.size w3).drew [rb];refine wp_region_held_drew (S:=(λW=>Chg [rb] w3 W/\W.cell? ⟨cb,1,none⟩=some (.slice pa f.params.length pc)/\W.cell? ⟨cb,2,none⟩=some (Iv f.result)/\W.cell? ⟨cb,3,none⟩=some (Iv f.body.kind)/\W.cell? ⟨cb,4,none⟩=some (Iv f.body.num)/\W.cell? ⟨cb,5,none⟩=some (.string (bs f.body.name))/\W.cell? ⟨cb,6,none⟩=some (.slice da f.body.kids.length dc))) zk (⟨pA,F3.o _ pA⟩) λhH=>?_;refine ZT (i:=0) (v:=?vR0) rfl (Or.inl ⟨by rfl,?yR0⟩) ?_
  case yR0=>exact ZyQ
  refine ZT (i:=1) (v:=?vR1) rfl (Or.inl ⟨by rfl,?yR1⟩) ?_
  case yR1=>exact ZyQ
  refine ZT (i:=2) (v:=?vR2) rfl (Or.inl ⟨by rfl,?yR2⟩) ?_
  case yR2=>exact ZyQ
  refine ZT (i:=4) (v:=?vR4) rfl (Or.inl ⟨by rfl,?yR4⟩) ?_
  case yR4=>exact ZyQ
  refine ZT (i:=5) (v:=?vR5) rfl (Or.inl ⟨by rfl,?yR5⟩) ?_
  case yR5=>exact ZyQ
  refine ZT (i:=6) (v:=?vR6) rfl (Or.inl ⟨by rfl,?yR6⟩) ?_
  case yR6=>exact ZyQ
  refine ZT (i:=7) (v:=?vR7) rfl (Or.inl ⟨by rfl,?yR7⟩) ?_
  case yR7=>exact ZyQ
  refine ZS 3 rfl λK hK=>?_;have cu:=V0 (siz (utN f.body)) (zt HS.o.1) f.body _ w3.drew zzl (rB.o _ (Below.refl w3.heap.size w3).drew)
  (go_simp;go_at_call 96;refine cu.mono ?_;rintro e w6 ⟨yb,rfl,yA,xA,uA,L2⟩)
  have j0:Chg [rb] w3 w6:=pA.trans (Chg.of_below L2 [rb]);have mA:Below w3.heap.size w3 w6:=Je (Below.refl w3.heap.size w3).drew L2;have zA:Qbf w6 rb 147 (QaG none (QeZ r i)) (.slice (some ⟨b,o,none⟩) r.funcs.length fc):=(mA.block _ (Jb M7.o)).trans M7.o;have bA:=Jb M7.o;have dA:=Zh j0;have cn:=JD r.sigs rb (.slice (some ⟨b,o,none⟩) r.funcs.length fc) yb f.params (.slice pa f.params.length pc) (QaG none (QeZ r i)) f.result w6 ⟨xA,λhm=>by have:=(uA _ hm).1;have h9:w3.heap.size<=w3.drew.heap.size:=Nat.le_refl _;omega,zA,vB.o _ (R5.o.trans j0),jB.o _ _ _ (B0.o _ (R5.o.trans j0)) pB.o,by rw[yA];exact rA.o,by rw[yA];exact qA.o⟩ (λW hp=>JaW _ rb _ G9.o (siz yb.nd) yb f.params (.slice pa f.params.length pc) _ W zzl (by have:=HS.o;rw[yA];omega) hp);rw[yA]at cn;have tA:QbS r.sigs f.params f.result (utN f.body)=tyF r f:=rfl;rw[tA]at cn;obtain⟨ya,yn,yc,jA⟩:=Jg yb;rw[jA]at cn |-;refine zU hK (⟨dA.o,F3.o _ dA.o⟩) λhH=>?_
  refine ZS 8 rfl λK hK=>?_
  (go_simp;go_at_call 76;refine cn.mono ?_;rintro e w8 ⟨rfl,hA,cA⟩)
  refine zU hK (⟨dA.o.trans cA,F3.o _ (dA.o.trans cA)⟩) λhH=>?_
  refine wpAnyH_done zk ?_ _;have yB:Hi (Chg [rb] w2 w8):=R5.o.trans (dA.o.trans cA);have nA:Hi (Qbf w8 rb 147 (QaG none (QeZ r (i+1))) (.slice (some ⟨b,o,none⟩) r.funcs.length fc)):=by rw[Hi,HY.o,Jt];exact hA
  go_wp2;go_roundg (r.funcs.length-(i+1))
  case measure=>have:=HG.o;have:=B3.o;omega
  case rel=>exact⟨i+1,by have:=B3.o;omega,by go_num,yB,nA⟩
 have hil:¬(i:Int)<(r.funcs.length:Int):=zo
 obtain rfl:i=r.funcs.length:=zo
 obtain⟨b0,b1,b2⟩:=FF.o _ G1.o;have S4:=Zh G1.o;have M7:Hi (Qbf wl rb 147 (QaG none (QeZ r r.funcs.length++QgA r 0)) (.slice fa r.funcs.length fc)):=by rw[Hi,show QgA r 0=[] from rfl,List.append_nil];exact Y4.o
 go_wp2_with fail;go_loopg [32] r.clauses.length λg v32 wr=>∃j:Nat,g+j=r.clauses.length/\v32=Iv j/\Hi (Chg [rb] w2 wr)/\Hi (Qbf wr rb 147 (QaG none (QeZ r r.funcs.length++QgA r j)) (.slice fa r.funcs.length fc))
 case atStart=>exact⟨0,rfl,rfl,S4,M7⟩
 case round=>
 obtain⟨wm,rfl⟩:=zG wr
 obtain⟨j,hg,rfl,G1,Y4⟩:=hrel
 by_cases hj:j<r.clauses.length
 ·have hB:(j:Int)<(r.clauses.length:Int):=zo
  obtain⟨m,hm⟩:∃m,r.clauses[j]?=some m:=⟨r.clauses[j],List.getElem?_eq_getElem hj⟩
  have hmem:=List.mem_of_getElem? hm;have dB:=U9.o.up (B0.o _ G1.o);obtain⟨b,o,da,dc,gB,hfc⟩:=dB.get hm;obtain⟨xB,hsz,kB⟩:=HZ.o.cl m hmem;have c0:=hfc.c0;have c1:=hfc.c1;have c2:=hfc.c2;have c3:=hfc.c3;have c4:=hfc.c4;have c5:=hfc.c5;have wk:=zI j;have I0:Below wm.heap.size wm (wm.alloc (.cells #[Iv m.cond.kind,Iv m.cond.num,.string (bs m.cond.name),.slice da m.cond.kids.length dc,Iv m.action,.string (bs m.reason)] 62)):=zzb.alloc zzl _;have U0:Chg [rb] w2 (wm.alloc (.cells #[Iv m.cond.kind,Iv m.cond.num,.string (bs m.cond.name),.slice da m.cond.kids.length dc,Iv m.action,.string (bs m.reason)] 62)):=G1.o.trans (Chg.of_below I0 [rb]);have cu:=V0 (siz (utN m.cond)) zo m.cond _ (wm.alloc (.cells #[Iv m.cond.kind,Iv m.cond.num,.string (bs m.cond.name),.slice da m.cond.kids.length dc,Iv m.action,.string (bs m.reason)] 62)) zzl (hfc.cond.up I0);have M7:Hi (Qbf (wm.alloc (.cells #[Iv m.cond.kind,Iv m.cond.num,.string (bs m.cond.name),.slice da m.cond.kids.length dc,Iv m.action,.string (bs m.reason)] 62)) rb 147 (QaG none (QeZ r r.funcs.length++QgA r j)) (.slice fa r.funcs.length fc)):=(I0.block _ (Jb Y4.o)).trans Y4.o;obtain⟨eA,hwf⟩:=mB.o m hmem;have rA:=Zh eA;have qA:=Zh hwf;have HS:=Zh hsz;have HY:=Zh (JfH hm);have R5:=Zh U0;have HG:=Zh hg;have B3:=Zh hj;subst gB;go_wp2_with fail;generalize World.alloc wm _=w3 at*;refine cu.mono ?_;rintro e w6 ⟨yb,rfl,yA,xA,uA,L2⟩;have M2:Hi (Chg [rb] w2 w6):=R5.o.trans (Chg.of_below L2 [rb]);have zA:Qbf w6 rb 147 (QaG none (QeZ r r.funcs.length++QgA r j)) (.slice fa r.funcs.length fc):=(L2.block _ (Jb M7.o)).trans M7.o;have bA:=Jb M7.o;have cn:=JD r.sigs rb (.slice fa r.funcs.length fc) yb [] Nl (QaG none (QeZ r r.funcs.length++QgA r j)) 1 w6 ⟨xA,λhm=>by have:=(uA _ hm).1;omega,zA,vB.o _ M2.o,.inl ⟨rfl,none,0,rfl⟩,by rw[yA];exact rA.o,by rw[yA];exact qA.o⟩ (λW hp=>JaW _ rb _ G9.o (siz yb.nd) yb [] Nl _ W zzl (by have:=HS.o;have:([]:List Int).length=0:=rfl;rw[yA];omega) hp);rw[yA]at cn;have tA:QbS r.sigs [] 1 (utN m.cond)=tyC r m:=rfl;rw[tA]at cn;obtain⟨ya,yn,yc,jA⟩:=Jg yb;rw[jA]at cn |-;go_wp2_with fail;refine cn.mono ?_;rintro e w8 ⟨rfl,hA,cA⟩;have yB:Hi (Chg [rb] w2 w8):=M2.o.trans cA;have nA:Hi (Qbf w8 rb 147 (QaG none (QeZ r r.funcs.length++QgA r (j+1))) (.slice fa r.funcs.length fc)):=by rw[Hi,HY.o,<-List.append_assoc,Jt];exact hA
  go_wp2;go_roundg (r.clauses.length-(j+1))
  case measure=>have:=HG.o;have:=B3.o;omega
  case rel=>exact⟨j+1,by have:=B3.o;omega,by go_num,yB,nA⟩
 have hB:¬(j:Int)<(r.clauses.length:Int):=zo
 obtain rfl:j=r.clauses.length:=zo
 have S4:=Zh (B0.o _ G1.o);have hfl:=Y4.o;unfold Qbf at hfl;generalize QaG none (QeZ r r.funcs.length++QgA r r.clauses.length)=x at*;have b0:=Ja hfl 0;simp only[zW]at b0
 cases x with
 |none=>
  go_wp2;go_ret;exact⟨rfl,S4.o⟩
 |some z=>
  go_wp2;go_ret;exact⟨rfl,S4.o⟩
end Go.Proofs.YtncanmdgdflnpaaGreatDoor


