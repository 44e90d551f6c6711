/- A part of what the laws stand on: RhE, RhF, RhG, LimP, MsT, Laid, OpenI, OpenL. -/
import Derived.Test.YtbdgkkmbnahgiaaGreatDoorMfG0MsF
import Derived.Test.YtbdgkkmbnahgiaaGreatDoorMfG0MSubX
import Derived.Test.YtbdgkkmbnahgiaaGreatDoorCards
import Derived.Test.YtbdgkkmbnahgiaaGreatDoorTie
import Derived.ChangeVars
import Derived.LaidLaws
import Derived.LaidHandle
import Derived.SevenTiedAt
set_option maxRecDepth 10000
set_option maxHeartbeats 8000000
namespace Go.Proofs.YtbdgkkmbnahgiaaGreatDoor
open Go.RowKit Go.Proofs.Tryz
section
attribute [local go_sem ↓] bD bF bH bI bu
attribute [local go_sem] bc aD bh bg bK bJ bd aY be aO ax cI dC dB dt dj di dA dr dp dn bW co bO bZ bX cz cy cw cu ct cC cn bS bP bR
attribute [local go_sem ↓] xS
attribute [local go_sem] um
abbrev RsT:TypeId:=66
def rsC(v mp md:Int)(s:ByteArray)(k a:Nat)(e:Int):Array Value:=#[.int .i64 v,.int .i64 mp,.int .i64 md,.string s,.int .i64 k,.int .i64 a,.int .i64 e]
theorem TF(v most:Int)(t:ByteArray):smN v most t=if(hdR v t).2.2≠0 then(pk0,0,(hdR v t).2.2)else if most<(hdZ v t:Nat)then(pk0,0,4)else mqR v t:=by
 rw[nI]
 by_cases h1:(hdR v t).2.2≠0
 ·rw[if_pos h1,if_pos h1]
 rw[ae h1,ae h1];have h1:=il.1 h1
 by_cases h2:most<(hdZ v t:Nat)
 ·rw[if_pos h2,if_pos h2]
 rw[ae h2,ae h2]
 by_cases h3:t.size<hdZ v t
 ·rw[if_pos h3];unfold mqR;rw[ae (fun x=>x h1)];exact(if_pos h3).symm
 ·rw[ae h3];have e:=ED h1 (z:=hdZ v t) (iX _ _);have hz:(t.extract 0 (hdZ v t)).size=hdZ v t:=by rw[aj];omega
  have hx:(t.extract 0 (hdZ v t)).extract (hdR v t).2.1 ((hdR v t).2.1+(hdR v t).1.n)=t.extract (hdR v t).2.1 ((hdR v t).2.1+(hdR v t).1.n):=eX (by
   rw[db,db,ix,List.drop_take,List.take_take]
   congr 1
   unfold hdZ;omega)
  unfold mqR;rw[e,hz,hx];unfold hdZ;have n1:¬((hdR v t).2.2≠0):=fun x=>x h1;unfold hdZ at h3;rw[ae n1,ae (Nat.lt_irrefl _),ae n1,ae h3]
theorem Sd(mp md:Int)(w:World):Calls prog 94 #[.agg #[.int .i64 mp,.int .i64 md]] w fun e w'=>e= .returned (.bool (decide (16<=mp/\mp<=1048576/\0<=md/\md<=32)))/\Below w.heap.size w w':=by
 have HB:=aa ((aq w.heap.size w).alloc (ac _) (.cells #[.int .i64 mp,.int .i64 md] 54));have HK:=aa (Bk.fresh w 54 #[.int .i64 mp,.int .i64 md]);have c0:(w.alloc (.cells #[.int .i64 mp,.int .i64 md] 54)).cell? ⟨w.heap.size,0,none⟩=some (.int .i64 mp):=HK.o.cell 0;have c1:(w.alloc (.cells #[.int .i64 mp,.int .i64 md] 54)).cell? ⟨w.heap.size,1,none⟩=some (.int .i64 md):=HK.o.cell 1;have h3:mp<16\/(16<=mp/\1048576<mp)\/(16<=mp/\mp<=1048576/\md<0)\/(16<=mp/\mp<=1048576/\0<=md/\32<md)\/(16<=mp/\mp<=1048576/\0<=md/\md<=32):=by omega
 rcases h3 with h3| ⟨h3,h4⟩ | ⟨h3,h4,h5⟩ | ⟨h3,h4,h5,h6⟩ | ⟨h3,h4,h5,h6⟩
 ·have HX:Hid (decide (16<=mp/\mp<=1048576/\0<=md/\md<=32)=false):=aa (ah (by omega));rw[HX.o];go_enter func94,ntmps94;go_wp2;go_ret;exact⟨by first| rfl| (simp;omega),HB.o⟩
 ·have HX:Hid (decide (16<=mp/\mp<=1048576/\0<=md/\md<=32)=false):=aa (ah (by omega));rw[HX.o];go_enter func94,ntmps94;go_wp2;go_ret;exact⟨by first| rfl| (simp;omega),HB.o⟩
 ·have HX:Hid (decide (16<=mp/\mp<=1048576/\0<=md/\md<=32)=false):=aa (ah (by omega));rw[HX.o];go_enter func94,ntmps94;go_wp2;go_ret;exact⟨by first| rfl| (simp;omega),HB.o⟩
 ·have HX:Hid (decide (16<=mp/\mp<=1048576/\0<=md/\md<=32)=false):=aa (ah (by omega));rw[HX.o];go_enter func94,ntmps94;go_wp2;go_ret;exact⟨by first| rfl| (simp;omega),HB.o⟩
 ·have HX:Hid (decide (16<=mp/\mp<=1048576/\0<=md/\md<=32)=true):=aa (au (by omega));rw[HX.o];go_enter func94,ntmps94;go_wp2;go_ret;exact⟨by first| rfl| (simp;omega),HB.o⟩
def Sq(v mp md:Int)(w:World)(e:Ending)(w':World):Prop:=
 Below w.heap.size w w'/\if nF v mp md=true then ∃g,e= .returned (.tuple #[.pointer (some ⟨g,0,none⟩),.int .i64 0])/\w.heap.size<=g/\Bk w' g RsT (rsC v mp md ⟨#[]⟩ 0 0 0)else e= .returned (.tuple #[.pointer none,.int .i64 2])
theorem Su{v mp md:Int}{w w':World}(h:nF v mp md=false)(hb:Below w.heap.size w w'):Sq v mp md w (.returned (.tuple #[.pointer none,.int .i64 2])) w':=by
 refine⟨hb,?_⟩;rw[ae (by rw[h];decide)]
theorem TH{v mp md:Int}{w w':World}{g:Nat}(h:nF v mp md=true)(hb:Below w.heap.size w w')(hg:w.heap.size<=g)(hk:Bk w' g RsT (rsC v mp md ⟨#[]⟩ 0 0 0)):Sq v mp md w (.returned (.tuple #[.pointer (some ⟨g,0,none⟩),.int .i64 0])) w':=by
 refine⟨hb,?_⟩;rw[if_pos h];exact⟨g,rfl,hg,hk⟩
theorem Ri(v mp md:Int)(w:World):Calls prog 34 #[.int .i64 v,zW mp md] w (Sq v mp md w):=by
 have HE:Hid (nF v mp md=(ba v&&decide (16<=mp/\mp<=1048576/\0<=md/\md<=32))):=aa rfl;have HB:=aa ((aq w.heap.size w).alloc (ac _) (.cells #[.int .i64 mp,.int .i64 md] 54));have HK:=aa (Bk.fresh w 54 #[.int .i64 mp,.int .i64 md]);have c0:(w.alloc (.cells #[.int .i64 mp,.int .i64 md] 54)).cell? ⟨w.heap.size,0,none⟩=some (.int .i64 mp):=HK.o.cell 0;have c1:(w.alloc (.cells #[.int .i64 mp,.int .i64 md] 54)).cell? ⟨w.heap.size,1,none⟩=some (.int .i64 md):=HK.o.cell 1;unfold zW;go_enter func34,ntmps34
 go_wp2_with fail
 refine(pS v _).mono ?_;rintro e w1 ⟨rfl,rfl⟩;cases hv:ba v
 ·have HX:Hid (nF v mp md=false):=aa (by rw[HE.o,hv];rfl);clear hv;go_wp2;go_ret2;exact Su HX.o HB.o
 have HV:=aa hv;clear hv
 go_wp2_with fail
 refine(Sd mp md _).mono ?_;rintro e w2 ⟨rfl,hb⟩;have HB2:=aa (HB.o.trans (hb.mono HB.o.size));have HK2:=aa (HK.o.below hb HK.o.lt)
 clear hb c0 c1
 by_cases hl:16<=mp/\mp<=1048576/\0<=md/\md<=32
 rotate_left
 ·have HX:Hid (nF v mp md=false):=aa (by rw[HE.o,ah hl,ru]);rw[ah hl];clear hl;go_wp2;go_ret2;exact Su HX.o HB2.o
 have HX:Hid (nF v mp md=true):=aa (by rw[HE.o,au hl,HV.o];rfl);rw[au hl];have c0:w2.cell? ⟨w.heap.size,0,none⟩=some (.int .i64 mp):=HK2.o.cell 0;have c1:w2.cell? ⟨w.heap.size,1,none⟩=some (.int .i64 md):=HK2.o.cell 1;clear hl;go_wp2;go_ret2;exact TH HX.o (HB2.o.alloc HB2.o.size _) HB2.o.size (Bk.fresh w2 RsT (rsC v mp md ⟨#[]⟩ 0 0 0))
theorem Ti{r:Pk×Nat×Int}{p:Pk}{n:Nat}{x:Int}{h:Hs}{w w':World}(hr:r=(p,n,x))(hi:PkIn w' w'.heap.size p h)(hb:Below w.heap.size w w')(hf:ja w p h):tM r w (.returned (.tuple #[pkV p h,.int .i64 n,.int .i64 x])) w':=by
 subst hr;exact⟨h,rfl,hi,hb,hf⟩
theorem Ry(v mp md:Int)(s:ByteArray)(w:World)(hs:s.size<=1000000000000):Calls prog 97 #[.int .i64 v,.agg #[.int .i64 mp,.int .i64 md],.string s] w (tM (smN v mp s) w):=by
 have HE:Hid (smN v mp s=if(hdR v s).2.2≠0 then(pk0,0,(hdR v s).2.2)else if mp<((hdR v s).2.1+(hdR v s).1.n:Nat)then(pk0,0,4)else mqR v s):=aa (TF v mp s);have HS:=aa hs;have HB:=aa (((aq w.heap.size w).alloc (ac _) (.cells #[.int .i64 mp,.int .i64 md] 54)).alloc (by simp) (.cells (pkC pk0 hs0) PkT));have HL:=aa ((Bk.fresh w 54 #[.int .i64 mp,.int .i64 md]).alloc (.cells (pkC pk0 hs0) PkT));have HK:=Bk.fresh (w.alloc (.cells #[.int .i64 mp,.int .i64 md] 54)) PkT (pkC pk0 hs0);rw[show(w.alloc (.cells #[.int .i64 mp,.int .i64 md] 54)).heap.size=w.heap.size+1 by simp]at HK;have HK0:=aa HK;have HHD:=aa (fun W=>Q8 v s W hs);have HMQ:=aa (fun W=>Sf v s W hs);have HBK:Hid ((hdR v s).2.2=0->(hdR v s).1.n<=268435455/\(hdR v s).2.1<=s.size):=aa (fun h0=>by
  obtain⟨b1,b2,b3,b4,b5⟩:=kw (v:=v) (s:=s) (h:=(hdR v s).1) (a:=(hdR v s).2.1) (by rw[<-h0]);exact⟨b2,b5⟩)
 clear hs HK;obtain⟨⟨⟨k,f,n⟩,a,x⟩,hr⟩:∃r,hdR v s=r:=⟨_,rfl⟩;rw[hr]at HE HHD HBK;simp only[Cx]at HE HHD HBK;clear hr;go_enter func97,ntmps97
 go_wp2_with fail
 refine(HHD.o _).mono ?_;rintro e w1 ⟨rfl,hb⟩;have HB1:=aa (HB.o.trans (hb.mono HB.o.size));have HK1:=aa (HK0.o.below hb HK0.o.lt);have HL1:=aa (HL.o.below hb HL.o.lt)
 clear hb HHD HB HK0 HL;obtain⟨y,hy⟩:∃y,w1.alloc (.cells #[.int .i64 k,.int .i64 f,.int .i64 n] 112)=y:=⟨_,rfl⟩;have HB2:Hid (Below w.heap.size w y):=aa (by rw[<-hy];exact HB1.o.alloc HB1.o.size _);have HK2:Hid (Bk y (w.heap.size+1) PkT (pkC pk0 hs0)):=aa (by rw[<-hy];exact HK1.o.alloc _);have HL2:Hid (Bk y w.heap.size 54 #[.int .i64 mp,.int .i64 md]):=aa (by rw[<-hy];exact HL1.o.alloc _);obtain⟨gh,hgh⟩:∃gh,w1.heap.size=gh:=⟨_,rfl⟩;have HH:Hid (Bk y gh 112 #[.int .i64 k,.int .i64 f,.int .i64 n]):=aa (by rw[<-hy,<-hgh];exact Bk.fresh w1 _ _)
 go_upto_region 2 with fail
 clear hy hgh HB1 HK1 HL1;clear w1;have hst:=aW HK2.o pk0 hs0;have HBD:Hid (Below w.heap.size w (dE y (w.heap.size+1) pk0 hs0)):=aa (bT HB2.o HB2.o.size (by omega) pk0 hs0);have HKP:=aa (cO HK2.o pk0 hs0)
 by_cases hx:x=0
 rotate_left
 ·have HX:Hid (smN v mp s=(pk0,0,x)):=aa (by rw[HE.o,if_pos hx]);have e0:(x !=0)=true:=aA.2 hx;clear hx;go_wp2;refine av (eZ rfl _ rfl HKP.o) rfl ?_;exact gR HX.o HBD.o
 obtain⟨b2,b3⟩:=HBK.o hx;have HE1:Hid (smN v mp s=if mp<(a+n:Nat)then(pk0,0,4)else mqR v s):=aa (by rw[HE.o,ae (fun z=>z hx)]);subst hx;have hsz:=HS.o;have c2:y.cell? ⟨gh,2,none⟩=some (.int .i64 n):=HH.o.cell 2;have c0:y.cell? ⟨w.heap.size,0,none⟩=some (.int .i64 mp):=HL2.o.cell 0;have had:wrap64 ((a:Int)+(n:Int))=((a+n:Nat):Int):=by unfold wrap64;omega
 have had2:(a:Int)+(n:Int)<=9223372036854775807:=by omega
 clear HE HBK b2 b3 hsz
 by_cases hlt:mp<(a+n:Nat)
 ·have HX:Hid (smN v mp s=(pk0,0,4)):=aa (by rw[HE1.o,if_pos hlt]);have d1:mp<(a:Int)+(n:Int):=by omega
  clear hlt;go_wp2;refine av (eZ rfl _ rfl HKP.o) rfl ?_;exact gR HX.o HBD.o
 have HX:Hid (smN v mp s=mqR v s):=aa (by rw[HE1.o,ae hlt]);have d1:(a:Int)+(n:Int)<=mp:=by omega
 obtain⟨⟨P,q,E⟩,hR⟩:∃R,mqR v s=R:=⟨_,rfl⟩;rw[hR]at HX HMQ;have HX2:=aa HX.o;clear hR hlt hst HE1 HBD HKP
 go_wp2_with fail
 refine(HMQ.o _).mono ?_;rintro e w3 ⟨hh,rfl,hi,hb,hf⟩;have KR:=aa (HK2.o.below hb HK2.o.lt);have hst:=aW KR.o P hh;have IX:=aa hi;have BX:=aa (HB2.o.trans (hb.mono HB2.o.size));have FX:=aa hf
 have HYL:=aa HK2.o.lt;have HWY:=aa HB2.o.size;clear hi hb hf c0 c2;dsimp only at hst IX FX⊢;go_wp2;refine av (eZ rfl _ rfl (cO KR.o P hh)) rfl ?_;exact Ti HX2.o (IX.o.put KR.o (cJ _ _ _ _) FX.o HYL.o) (bT BX.o BX.o.size (by omega) _ _) (FX.o.mono HWY.o)
end
section
attribute [local go_sem ↓] bD bF bH bI bu
attribute [local go_sem] bc aD bh bg bK bJ bd aY be aO ax cI dC dB dt dj di dA dr dp dn bW co bO bZ bX cz cy cw cu ct cC cn bS bP bR
attribute [local go_sem ↓] xS
attribute [local go_sem] um
theorem Ss(v mp md:Int)(s:ByteArray)(k a:Nat)(e:Int):∀(i:Nat) (m:Int),(rsC v mp md s k a e)[i]? ≠some (Value.int IntKind.u32 m):=by
 intro i m;rcases i with _| _| _| _| _| _| _| i<;>simp[rsC]
theorem Ts(v mp md:Int)(s:ByteArray)(k a:Nat)(e:Int)(o:Nat)(x:ByteArray)(b:Int)(_c d:Bool)(h0:(rsC v mp md s k a e)[o]? =some (.string x))(_h1:(rsC v mp md s k a e)[o+1]? =some (.int .i64 b))(h3:(rsC v mp md s k a e)[o+3]? =some (.bool d)):False:=by
 rcases o with _| _| _| _| _| _| _| o<;>simp[rsC]at h0 h3
theorem PkIn.refs{x y:World}{g:Nat}{p:Pk}{h:Hs}{v mp md:Int}{s:ByteArray}{k a:Nat}{e:Int}(hi:PkIn x x.heap.size p h)(hbk:Bk x g RsT (rsC v mp md s k a e))(hm:x.grownBy y (some g))(hf:gG g (p,h)):PkIn y y.heap.size p h:=by
 refine⟨(hi.wp.other hbk (Ss _ _ _ _ _ _ _) hm (ac _)).wider hm.size,?_,(hi.filters.otherN hbk (Ts _ _ _ _ _ _ _) hm (ac _)).wider hm.size,(hi.props.other hbk (Ss _ _ _ _ _ _ _) hm (ac _)).wider hm.size,hi.caps⟩;refine(hi.codes.grown hm (ac _) ?_).wider hm.size;intro b o e hx;rcases hf with h| h
 ·dsimp only at h;rw[h]at hx;exact absurd rfl hx
 ·exact h b o e
theorem RowI.refs{wf w y:World}{A:Option Addr}{n c:Nat}{L:List (Pk×Hs)}(h:RowI wf w A n c L){g:Nat}{v mp md:Int}{s:ByteArray}{k a:Nat}{e:Int}(hb:Bk w g RsT (rsC v mp md s k a e))(hm:w.grownBy y (some g))(ha:∀x∈L,gG g x):RowI wf y A n c L:=by
 refine⟨h.row.other hm fun q hq e=>?_,fun x hx=>(h.ins x hx).refs hb hm (ha x hx),h.apart⟩;cases e;rcases h.row.lies with ⟨h1,-⟩ | ⟨g',M,h1,-,h3,-⟩
 ·rw[h1]at hq;cases hq
 ·rw[h1]at hq;cases hq;unfold Bk at hb h3;rw[h3]at hb;simp only[aX,fc]at hb;exact absurd hb.2.1 (by decide)
structure RO (w:World) (g:Nat) (v mp md:Int) (r:List Pk×ByteArray×Nat×Nat×Int) (w':World) (A:Option Addr) (m cm:Nat) (L:List (Pk×Hs)):Prop where
 row:RowI w w' A m cm L
 map:L.map Prod.fst=r.1
 bk:Bk w' g RsT (rsC v mp md r.2.1 r.2.2.2.1 r.2.2.1 r.2.2.2.2)
 mods:Mods (fun i=>i=g) w w'
 fresh:∀y∈L,∀i,i<w.heap.size->gG i y
def Sc(w:World)(g:Nat)(v mp md:Int)(r:List Pk×ByteArray×Nat×Nat×Int)(e:Ending)(w':World):Prop:=∃A m cm L,e= .returned (.tuple #[.slice A m cm,.int .i64 r.2.2.2.2])/\RO w g v mp md r w' A m cm L
structure RF (wf:World) (g:Nat) (v mp md:Int) (t:ByteArray) (a k:Nat) (A:Option Addr) (m cm:Nat) (L:List (Pk×Hs)) (x:World):Prop where
 bk:Bk x g RsT (rsC v mp md t k a 0)
 row:RowI wf x A m cm L
 fresh:∀y∈L,∀i,i<wf.heap.size->gG i y
 lt:g<wf.heap.size
 mods:Mods (fun i=>i=g) wf x
section
variable {wf x y:World} {g:Nat} {v mp md:Int} {t:ByteArray} {a k:Nat} {A:Option Addr} {m cm:Nat} {L:List (Pk×Hs)} {r:List Pk×ByteArray×Nat×Nat×Int}
theorem RF.below(s:RF wf g v mp md t a k A m cm L x)(hb:Below x.heap.size x y):RF wf g v mp md t a k A m cm L y:=
 ⟨s.bk.below hb s.bk.lt,s.row.below hb,s.fresh,s.lt,s.mods.trans (Mods.of_below hb)⟩
theorem Sw(s:RF wf g v mp md t a k A m cm L x)(hr:(L.map Prod.fst,t,a,k,0)=r):Sc wf g v mp md r (.returned (.tuple #[.slice A m cm,.int .i64 0])) x:=by
 subst hr;exact⟨A,m,cm,L,rfl,s.row,rfl,s.bk,s.mods,s.fresh⟩
theorem Th{E:Int}(s:RF wf g v mp md t a k A m cm L x)(hr:(L.map Prod.fst,⟨#[]⟩,a,k,E)=r):
  Sc wf g v mp md r (.returned (.tuple #[.slice A m cm,.int .i64 E])) ((x.setCell ⟨g,3,none⟩ (.string ⟨#[]⟩)).setCell ⟨g,6,none⟩ (.int .i64 E)):=by
 subst hr;have hm:=(cP x g 3 (.string ⟨#[]⟩)).trans (cP (x.setCell ⟨g,3,none⟩ (.string ⟨#[]⟩)) g 6 (.int .i64 E));exact⟨A,m,cm,L,rfl,s.row.refs s.bk hm (fun y hy=>s.fresh y hy g s.lt),rfl,(s.bk.put 3 (.string ⟨#[]⟩)).put 6 (.int .i64 E),s.mods.app hm (fun i e=>by cases e;exact .inl rfl),s.fresh⟩
end
def TB(y:World)(R:Pk×Nat×Int)(pz zv ev:Value)(wx:World):Prop:=∃hh g,pz= .pointer (some ⟨g,0,none⟩)/\zv= .int .i64 (R.2.1:Nat)/\ev= .int .i64 R.2.2/\y.heap.size<=g/\Bk wx g PkT (pkC R.1 hh)/\PkIn wx wx.heap.size R.1 hh/\Below y.heap.size y wx/\ja y R.1 hh
theorem Ru{y w3:World}{R:Pk×Nat×Int}{hh:Hs}(hi:PkIn w3 w3.heap.size R.1 hh)(hb:Below (y.alloc (.cells (pkC pk0 hs0) PkT)).drew.heap.size (y.alloc (.cells (pkC pk0 hs0) PkT)).drew w3)(hf:ja (y.alloc (.cells (pkC pk0 hs0) PkT)).drew R.1 hh):
  (zc (.pointer (some ⟨y.heap.size,0,none⟩)) (pkV R.1 hh)).run prog w3= .ok () (dE w3 y.heap.size R.1 hh)/\TB y R (.pointer (some ⟨y.heap.size,0,none⟩)) (.int .i64 (R.2.1:Nat)) (.int .i64 R.2.2) (dE w3 y.heap.size R.1 hh):=by
 have hk0:Bk (y.alloc (.cells (pkC pk0 hs0) PkT)).drew y.heap.size PkT (pkC pk0 hs0):=(Bk.fresh y PkT (pkC pk0 hs0)).drewN 1;have hk:=hk0.below hb hk0.lt;have hb0:Below y.heap.size y (y.alloc (.cells (pkC pk0 hs0) PkT)).drew:=aV ((aq y.heap.size y).alloc (ac _) (.cells (pkC pk0 hs0) PkT)) 1;exact⟨aW hk R.1 hh,hh,y.heap.size,rfl,rfl,rfl,ac _,cO hk R.1 hh,hi.put hk (cJ _ _ _ _) hf hk0.lt,bT (hb0.trans (hb.mono hb0.size)) (aC hb0.size hb.size) (ac _) R.1 hh,hf.mono hb0.size⟩
theorem Ta{y w3:World}{R:Pk×Nat×Int}{hh:Hs}(hi:PkIn w3 w3.heap.size R.1 hh)(hb:Below y.drew.heap.size y.drew w3)(hf:ja y.drew R.1 hh):
  TB y R (.pointer (some ⟨w3.heap.size,0,none⟩)) (.int .i64 (R.2.1:Nat)) (.int .i64 R.2.2) (w3.alloc (.cells (pkC R.1 hh) PkT)):=
 ⟨hh,w3.heap.size,rfl,rfl,rfl,hb.size,Bk.fresh _ _ _,hi.next ((aq _ _).alloc (ac _) _),((aV (aq y.heap.size y) 1).trans hb).alloc hb.size _,hf⟩
theorem SD(v mp md:Int)(g:Nat)(a k:Nat)(t s:ByteArray)(w:World)(hb:Bk w g RsT (rsC v mp md t k a 0))(hn:t.size+s.size<=1000000000)(hak:a<=10000000000/\k<=10000000000):
  Calls prog 36 #[.pointer (some ⟨g,0,none⟩),.string s] w (Sc w g v mp md (smG v mp (t++s) a k [])):=by
 have HB:=aa hb;have HN:=aa hn;have HAK:=aa hak
 have c6:w.cell? ⟨g,6,none⟩=some (.int .i64 0):=HB.o.cell 6;have c3:w.cell? ⟨g,3,none⟩=some (.string t):=HB.o.cell 3;have f3:=HB.o.free 3;have hts:t.size+s.size<=9223372036854775807:=by omega
 have hcat:¬(9223372036854775807<t.size+s.size):=by omega
 have HSZ:Hid ((t++s).size<=1000000000):=aa (by rw[cK];exact hn);obtain⟨RES,hRES⟩:∃R,smF v mp ((t++s).size+1) (t++s) a k []=R:=⟨_,rfl⟩;rw[show smG v mp (t++s) a k []=RES from hRES];have HRES:=aa hRES;clear hb hn hak hRES;have B1:=HB.o.put 3 (.string (t++s));have BK:=aa (show Bk (w.setCell ⟨g,3,none⟩ (.string (t++s))) g RsT (rsC v mp md (t++s) k a 0)from B1);have MO:Hid (Mods (fun i=>i=g) w (w.setCell ⟨g,3,none⟩ (.string (t++s)))):=aa ((Mods.refl w).app (cP w g 3 _) (fun i e=>by cases e;exact .inl rfl));have SF0:Hid (RF w g v mp md (t++s) a k none 0 0 [] (w.setCell ⟨g,3,none⟩ (.string (t++s)))):=aa ⟨BK.o,RowI.start w _,by simp,HB.o.lt,MO.o⟩;clear B1 BK MO;go_enter func36,ntmps36;go_wp2
 go_loopg [6] ((t++s).size+1) (fun f ov wr=>∃(A:Option Addr) (m cm:Nat) (L:List (Pk×Hs)) (t':ByteArray) (a' k':Nat),ov= .slice A m cm/\RF w g v mp md t' a' k' A m cm L wr/\t'.size<f/\smF v mp f t' a' k' (L.map Prod.fst)=RES/\t'.size<=1000000000/\a'+t'.size<=100000000000/\k'+t'.size<=100000000000/\m+t'.size<=10000000000)
 case atStart=>exact⟨none,0,0,[],t++s,a,k,rfl,SF0.o,ed _,HRES.o,HSZ.o,by have:=HSZ.o;have:=HAK.o;omega,by have:=HSZ.o;have:=HAK.o;omega,by have:=HSZ.o;omega⟩
 case round=>
  obtain⟨A,m,cm,L,t',a',k',rfl,hS,hlt,hF,hz1,hz2,hz3,hz4⟩:=hrel;obtain⟨f,rfl⟩:∃f',gk=f'+1:=⟨gk- 1,by omega⟩;rw[mU]at hF;have S0:=aa hS;have HLT:=aa hlt;have HF:=aa hF
  have HZS:=aa (And.intro hz1 (And.intro hz2 (And.intro hz3 hz4)));have HNX:=aa (fun W=>Ry v mp md t' W (by omega));have HST:=aa (jD (v:=v) (most:=mp) (t:=t'));obtain⟨R,hR⟩:∃R,smN v mp t'=R:=⟨_,rfl⟩;rw[hR]at HF HST HNX;have c0:wr.cell? ⟨g,0,none⟩=some (.int .i64 v):=hS.bk.cell 0;have c1:wr.cell? ⟨g,1,none⟩=some (.int .i64 mp):=hS.bk.cell 1;have c2:wr.cell? ⟨g,2,none⟩=some (.int .i64 md):=hS.bk.cell 2;have c3:wr.cell? ⟨g,3,none⟩=some (.string t'):=hS.bk.cell 3;have HHA:=aa (hS.bk.alloc (.cells (pkC pk0 hs0) PkT));have a0:(wr.alloc (.cells (pkC pk0 hs0) PkT)).cell? ⟨g,0,none⟩=some (.int .i64 v):=HHA.o.cell 0;have a1:(wr.alloc (.cells (pkC pk0 hs0) PkT)).cell? ⟨g,1,none⟩=some (.int .i64 mp):=HHA.o.cell 1;have a2:(wr.alloc (.cells (pkC pk0 hs0) PkT)).cell? ⟨g,2,none⟩=some (.int .i64 md):=HHA.o.cell 2;have a3:(wr.alloc (.cells (pkC pk0 hs0) PkT)).cell? ⟨g,3,none⟩=some (.string t'):=HHA.o.cell 3;clear hS hlt hF hz1 hz2 hz3 hz4 hR
  go_upto_region 5 with fail
  go_cut [7,8,9] (fun pz zv ev wx=>TB wr R pz zv ev wx)
  case first=>
   go_region_law ((go_simp;go_at_call 97;refine(HNX.o _).mono ?_;rintro e w3 ⟨hh,rfl,hi3,hb3,hf3⟩;(first| (have hst3:=by(with_reducible exact(Ru hi3 hb3 hf3).1)) | skip);(first| (have hr3:=by(with_reducible exact(Ru hi3 hb3 hf3).2)) | (have hr3:=by(with_reducible exact Ta hi3 hb3 hf3)))))
   all_goals
    go_wp2
    go_meet
    case rel=>with_reducible exact hr3
  obtain⟨hh,gp,rfl,rfl,rfl,hg,hkx,hix,hbx,hfx⟩:=hcut;obtain⟨wx,hwx⟩:∃x,x=wc:=⟨_,rfl⟩;subst hwx;have KX:=aa hkx;have S1:=aa (S0.o.below hbx);have P1:=aa hix;have F1:=aa hfx
  clear hg hkx hix hbx hfx c0 c1 c2 c3 a0 a1 a2 a3 HHA HNX;obtain⟨P,q,E⟩:=R;dsimp only at HF HST KX P1 F1⊢
  by_cases h3:E=3
  ·have HX:Hid ((L.map Prod.fst,t',a',k',0)=RES):=aa (by
    have:=HF.o;rwa[ae (by rw[h3];decide),if_pos h3]at this)
   subst h3;go_wp2;go_ret2;exact Sw S1.o HX.o
  by_cases h0:E=0
  rotate_left
  ·have e3:(E==3)=false:=ar.2 h3;have e0:(E !=0)=true:=aA.2 h0;have f3:=S1.o.bk.free 3;have f6:=S1.o.bk.free 6
   have x3:=S1.o.bk.cell 3;have x6:=S1.o.bk.cell 6
   have HX:Hid ((L.map Prod.fst,⟨#[]⟩,a',k',E)=RES):=aa (by
    have:=HF.o;rwa[ae h0,ae h3]at this)
   clear h3 h0;go_wp2;go_ret2;exact Th S1.o HX.o
  subst h0;have HF2:Hid (smF v mp f (t'.extract q t'.size) (a'+q) (k'+1) ((L++[(P,hh)]).map Prod.fst)=RES):=aa (by
   have:=HF.o;rw[if_pos rfl]at this;rw[Ii];exact this)
  obtain⟨q1,q2⟩:=HST.o rfl;have HQ:Hid (2<=q/\q<=t'.size):=aa ⟨q1,q2⟩;have hb3:=(aq wx.heap.size wx).alloc (ac _) (.cells (pkC P hh) PkT);have S3:=aa (S1.o.below hb3);have P3:=aa (P1.o.next hb3);have R3:=aa (Fs wx P hh (g:=wx.heap.size) rfl);have hld:(kZ (.pointer (some ⟨gp,0,none⟩))).run prog wx= .ok (pkV P hh) wx:=cf KX.o;have HNB:Hid (m+1<=100000000000):=aa (by have:=HZS.o;have:=HQ.o;omega);clear h3 HF HST q1 q2 hb3 S1 P1
  go_upto_region 12 with (at_builtin;refine oE rfl (.tmp 59) (.tmp 61) rfl (w0:=w) (A:=A) (n:=m) (c:=cm) (L:=L) rfl S3.o.row.row S3.o.mods.size _ [(P,hh)] 1 1 _ rfl rfl (by decide) R3.o HNB.o ?_;intro g4 c4 w4 hrow hgr hat hlt4)
  have B4:=aa (S3.o.row.row.bk hgr S3.o.bk (by decide));have I4:=aa (S3.o.row.more hrow hgr hat (fun x hx=>by rw[gA.1 hx];exact P3.o) (fun x hx g o e=>by rw[gA.1 hx];exact F1.o.apart (S0.o.row.row.block e).2));have A4:Hid (∀x∈L++[(P,hh)],∀i,i<w.heap.size->gG i x):=aa (fun x hx i hi=>(cj.1 hx).elim (fun h=>S0.o.fresh x h i hi) (fun h=>by rw[gA.1 h];exact F1.o.apart (ch hi S0.o.mods.size)));have L4:=aa (S3.o.mods.app hgr (fun q hq=>.inr (S3.o.row.row.own hq).1));have GL:=aa S0.o.lt;clear hrow hgr hat hlt4 S3 P3 R3 hld S0 F1 KX;have x3:w4.cell? ⟨g,3,none⟩=some (.string t'):=B4.o.cell 3;have x4:w4.cell? ⟨g,4,none⟩=some (.int .i64 k'):=B4.o.cell 4;have x5:w4.cell? ⟨g,5,none⟩=some (.int .i64 a'):=B4.o.cell 5;have f3:=B4.o.free 3;have f4:=B4.o.free 4;have f5:=B4.o.free 5
  have s1:wrap64 ((k':Int)+1)=((k'+1:Nat):Int):=by have:=HZS.o;unfold wrap64;omega
  have s2:IntKind.i64.wrap ((k':Int)+1)=((k'+1:Nat):Int):=by have:=HZS.o;rw[aQ];omega
  have s3:wrap64 ((a':Int)+(q:Int))=((a'+q:Nat):Int):=by have:=HZS.o;have:=HQ.o;unfold wrap64;omega
  have s4:IntKind.i64.wrap ((a':Int)+(q:Int))=((a'+q:Nat):Int):=by have:=HZS.o;have:=HQ.o;rw[aQ];omega
  have v1:(0:Int)<=(q:Int):=by omega
  have v2:(q:Int)<=(t'.size:Int):=by have:=HQ.o;omega
  have hm:=((cP w4 g 3 (.string (t'.extract q t'.size))).trans (cP (w4.setCell ⟨g,3,none⟩ (.string (t'.extract q t'.size))) g 4 (.int .i64 ((k'+1:Nat):Int)))).trans (cP ((w4.setCell ⟨g,3,none⟩ (.string (t'.extract q t'.size))).setCell ⟨g,4,none⟩ (.int .i64 ((k'+1:Nat):Int))) g 5 (.int .i64 ((a'+q:Nat):Int)));have B5:=((B4.o.put 3 (.string (t'.extract q t'.size))).put 4 (.int .i64 ((k'+1:Nat):Int))).put 5 (.int .i64 ((a'+q:Nat):Int));have S5:Hid (RF w g v mp md (t'.extract q t'.size) (a'+q) (k'+1) (some ⟨g4,0,none⟩) (m+1) c4 (L++[(P,hh)]) (((w4.setCell ⟨g,3,none⟩ (.string (t'.extract q t'.size))).setCell ⟨g,4,none⟩ (.int .i64 ((k':Int)+1))).setCell ⟨g,5,none⟩ (.int .i64 ((a':Int)+(q:Int)))).drew):=
   aa (RF.below ⟨B5,I4.o.refs B4.o hm (fun y hy=>A4.o y hy g GL.o),A4.o,GL.o,L4.o.app hm (fun i e=>by cases e;exact .inl rfl)⟩ (aV (aq _ _) 1))
  clear hm B5 B4 I4 A4 L4
  go_region
  all_goals
   go_wp2
   go_roundg f
   case measure=>have:=HQ.o;have:=HLT.o;omega
   case rel=>
    have h9:=HQ.o;have h7:=HZS.o;have h6:=HLT.o
    have hx:(t'.extract q t'.size).size=t'.size- q:=by rw[aj,Nat.min_self]
    exact⟨some ⟨g4,0,none⟩,m+1,c4,L++[(P,hh)],t'.extract q t'.size,a'+q,k'+1,rfl,S5.o,by omega,HF2.o,by omega,by omega,by omega,by omega⟩
end
section
attribute [local go_sem ↓] bD bF bH bI bu
attribute [local go_sem] bc aD bh bg bK bJ bd aY be aO ax cI dC dB dt dj di dA dr dp dn bW co bO bZ bX cz cy cw cu ct cC cn bS bP bR
attribute [local go_sem ↓] DJ DH
attribute [local go_sem] Br pR
theorem Tf(v:Int)(t:ByteArray):fC v t 0=if(hdR v t).2.2≠0 then 1 else(((hdR v t).2.1+(hdR v t).1.n:Nat):Int) - (t.size:Int):=kg v t
theorem Rz(v mp md:Int)(g:Nat)(t:ByteArray)(a k:Nat)(e:Int)(w:World)(hb:Bk w g RsT (rsC v mp md t k a e))(ht:t.size<=1000000000000):
  Calls prog 42 #[.pointer (some ⟨g,0,none⟩)] w fun e' w'=>e'= .returned (.int .i64 (fC v t e))/\Below w.heap.size w w':=by
 have HB:=aa hb;have HT:=aa ht
 have HB0:=aa (aq w.heap.size w);have c6:w.cell? ⟨g,6,none⟩=some (.int .i64 e):=hb.cell 6;have c0:w.cell? ⟨g,0,none⟩=some (.int .i64 v):=hb.cell 0;have c3:w.cell? ⟨g,3,none⟩=some (.string t):=hb.cell 3;have HHA:=aa (hb.alloc (.cells (hdC 0 0 0) 112));have a0:(w.alloc (.cells (hdC 0 0 0) 112)).cell? ⟨g,0,none⟩=some (.int .i64 v):=HHA.o.cell 0;have a3:(w.alloc (.cells (hdC 0 0 0) 112)).cell? ⟨g,3,none⟩=some (.string t):=HHA.o.cell 3;have HHD:=aa (fun W=>Q8 v t W ht);have HE:Hid (fC v t 0=if(hdR v t).2.2≠0 then 1 else(((hdR v t).2.1+(hdR v t).1.n:Nat):Int) - (t.size:Int)):=aa (Tf v t);have HBK:Hid ((hdR v t).2.2=0->(hdR v t).1.n<=268435455/\(hdR v t).2.1<=t.size):=aa (fun h0=>by
  obtain⟨b1,b2,b3,b4,b5⟩:=kw (v:=v) (s:=t) (h:=(hdR v t).1) (a:=(hdR v t).2.1) (by rw[<-h0]);exact⟨b2,b5⟩)
 clear hb ht HHA
 by_cases he:e=0
 rotate_left
 ·have HX:Hid (fC v t e=0):=aa (if_pos he);have e0:(e !=0)=true:=aA.2 he;clear he;go_enter func42,ntmps42;go_wp2;go_ret;exact⟨by rw[HX.o];rfl,HB0.o⟩
 subst he;obtain⟨⟨⟨hk,hf,hn⟩,ha,hx⟩,hr⟩:∃r,hdR v t=r:=⟨_,rfl⟩;rw[hr]at HE HHD HBK;simp only[Cx]at HHD;dsimp only at HE HBK;clear hr;go_enter func42,ntmps42
 go_upto_region 3 with fail
 go_cut [3,4,5] (fun pz az ez wx=>Gb w ⟨hk,hf,hn⟩ ha hx pz az ez wx)
 case first=>
  go_region_law ((go_simp;go_at_call 90;refine(HHD.o _).mono ?_;rintro e w3 ⟨rfl,hb3⟩;(first| (have hst3:=by(with_reducible exact(vW ⟨hk,hf,hn⟩ ha hx hb3).1)) | skip);(try dsimp only at hst3);(first| (have hr3:=by(with_reducible exact(vW ⟨hk,hf,hn⟩ ha hx hb3).2)) | (have hr3:=by(with_reducible exact yS ⟨hk,hf,hn⟩ ha hx hb3)))))
  all_goals
   go_wp2
   go_meet
   case rel=>with_reducible exact hr3
 obtain⟨gh,rfl,rfl,rfl,hkx,hbx⟩:=hcut;obtain⟨wx,hwx⟩:∃x,x=wc:=⟨_,rfl⟩;subst hwx;have HX2:=aa (HB.o.below hbx HB.o.lt);have BX:=aa hbx
 have x2:wx.cell? ⟨gh,2,none⟩=some (.int .i64 hn):=hkx.cell 2;have x3:wx.cell? ⟨g,3,none⟩=some (.string t):=HX2.o.cell 3;clear hkx hbx c0 c3 c6 a0 a3 HHD
 by_cases hz:hx=0
 rotate_left
 ·have HX:Hid (fC v t 0=1):=aa (by rw[HE.o,if_pos hz]);have e0:(hx !=0)=true:=aA.2 hz;clear hz;go_wp2;go_ret;exact⟨by rw[HX.o];rfl,BX.o⟩
 obtain⟨b1,b2⟩:=HBK.o hz;have HX:Hid (fC v t 0=((ha+hn:Nat):Int) - (t.size:Int)):=aa (by rw[HE.o,ae (fun y=>y hz)]);have HT2:=HT.o;have s1:wrap64 ((ha:Int)+(hn:Int))=((ha+hn:Nat):Int):=by unfold wrap64;omega
 have s2:IntKind.i64.wrap ((ha:Int)+(hn:Int))=((ha+hn:Nat):Int):=by rw[aQ];omega
 have s3:wrap64 (((ha+hn:Nat):Int) - (t.size:Int))=((ha+hn:Nat):Int) - (t.size:Int):=by unfold wrap64;omega
 have s4:IntKind.i64.wrap (((ha+hn:Nat):Int) - (t.size:Int))=((ha+hn:Nat):Int) - (t.size:Int):=by rw[aQ];omega
 have s5:IntKind.i64.wrap ((ha:Int)+(hn:Int) - (t.size:Int))=((ha+hn:Nat):Int) - (t.size:Int):=by rw[aQ];omega
 subst hz;clear HE HBK b1 b2 HT2;go_wp2
 go_quiet (fail)
 go_wp2;go_ret;exact⟨by rw[HX.o];rfl,aV BX.o _⟩
def txv(l:List ByteArray):List Value:=l.map Value.string
theorem Rd.atT{w:World}{B n:Nat}{A:Option Addr}{l:List ByteArray}(h:Rd w B 1 A n (txv l)){i:Nat}(hi:i<n):∃b o z,A=some ⟨b,o,none⟩/\b<B/\l[i]? =some z/\w.cell? ⟨b,o+i,none⟩=some (.string z):=by
 obtain⟨b,o,u,e,hb,hu,hc⟩:=h.at1 hi;have hl:i<l.length:=by have:=h.len;simp[txv]at this;omega
 refine⟨b,o,l[i],e,hb,List.getElem?_eq_getElem hl,?_⟩;have:u= .string l[i]:=by simpa [txv,hl]using hu.symm
 rw[<-this];exact hc
end
section
attribute [local go_sem ↓] bD bF bH bI bu
attribute [local go_sem] bc aD bh bg bK bJ bd aY be aO ax cI dC dB dt dj di dA dr dp dn bW co bO bZ bX cz cy cw cu ct cC cn bS bP bR
theorem SC(v mp md:Int)(g:Nat)(a k:Nat)(e:Int)(he:e≠0)(t s:ByteArray)(w:World)(hb:Bk w g RsT (rsC v mp md t k a e)):
  Calls prog 36 #[.pointer (some ⟨g,0,none⟩),.string s] w fun e' w'=>e'= .returned (.tuple #[.slice none 0 0,.int .i64 e])/\Below w.heap.size w w':=by
 have HB:=aa (aq w.heap.size w);have c6:w.cell? ⟨g,6,none⟩=some (.int .i64 e):=hb.cell 6;have e0:(e !=0)=true:=aA.2 he;clear hb he;go_enter func36,ntmps36;go_wp2
 go_quiet (fail)
 go_wp2;go_ret2;exact⟨rfl,aV HB.o _⟩
theorem Mods.grownBy{g:Nat}{x y:World}(h:Mods (fun i=>i=g) x y):x.grownBy y (some g):=⟨h.os,h.tape,h.output,h.size,fun i hi e=>h.block i hi (fun q=>e (by rw[q]))⟩
theorem Kp.refs{w0 w y:World}{K:Option Addr}{n c:Nat}{t:List UInt8}(h:Kp w0 w K n c t){g:Nat}{cs:Array Value}(hp:Bk w g RsT cs)(hm:Mods (fun i=>i=g) w y):Kp w0 y K n c t:=by
 refine⟨h.len,h.cap,?_⟩;rcases h.lies with h1| ⟨q,o,M,h1,h2,h3,h4⟩
 ·exact .inl h1
 ·exact .inr ⟨q,o,M,h1,h2,h3.mods hm (fun e=>h3.ne hp (by decide) e),h4⟩
def stR(v mp:Int)(t:ByteArray)(a k:Nat)(e:Int)(u:ByteArray):List Pk×ByteArray×Nat×Nat×Int:=if e=0 then smG v mp (t++u) a k []else([],t,a,k,e)
structure STw (w:World) (v mp md:Int) (ga gr:Nat) (t:ByteArray) (a k:Nat) (e:Int) (t':ByteArray) (a' k':Nat) (e':Int) (x:World):Prop where
 sa:∃K n c,Bk x ga SmT (smC v mp K n c a k e)/\Kp w x K n c (ls t)
 sr:Bk x gr RsT (rsC v mp md t' k' a' e')
 low:Below w.heap.size w x
 base:w.heap.size<=ga/\w.heap.size<=gr
section
variable {w:World} {v mp md:Int} {ga gr:Nat} {t:ByteArray} {a k:Nat} {e:Int} {t':ByteArray} {a' k':Nat} {e':Int} {x y:World}
theorem STw.below(s:STw w v mp md ga gr t a k e t' a' k' e' x)(hb:Below x.heap.size x y):STw w v mp md ga gr t a k e t' a' k' e' y:=by
 obtain⟨K,n,c,h1,h2⟩:=s.sa;exact⟨⟨K,n,c,h1.below hb h1.lt,h2.below hb⟩,s.sr.below hb s.sr.lt,s.low.trans (hb.mono s.low.size),s.base⟩
theorem TD(s:STw w v mp md ga gr t a k e t a k e x)(u:ByteArray)(h1:t.size+u.size<=1000000000)(h2:a<=10000000000/\k<=10000000000):
  Calls prog 35 #[.pointer (some ⟨ga,0,none⟩),.string u] x fun r y=>∃A m cm L,r= .returned (.tuple #[.slice A m cm,.int .i64 (stR v mp t a k e u).2.2.2.2])/\
   STw w v mp md ga gr (stR v mp t a k e u).2.1 (stR v mp t a k e u).2.2.1 (stR v mp t a k e u).2.2.2.1 (stR v mp t a k e u).2.2.2.2 t a k e y/\RowI w y A m cm L/\L.map Prod.fst=(stR v mp t a k e u).1/\∀z∈L,gG gr z:=by
 obtain⟨K,n,c,h3,h4⟩:=s.sa;have hn:n=t.size:=by rw[<-aN];exact h4.len.symm
 unfold stR
 by_cases he:e=0
 ·subst he;rw[if_pos rfl];refine(d9 v mp ga K n c a k t u w x h3 h4 s.low.size (by omega) h2).mono ?_;rintro r y ⟨A,m,cm,L,K2,n2,c2,rfl,F⟩;exact⟨A,m,cm,L,rfl,⟨⟨K2,n2,c2,F.bk,F.kp⟩,s.sr.fed (by decide) (s.sr.ne h3 (by decide)) h4 F.mods,ex s.low s.base.1 s.low.size h4 (ac _) F.mods,s.base⟩,F.row.wider s.low.size,F.map,fun z hz=>F.fresh z hz gr s.sr.lt⟩
 ·rw[ae he];refine(pO v mp ga K n c a k e he u x h3).mono ?_;rintro r y ⟨rfl,hb⟩;exact⟨none,0,0,[],rfl,s.below hb,RowI.start _ _,rfl,by simp⟩
theorem TE(s:STw w v mp md ga gr t' a' k' e' t a k e x)(u:ByteArray)(h1:t.size+u.size<=1000000000)(h2:a<=10000000000/\k<=10000000000){A:Option Addr}{m cm:Nat}{L:List (Pk×Hs)}(hr:RowI w x A m cm L)(ha:∀z∈L,gG gr z):
  Calls prog 36 #[.pointer (some ⟨gr,0,none⟩),.string u] x fun r y=>∃A2 m2 cm2 L2,r= .returned (.tuple #[.slice A2 m2 cm2,.int .i64 (stR v mp t a k e u).2.2.2.2])/\
   STw w v mp md ga gr t' a' k' e' (stR v mp t a k e u).2.1 (stR v mp t a k e u).2.2.1 (stR v mp t a k e u).2.2.2.1 (stR v mp t a k e u).2.2.2.2 y/\RowI w y A m cm L/\RowI w y A2 m2 cm2 L2/\L2.map Prod.fst=(stR v mp t a k e u).1:=by
 obtain⟨K,n,c,h3,h4⟩:=s.sa;unfold stR
 by_cases he:e=0
 ·subst he;rw[if_pos rfl];refine(SD v mp md gr a k t u x s.sr h1 h2).mono ?_;rintro r y ⟨A2,m2,cm2,L2,rfl,F⟩;exact⟨A2,m2,cm2,L2,rfl,⟨⟨K,n,c,h3.mods F.mods (fun q=>h3.ne s.sr (by decide) q),h4.refs s.sr F.mods⟩,F.bk,F.mods.below s.low s.low.size (fun i q=>by rw[q];exact s.base.2),s.base⟩,hr.refs s.sr F.mods.grownBy ha,F.row.wider s.low.size,F.map⟩
 ·rw[ae he];refine(SC v mp md gr a k e he t u x s.sr).mono ?_;rintro r y ⟨rfl,hb⟩;exact⟨none,0,0,[],rfl,s.below hb,hr.below hb,RowI.start _ _,rfl⟩
end
theorem To(v mp:Int)(t:ByteArray)(a k:Nat)(e:Int)(u:ByteArray):(stR v mp t a k e u).2.2.1+(stR v mp t a k e u).2.1.size<=a+t.size+u.size/\(stR v mp t a k e u).2.2.2.1<=k+t.size+u.size/\(stR v mp t a k e u).1.length<=t.size+u.size:=by
 unfold stR;split
 ·obtain⟨e1,e2,e3,e4,e5,e6⟩:=sG v mp _ (t++u) a k [] (ac _);rw[cK]at e4 e5;rw[eC]at e3;exact⟨by omega,by omega,by omega⟩
 ·exact⟨by show a+t.size<=_;omega,by show k<=_;omega,ag _⟩
theorem TP(v mp:Int)(t:ByteArray)(a k:Nat)(e:Int)(u:ByteArray)(h:t.size+u.size<=1000000000000):∀p∈(stR v mp t a k e u).1,PkOk p:=by
 unfold stR;split
 ·exact xX _ _ _ _ _ (ac _) (by rw[cK];exact h) (by simp)
 ·simp
theorem Rq(v mp md:Int)(Ac:Option Addr)(l:List ByteArray)(c:Nat)(w:World)(hr:Rd w w.heap.size 1 Ac l.length (txv l)):
  Calls prog 5 #[.int .i64 v,zW mp md,.slice Ac l.length c] w fun e w'=>e= .returned (.bool true)/\Below w.heap.size w w':=by
 have HR:=aa hr;have HB0:=aa ((aq w.heap.size w).alloc (ac _) (.cells #[.int .i64 mp,.int .i64 md] 54));have HK0:=aa (Bk.fresh w 54 #[.int .i64 mp,.int .i64 md]);clear hr;unfold zW;go_enter func5,ntmps5
 go_wp2_with fail
 refine(lA _).mono ?_;rintro e w1 ⟨rfl,hb⟩;have HB1:=aa (HB0.o.trans (hb.mono HB0.o.size));have HK1:=aa (HK0.o.below hb HK0.o.lt)
 clear hb HB0 HK0
 by_cases h1:40<l.length
 ·have d2:(40:Int)<(l.length:Int):=by omega
  clear h1;go_wp2;go_ret;exact⟨rfl,HB1.o⟩
 have d2:(l.length:Int)<=40:=by omega
 have HL:Hid (l.length<=40):=aa (by omega);clear h1;have c0:w1.cell? ⟨w.heap.size,0,none⟩=some (.int .i64 mp):=HK1.o.cell 0;have c1:w1.cell? ⟨w.heap.size,1,none⟩=some (.int .i64 md):=HK1.o.cell 1
 go_wp2_with fail
 refine(fm v mp md _).mono ?_;rintro e w2 ⟨hb,h⟩;have HB2:=aa (HB1.o.trans (hb.mono HB1.o.size));have HK2:=aa (HK1.o.below hb HK1.o.lt)
 clear c0 c1;have c0:w2.cell? ⟨w.heap.size,0,none⟩=some (.int .i64 mp):=HK2.o.cell 0;have c1:w2.cell? ⟨w.heap.size,1,none⟩=some (.int .i64 md):=HK2.o.cell 1
 by_cases hok:nF v mp md=true
 rotate_left
 ·rw[ae hok]at h;subst h;have HOK:=aa hok;clear hok hb HB1
  go_wp2_with fail
  refine(Ri v mp md _).mono ?_;rintro e w3 ⟨hb,h⟩;rw[ae HOK.o]at h;subst h;have HB3:=aa (HB2.o.trans (hb.mono HB2.o.size));clear hb c0 c1;go_wp2;go_ret;exact⟨rfl,HB3.o⟩
 rw[if_pos hok]at h;obtain⟨ga,rfl,hga,bka⟩:=h;have HGA:=aa (aC HB1.o.size hga);have BA2:=aa bka
 have HOK:=aa hok;clear hb hga bka hok HB1 HK1
 go_wp2_with fail
 refine(Ri v mp md _).mono ?_;rintro e w3 ⟨hb,h⟩;rw[if_pos HOK.o]at h;obtain⟨gr,rfl,hgr,bkr⟩:=h;have S3:Hid (STw w v mp md ga gr ⟨#[]⟩ 0 0 0 ⟨#[]⟩ 0 0 0 w3):=aa ⟨⟨none,0,0,BA2.o.below hb BA2.o.lt,Kp.none _ _⟩,bkr,HB2.o.trans (hb.mono HB2.o.size),HGA.o,aC HB2.o.size hgr⟩;clear hb hgr bkr c0 c1 HB2 HK2 BA2;go_wp2
 go_loopw [11] (fun zv wr=>∃(i:Nat) (t:ByteArray) (a k:Nat) (e:Int),i<=l.length/\zv= .int .i64 i/\STw w v mp md ga gr t a k e t a k e wr/\a+t.size<=600*i/\k<=30000*i) (fun zv _=>l.length- (intOf zv).toNat)
 case atStart=>exact⟨0,⟨#[]⟩,0,0,0,ag _,rfl,S3.o,ac _,ac _⟩
 case round=>
  obtain⟨i,t,a,k,e,hi,rfl,hS,hz1,hz2⟩:=hrel;have S0:=aa hS;have HZ:=aa (And.intro hz1 hz2)
  clear hS hz1 hz2
  by_cases hlt:i<l.length
  ·obtain⟨b,o,u,rfl,hb1,hu,hcu⟩:=(HR.o.below S0.o.low).atT hlt;have b1:(0:Int)<=(i:Int):=by omega
   have b2:(i:Int)<(l.length:Int):=by omega
   have hi1:wrap64 ((i:Int)+1)=((i+1:Nat):Int):=by have:=HL.o;unfold wrap64;omega
   have HILT:=aa hlt;have HUU:=aa hu
   clear hb1 hu
   by_cases h6:600<u.size
   ·have d3:(600:Int)<(u.size:Int):=by omega
    clear h6;go_wp2;go_ret;exact⟨rfl,S0.o.low⟩
   have d3:(u.size:Int)<=600:=by omega
   have HU:Hid (u.size<=600):=aa (by omega);clear h6;have HBD:Hid (t.size+u.size<=1000000000/\a<=10000000000/\k<=10000000000):=aa (by have:=HZ.o;have:=HL.o;have:=HU.o;have:=HILT.o;omega)
   go_wp2_with fail
   refine(TD S0.o u HBD.o.1 HBD.o.2).mono ?_;rintro r x1 ⟨A1,m1,cm1,L1,rfl,hS1,hr1,hm1,ha1⟩;have S1:=aa hS1;have R1:=aa hr1;have M1:=aa hm1;have AP1:=aa ha1
   have HRZ:=aa (To v mp t a k e u);have HRO:=aa (TP v mp t a k e u (by have:=HBD.o;omega))
   obtain⟨bq,oq,u',eA,-,hu',hcu'⟩:=(HR.o.below S1.o.low).atT HILT.o;simp only[aX,Addr.mk.injEq,Hj]at eA;obtain⟨rfl,rfl⟩:=eA;have hcu1:x1.cell? ⟨b,o+i,none⟩=some (.string u):=by
    rw[hcu'];have:=HUU.o.symm.trans hu';simp only[aX]at this;rw[this]
   clear hS1 hr1 hm1 ha1 hcu hcu' hu'
   go_wp2_with fail
   refine(TE S1.o u HBD.o.1 HBD.o.2 R1.o AP1.o).mono ?_;rintro r x2 ⟨A2,m2,cm2,L2,rfl,hS2,hr1,hr2,hm2⟩;have S2:=aa hS2;have Q1:=aa hr1;have Q2:=aa hr2
   have HSM:Hid (L1.map Prod.fst=L2.map Prod.fst):=aa (by rw[M1.o,hm2]);have OM1:Hid (∀x∈L1,gz x.1):=aa (fun x hx=>(HRO.o x.1 (by rw[<-M1.o];exact List.mem_map_of_mem hx)).len);have OM2:Hid (∀x∈L2,gz x.1):=aa (fun x hx=>(HRO.o x.1 (by rw[<-hm2];exact List.mem_map_of_mem hx)).len);have HMM:Hid (m1<=100000/\m2<=100000):=aa (by
    have h1:=congrArg List.length M1.o;have h2:=congrArg List.length hm2;rw[eD,Q1.o.row.len]at h1;rw[eD,Q2.o.row.len]at h2;have h3:=HRZ.o.2.2;have h4:=HZ.o;have h5:=HL.o;have h6:=HU.o;have h7:=HILT.o;omega)
   obtain⟨⟨l2,t2,a2,k2,e2⟩,hR⟩:∃r,stR v mp t a k e u=r:=⟨_,rfl⟩;rw[hR]at S2 HRZ⊢;dsimp only at S2 HRZ⊢;clear hS2 hr1 hr2 hm2 hR S1 R1 AP1 M1 hcu1 HRO;obtain⟨K,n,c',h3,h4⟩:=S2.o.sa;obtain rfl:n=t2.size:=by rw[<-aN];exact h4.len.symm
   have H3:=aa h3;have H4:=aa h4
   have HT2:Hid (t2.size<=1000000000000):=aa (by have:=HRZ.o;have:=HZ.o;have:=HL.o;have:=HILT.o;have:=HU.o;omega);have q0:=jw (W:=x2) (fun x hx=>uh A1 A2 m1 m2 cm1 cm2 L1 L2 x (Q1.o.below hx).read (Q2.o.below hx).read OM1.o OM2.o (by have:=HMM.o;omega) (by have:=HMM.o;omega));rw[au HSM.o]at q0;have low:∀ {f:FuncId} {args:Array Value} {z:Value} {x:World},Calls prog f args x (fun e w'=>e= .returned z/\x=w')->Calls prog f args x (fun e w'=>e= .returned z/\Below x.heap.size x w'):=fun h=>h.mono fun _ _ h=>⟨h.1,by rw[<-h.2];exact aq _ _⟩;have q1:=jw (W:=x2) (fun x hx=>low (lS v mp ga K t2.size c' a2 k2 e2 x (H3.o.below hx H3.o.lt)));have q2:=jw (W:=x2) (fun x hx=>low (mV v mp ga K t2.size c' a2 k2 e2 x (H3.o.below hx H3.o.lt)));have q3:=jw (W:=x2) (fun x hx=>low (gQ v mp ga K t2.size c' a2 k2 e2 x (H3.o.below hx H3.o.lt)));have q4:=jw (W:=x2) (fun x hx=>low (iQ v mp ga K t2.size c' a2 k2 e2 x (H3.o.below hx H3.o.lt)));have q5:=jw (W:=x2) (fun x hx=>iR v mp ga K t2.size c' a2 k2 e2 t2 w x (H3.o.below hx H3.o.lt) (H4.o.below hx) HT2.o);have q6:=jw (W:=x2) (fun x hx=>Rz v mp md gr t2 a2 k2 e2 x (S2.o.sr.below hx S2.o.sr.lt) HT2.o);have k3:=cell_regrown (show x2.cell? ⟨gr,3,none⟩=some (.string t2)from S2.o.sr.cell 3);have k4:=cell_regrown (show x2.cell? ⟨gr,4,none⟩=some (.int .i64 k2)from S2.o.sr.cell 4);have k5:=cell_regrown (show x2.cell? ⟨gr,5,none⟩=some (.int .i64 a2)from S2.o.sr.cell 5);have k6:=cell_regrown (show x2.cell? ⟨gr,6,none⟩=some (.int .i64 e2)from S2.o.sr.cell 6);have n1:(e2 !=e2)=false:=QX e2;have n2:((a2:Int) != (a2:Int))=false:=QX _;have n3:((t2.size:Int) != (t2.size:Int))=false:=QX _;have n4:((k2:Int) != (k2:Int))=false:=QX _;have n5:(fC v t2 e2 !=fC v t2 e2)=false:=QX _;have HBQ:=aa (fun d os=>below_regrown x2 d os);clear h3 h4 low
   go_wp2_with fail
   refine wp_region_quiet_below (by as_aux_lemma=>kernel_rfl) (Tk (by as_aux_lemma=>kernel_rfl)) ?_
   repeat (go_big_quiet_step (first| with_reducible exact q0 _ _| with_reducible exact q1 _ _| with_reducible exact q2 _ _| with_reducible exact q3 _ _| with_reducible exact q4 _ _| with_reducible exact q5 _ _| with_reducible exact q6 _ _))
   refine kE ?_;intro _ hw';obtain⟨⟨dq,osq⟩,hw''⟩:=hw';subst hw'';have KF:=aa (HBQ.o dq osq);clear q0 q1 q2 q3 q4 q5 q6 k3 k4 k5 k6 HBQ;generalize Sort.grow (redrawn _ dq) osq=wq at*;have S3':=aa (S2.o.below KF.o);clear S2 Q1 Q2 KF H3 H4;go_wp2
   go_roundw
   case rel=>exact⟨i+1,t2,a2,k2,e2,HILT.o,by first| rw[hi1] | rfl,S3'.o,by have:=HRZ.o;have:=HZ.o;have:=HU.o;omega,by have:=HRZ.o;have:=HZ.o;have:=HU.o;have:=HL.o;have:=HILT.o;omega⟩
   case measure=>
    have:=HILT.o;show l.length- ((i:Int)+1).toNat<l.length- (i:Int).toNat;omega
  ·obtain rfl:i=l.length:=by omega
   have b2:(l.length:Int)<=(l.length:Int):=Int.le_refl _;clear hlt;go_wp2;go_ret;exact⟨rfl,S0.o.low⟩
end
end Go.Proofs.YtbdgkkmbnahgiaaGreatDoor
namespace Go.Proofs.YtbdgkkmbnahgiaaGreatDoor
open Go.ChangeShapes Go.WideShapes Go.ChangeAt Go.RowKit
open Go.Proofs.Tryz
def vh(c:Array Value):Obj->Obj
 | .cells _ t frozen=>.cells c t frozen
 | o=>o
def firstCells:Array Value:=(Go.Pinned.utf8FirstZ.map fun(n:Nat)=>Value.int .u8 n).toArray
def wI:Array Value:=#[.int .u8 128,.int .u8 191,.int .u8 160,.int .u8 191,.int .u8 128,.int .u8 159,.int .u8 144,.int .u8 191,.int .u8 128,.int .u8 143,
 .int .u8 0,.int .u8 0,.int .u8 0,.int .u8 0,.int .u8 0,.int .u8 0,.int .u8 0,.int .u8 0,.int .u8 0,.int .u8 0,.int .u8 0,.int .u8 0,.int .u8 0,.int .u8 0,.int .u8 0,.int .u8 0,.int .u8 0,.int .u8 0,.int .u8 0,.int .u8 0,.int .u8 0,.int .u8 0]
noncomputable def l7(os:Os):World:=
 {World.holding prog os ⟨#[],#[],[]⟩with heap:=((World.holding prog os ⟨#[],#[],[]⟩).heap.modify 1 (vh firstCells)).modify 2 (vh wI)}
theorem qu(os:Os)(args:Array Value):laidMetH prog [("unicode/utf8.acceptRanges",Rows.laid_unicode_utf8_acceptRanges),("unicode/utf8.first",Rows.laid_unicode_utf8_first)] ((l7 os).forCall (fun _ _=>0) ⟨#[],args,[]⟩).memory:=
 laidMetH_of_parts (laidMet_of_run' 8 (by kernel_rfl) (by kernel_rfl)) (by kernel_rfl)
end Go.Proofs.YtbdgkkmbnahgiaaGreatDoor
namespace Go.Proofs.YtbdgkkmbnahgiaaGreatDoor.OI
open Go.Proofs.YtbdgkkmbnahgiaaGreatDoor
open Go.ChangeShapes Go.WideShapes Go.ChangeAt Go.RowKit Go.Deep
open Go.Proofs.Tryz
section
variable {H:Type} {enc:TypeId×Value->H} {P:Program} {w:World} {base:Nat} {spare:Nat->Bool} {held:Bool}
def fu(P:Program)(t:TypeId)(d:DataW H):Prop:=∀z∈d.weights P t,z<=reachBytes
theorem fJ{e:TypeId}:∀ {ds:List (DataW H)} {d:DataW H},d∈ds->∀z∈d.weights P e,z∈DataW.weightsAll P e ds
 | [],_,h,_,_=>by simp at h
 | x :: ds,d,h,z,hz=>by
   unfold DataW.weightsAll;rcases ie.1 h with rfl| h
   ·exact cj.2 (.inl hz)
   ·exact cj.2 (.inr (fJ h z hz))
theorem fu.elem{t e:TypeId}{l r:List (DataW H)}(ht:P.underlying t=some (.slice e))(h:fu P t (.slice l r)){d:DataW H}(hd:d∈l):fu P e d:=fun z hz=>h z (by
 simp only[DataW.weights,ht];exact kV _ (cj.2 (.inl (fJ hd z hz))))
theorem fu.len{t e:TypeId}{l r:List (DataW H)}(ht:P.underlying t=some (.slice e))(h:fu P t (.slice l r)):l.length*P.bytesOf e<=reachBytes:=by
 have:=h ((l.length+r.length)*P.bytesOf e) (by simp[DataW.weights,ht]);exact aC (iH _ (by omega)) this
theorem fu.str{t:TypeId}{s:List UInt8}(h:fu P t (.lit (.string s):DataW H)):s.length<=reachBytes:=h _ (by simp[DataW.weights])
theorem sized_at{ts:List TypeId}{ds:List (DataW H)}(h:(DataW.weightsEach P ts ds).all (· <=reachBytes)=true){j:Nat}{t:TypeId}{d:DataW H}(ht:ts[j]? =some t)(hd:ds[j]? =some d):fu P t d:=fun z hz=>by
 have:=dL.1 h _ (DataW.weights_mem_each ht hd z hz)
 simpa using this
theorem iA{X:Type}{k:Nat}{C:X->List Value}(hk:∀x,(C x).length=k):∀l:List X,(l.flatMap C).length=l.length*k
 | []=>by simp
 | x :: l=>by
   rw[cF,List.length_append,hk,iA hk l,bM,iK];omega
theorem kQ{X:Type}{k:Nat}{C:X->List Value}(hk:∀x,(C x).length=k):∀(l:List X) (i r:Nat) (h:i<l.length),r<k->(l.flatMap C)[i*k+r]? =(C l[i])[r]?
 | x :: l,0,r,_,hr=>by
   rw[jU,bV,cF,jd (by rw[hk];exact hr)];rfl
 | x :: l,i+1,r,h,hr=>by
   have ih:=kQ hk l i r (by simpa using h) hr;rw[cF,iM (by rw[hk,iK];omega),hk];rw[show(i+1)*k+r- k=i*k+r by rw[iK];omega];exact ih
theorem rX{X:Type}[Inhabited X]{k:Nat}(C:X->List Value)(hk:∀x,(C x).length=k)(hk0:0<k){t e:TypeId}(ht:P.underlying t=some (.slice e))(hc:P.cellsOf e=k)(good:X->Prop)
  (hel:∀(n:Nat) (cs:List Value) (D:DataW H) (Pl:List MemPlace),DataW.trod enc P w base spare held n e cs=some (D,Pl)->fu P e D->(∀x∈Pl,x.block<w.heap.size)->∃x,cs=C x/\good x)
  {fuel:Nat}{cs:List Value}{d:DataW H}{ps:List MemPlace}(h:DataW.trod enc P w base spare held fuel t cs=some (d,ps))(hs:fu P t d)(hlt:∀x∈ps,x.block<w.heap.size):
  ∃(A:Option Addr) (l:List X) (c:Nat),cs=[.slice A l.length c]/\Rd w w.heap.size k A l.length (l.flatMap C)/\(∀x∈l,good x)/\l.length*P.bytesOf e<=reachBytes/\l.length<=c/\c<=maxLen:=by
 rcases open_slice ht h with ⟨rfl,_⟩ | ⟨a,len,cap,m,n,D,Pl,rfl,_,hl,hm,hmm,hx,hi⟩
 ·exact⟨none,[],0,rfl,Rd.nil _ _ _ _,by simp,by simp,ac _,by unfold maxLen;omega⟩
 ·simp only[bG]at hx;obtain⟨rfl,rfl⟩:=hx;have hlm:len<=m:=by rw[hmm];split<;>omega
  have each:∀i,i<len->∃x,good x/\∀r u,(C x)[r]? =some u->w.cell? (a.add (i*k+r))=some u:=by
   intro i hilen;obtain⟨cs',h1,h2⟩:=hi i (by omega);obtain⟨x,rfl,hg⟩:=hel n cs' _ _ h2 (hs.elem ht (jX.2 ⟨i,gn.2 hilen,rfl⟩)) (fun y hy=>hlt y (cj.2 (.inr (ou.2 ⟨i,gn.2 (by omega),hy⟩))));refine⟨x,hg,fun r u hu=>?_⟩;rw[hc]at h1;obtain⟨_,h3,h4⟩:=World.cells?_some h1;have hr:r<k:=by
    rcases fj r k with h| h
    ·exact h
    ·rw[aG (by rw[hk];exact h)]at hu;cases hu
   have:=h4 r hr;rw[add_add]at this;rw[this,hu]
  obtain⟨f,hf⟩:=choose_lt each;have hlen:((List.range len).map f).length=len:=by simp
  refine⟨some a,(List.range len).map f,cap,by rw[hlen],?_,?_,?_,by omega,hm⟩
  ·by_cases h0:len=0
   ·subst h0;exact Rd.nil _ _ _ _
   ·rw[hlen];refine Rd.of_addr (by rw[iA hk,hlen]) ?_ ?_
    ·have hrow:(MemPlace.cell a.block a.off)∈MemPlace.row a (m*P.cellsOf e):=by
      refine MemPlace.mem_row.2 ⟨0,?_,by simp⟩;rw[hc];exact Nat.mul_pos (by omega) hk0
     exact hlt _ (cj.2 (.inl hrow))
    ·intro j u hu;have hj:j<len*k:=by
      rcases fj j (len*k)with h| h
      ·exact h
      ·rw[aG (by rw[iA hk,hlen];exact h)]at hu;cases hu
     have hi1:j/ k<len:=iJ (by rw[eV];exact hj);have hr1:j% k<k:=iI _ hk0;have e:j=j/ k*k+j% k:=by rw[eV];exact(Nat.div_add_mod j k).symm
     rw[e,kQ hk _ _ _ (by rw[hlen];exact hi1) hr1]at hu;rw[e];exact(hf _ hi1).2 _ _ (by simpa using hu)
  ·intro x hx;obtain⟨i,hi2,rfl⟩:=jX.1 hx;exact(hf i (gn.1 hi2)).1
  ·have:=hs.len ht
   simpa using this
end
section
variable {H:Type} {enc:TypeId×Value->H} {w:World} {base:Nat} {spare:Nat->Bool} {held:Bool}
theorem CH{X:Type}(c:X->Value)(l:List X):l.flatMap (fun z=>[c z])=l.map c:=by
 induction l with
 | nil=>rfl
 | cons z l ih=>simp only[cF,ih];rfl
theorem open_strsV{r:Reach}{b0:Nat}{v:Value}{d:DataW H}{ps:List MemPlace}(hval:Value.okWide prog w r b0 55 v)(hd:DataW.Trod enc prog w base spare held 55 v d ps)(hs:fu prog 55 d)(hlt:∀x∈ps,x.block<w.heap.size):
  ∃(A:Option Addr) (l:List ByteArray) (c:Nat),v= .slice A l.length c/\Rd w w.heap.size 1 A l.length (txv l)/\(∀z∈l,z.size<=140737488351232)/\l.length<=140737488351232/\l.length<=c/\c<=maxLen:=by
 obtain⟨a,len,cap,rfl⟩:=okWide_slice underlying55 hval;obtain⟨fuel,hf⟩:=hd;obtain⟨A,l,c,h1,h2,h3,h4,h5,h6⟩:=rX (X:=ByteArray) (k:=1) (fun z=>[Value.string z]) (fun _=>rfl) (by omega) underlying55 (by kernel_rfl) (fun z=>z.size<=140737488351232)
  (fun n cs D Pl h hs _=>by
    obtain⟨z,rfl,hx,hw⟩:=GH underlying9 h;simp only[bG]at hx;obtain⟨rfl,-⟩:=hx;exact⟨z,rfl,by simpa [reachBytes]using hs.str⟩) hf hs hlt
 rw[CH]at h2;simp[Value.cells]at h1;obtain⟨rfl,rfl,rfl⟩:=h1;refine⟨a,l,cap,rfl,h2,h3,?_,h5,h6⟩;have hb:prog.bytesOf 9=16:=by kernel_rfl
 rw[hb,reachBytes]at h4;omega
end
end Go.Proofs.YtbdgkkmbnahgiaaGreatDoor.OI
namespace Go.Proofs.YtbdgkkmbnahgiaaGreatDoor
open Go.ChangeShapes Go.WideShapes Go.ChangeAt Go.RowKit Go.Deep
open Go.Proofs.Tryz
set_option maxRecDepth 100000
section
variable {H:Type} {enc:TypeId×Value->H} {w:World} {base:Nat} {spare:Nat->Bool} {held:Bool}
theorem BU{n:Nat}{cs:List Value}{D:DataW H}{Pl:List MemPlace}(h:DataW.trod enc prog w base spare held n 54 cs=some (D,Pl)):∃a b:Int,cs=[.int .i64 a,.int .i64 b]:=by
 obtain⟨xs,n',rfl,hx,hlen,hxl,hf⟩:=Iy underlying54 h;simp only[bG]at hx;obtain⟨rfl,rfl⟩:=hx;have hc4:prog.cellsOf 54=2:=by kernel_rfl
 rw[hc4]at hlen
 match cs,hlen with
 | [c0,c1],_=>
   match xs,hxl with
   | [y0,y1],_=>
     have h0:=vz hf 0 (t:=3) (o:=0) (k:=1) (by kernel_rfl);have h1:=vz hf 1 (t:=3) (o:=1) (k:=1) (by kernel_rfl);obtain⟨z0,e0,rfl,_⟩:=GB underlying3 h0;obtain⟨z1,e1,rfl,_⟩:=GB underlying3 h1;simp only[cS,ji,GG,GZ,gY,Hj]at e0 e1;subst e0 e1;exact⟨z0,z1,rfl⟩
theorem te{r:Reach}{b0:Nat}{v:Value}{d:DataW H}{ps:List MemPlace}(hval:Value.okWide prog w r b0 54 v)(hd:DataW.Trod enc prog w base spare held 54 v d ps):
  ∃a b:Int,v= .agg #[.int .i64 a,.int .i64 b]:=by
 have hv:∃cs,v= .agg cs:=by
  simp only[Value.okWide,show prog.underlying 54=_ from underlying54]at hval;obtain⟨cs,h,_⟩:=hval;exact⟨cs,h⟩
 obtain⟨cs,rfl⟩:=hv;obtain⟨fuel,hf⟩:=hd;obtain⟨a,b,h1⟩:=BU hf;refine⟨a,b,?_⟩;have h1:cs.toList=(#[.int .i64 a,.int .i64 b]:Array Value).toList:=h1;rw[oz.1 h1]
end
end Go.Proofs.YtbdgkkmbnahgiaaGreatDoor
