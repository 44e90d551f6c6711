/- A part of what the laws stand on: MPubB, MRef. -/
import Derived.Test.YtbdgkkmbnahgiaaGreatDoorMxG0MTai
import Derived.Deep.DeepCutAuto
set_option maxRecDepth 10000
set_option maxHeartbeats 8000000
namespace Go.Proofs.YtbdgkkmbnahgiaaGreatDoor
open Go.RowKit Go.Proofs.Tryz
theorem E8(g a:Nat)(t:ByteArray)(e:Int)(w:World)(h:Cur w g t a e):
  Calls prog 226 #[.pointer (some ⟨g,0,none⟩)] w fun e' w'=>e'= .returned (.int .i64 a)/\w=w':=by
 obtain⟨⟨c0,c1,c2⟩,f0,f1,f2⟩:=h.cells;clear h;go_enter func226,ntmps226;go_wp2;go_ret;exact⟨rfl,rfl⟩
def dJ(s:ByteArray):ByteArray×Nat×Int:=
 if s.size<2 then(⟨#[]⟩,0,3)else if s.size<2+br s 0 0 2 then(⟨#[]⟩,0,3)else(s.extract 2 (2+br s 0 0 2),2+br s 0 0 2,0)
def bL(s:ByteArray):ByteArray×Nat×Int:=if(dJ s).2.2=0/\bN (dJ s).1=false then(⟨#[]⟩,0,6)else dJ s
theorem zp(s:ByteArray)(w:World)(hs:s.size<=4611686018427387904):
  Calls prog 166 #[.string s] w fun e w'=>e= .returned (.tuple #[.string (dJ s).1,.int .i64 (dJ s).2.1,.int .i64 (dJ s).2.2])/\Below w.heap.size w w':=by
 have HS:=aa hs;go_enter func166,ntmps166
 go_wp2_with fail
 refine(jL s _ hs).mono ?_;rintro e w1 ⟨rfl,hc,hb⟩;have HB1:=aa hb;have HC1:=aa hc;clear hb hc
 go_wp2_with fail
 refine(dR w.heap.size 0 s 0 2 _ HC1.o (by decide)).mono ?_;rintro e w2 ⟨rfl,hc,hm⟩;have HB2:=aa (dw HB1.o hm HB1.o.size (ac _));have HC2:=aa hc;clear hc hm
 have hlt:br s 0 0 2<65536:=by
  unfold br;have h1:=ka (ls (aH s 0 0 2).1);have h2:(ls (aH s 0 0 2).1).length<=2:=by rw[aN];exact kI (by omega) 0 2 2 (by decide)
  have h3:256^ (ls (aH s 0 0 2).1).length<=256^ 2:=df (by omega) h2;omega
 have HE:Hid (dJ s=if s.size<2 then(⟨#[]⟩,0,3)else if s.size<2+br s 0 0 2 then(⟨#[]⟩,0,3)else(s.extract 2 (2+br s 0 0 2),2+br s 0 0 2,0)):=aa rfl;have HT2:Hid (¬s.size<2->aH s 0 0 2=(s.extract 0 2,2,0)):=aa fun h=>dZ (k:=2) (by omega);have HT3:Hid (s.size<2->aH s 0 0 2=(⟨#[]⟩,0,3)):=aa fun h=>kH (k:=2) (by omega);generalize br s 0 0 2=m at*;have hw:IntKind.i64.wrap (m:Int)=(m:Int):=by rw[aQ];omega
 by_cases h2:s.size<2
 ·have HX:Hid (dJ s=(⟨#[]⟩,0,3)):=aa (by rw[HE.o,if_pos h2]);have hc3:=HC2.o;rw[HT3.o h2]at hc3;have HC3:=aa hc3;clear hc3 h2
  go_wp2_with fail
  refine(eo w.heap.size 0 s 3 m _ HC3.o).mono ?_;rintro e w3 ⟨rfl,hc,hm⟩;rw[fY (by decide)]at hc⊢;have HB3:=aa (dw HB2.o hm HB2.o.size (ac _));have HC4:=aa hc;clear hc hm
  go_wp2_with fail
  refine(dG w.heap.size 0 s 3 _ HC4.o).mono ?_;rintro e w4 ⟨rfl,rfl⟩;go_wp2;go_ret3;exact⟨by rw[HX.o];rfl,HB3.o⟩
 have hc3:=HC2.o;rw[HT2.o h2]at hc3;have HC3:=aa hc3;clear hc3
 by_cases h3:s.size<2+m
 ·have HX:Hid (dJ s=(⟨#[]⟩,0,3)):=aa (by rw[HE.o,ae h2,if_pos h3]);have HT:Hid (aH s 2 0 m=(⟨#[]⟩,2,3)):=aa (kH (by omega));clear h2 h3
  go_wp2_with fail
  refine(eo w.heap.size 2 s 0 m _ HC3.o).mono ?_;rintro e w3 ⟨rfl,hc,hm⟩;rw[HT.o]at hc⊢;have HB3:=aa (dw HB2.o hm HB2.o.size (ac _));have HC4:=aa hc;clear hc hm
  go_wp2_with fail
  refine(dG w.heap.size 2 s 3 _ HC4.o).mono ?_;rintro e w4 ⟨rfl,rfl⟩;go_wp2;go_ret3;exact⟨by rw[HX.o];rfl,HB3.o⟩
 ·have HX:Hid (dJ s=(s.extract 2 (2+m),2+m,0)):=aa (by rw[HE.o,ae h2,ae h3]);have HT:Hid (aH s 2 0 m=(s.extract 2 (2+m),2+m,0)):=aa (dZ (by omega));clear h2 h3
  go_wp2_with fail
  refine(eo w.heap.size 2 s 0 m _ HC3.o).mono ?_;rintro e w3 ⟨rfl,hc,hm⟩;rw[HT.o]at hc⊢;have HB3:=aa (dw HB2.o hm HB2.o.size (ac _));have HC4:=aa hc;clear hc hm
  go_wp2_with fail
  refine(dG w.heap.size (2+m) s 0 _ HC4.o).mono ?_;rintro e w4 ⟨rfl,rfl⟩
  go_wp2_with fail
  refine(E8 w.heap.size (2+m) s 0 _ HC4.o).mono ?_;rintro e w4 ⟨rfl,rfl⟩;go_wp2;go_ret3;exact⟨by rw[HX.o];rfl,HB3.o⟩
theorem rO(s:ByteArray)(w:World)(hs:s.size<=4611686018427387904):
  Calls prog 115 #[.string s] w fun e w'=>e= .returned (.tuple #[.string (bL s).1,.int .i64 (bL s).2.1,.int .i64 (bL s).2.2])/\Below w.heap.size w w':=by
 have HE:Hid (bL s=if(dJ s).2.2=0/\bN (dJ s).1=false then(⟨#[]⟩,0,6)else dJ s):=aa rfl;have hz:(dJ s).1.size<=4611686018427387904:=by
  unfold dJ;split
  ·exact ag _
  ·split
   ·exact ag _
   ·show(s.extract _ _).size<=_;rw[aj];omega
 go_enter func115,ntmps115
 go_wp2_with fail
 refine(zp s _ hs).mono ?_;rintro e w1 ⟨rfl,hb⟩;have HB:=aa hb;clear hb hs
 generalize dJ s=R at*;obtain⟨x,n,e⟩:=R;simp only at HE hz⊢
 by_cases h0:e=0
 ·subst h0
  go_wp2_with fail
  refine(fk x _ hz).mono ?_;rintro e w2 ⟨rfl,hb⟩;have HB2:=aa (HB.o.trans (hb.mono HB.o.size));clear hb
  cases hv:bN x
  ·have HX:Hid (bL s=(⟨#[]⟩,0,6)):=aa (by rw[HE.o];simp[hv]);clear hv;go_wp2;go_ret3;exact⟨by rw[HX.o];rfl,HB2.o⟩
  ·have HX:Hid (bL s=(x,n,0)):=aa (by rw[HE.o];simp[hv]);clear hv;go_wp2;go_ret3;exact⟨by rw[HX.o];rfl,HB2.o⟩
 ·have e0:(e==0)=false:=ar.2 h0;have HX:Hid (bL s=(x,n,e)):=aa (by rw[HE.o];simp[h0]);clear h0;go_wp2;go_ret3;exact⟨by rw[HX.o];rfl,HB.o⟩
section
attribute [local go_sem ↓] bD bF bH bI bu
attribute [local go_sem] bc aD bh bg bK bJ bd aY be aO ax cI dC dB dt dj di dA dr dp dn bW co bO bZ bX cz cy cw cu ct cC cn bS bP bR
def eU(f:Int)(t:ByteArray)(i:Int)(l:List Pr)(y:ByteArray):Pk:={pk0 with kind:=3,dup:=decide (8<=f),retain:=decide (f% 2=1),qos:=f/ 2% 4,id:=i,topic:=t,payload:=y,props:=l}
def hsP(A:Option Addr)(n:Nat):Hs:={hs0 with props:=⟨A,n⟩}
theorem zl(f:Int)(t:ByteArray)(w:World):(qP #[(0,.int .i64 3),(1,.bool (decide (8<=f))),(3,.int .i64 (f/ 2% 4)),(2,.bool (decide (f% 2=1))),(5,.string t)]).run prog w= .ok (pkV (eU f t 0 [] ⟨#[]⟩) (hsP none 0)) w:=by kernel_rfl
theorem zr(f:Int)(t:ByteArray)(i:Int)(l:List Pr)(y:ByteArray):(eU f t i l y).qos=f/ 2% 4:=rfl
def iu(f:Int)(s:ByteArray):Nat:=if f/ 2% 4≠0 then(bL s).2.1+2 else(bL s).2.1
def mm(f:Int)(s:ByteArray):Int:=if f/ 2% 4≠0 then((es (ls (s.extract (bL s).2.1 ((bL s).2.1+2))):Nat):Int)else(0:Int)
def fG(v:Int)(f:Int)(s:ByteArray):List Pr×Nat×Int:=if v=5 then aZ 3 (s.extract (iu f s) s.size)else([],0,0)
def gI(v f:Int)(s:ByteArray):Pk:=eU f (bL s).1 (mm f s) (fG v f s).1 (s.extract (iu f s+(fG v f s).2.1) s.size)
def km(v f:Int)(s:ByteArray):Pk×Int:=
 if ba v=false then(pk0,2)else if eJ v f≠0 then(pk0,7)else if(bL s).2.2≠0 then(pk0,(bL s).2.2)
 else if f/ 2% 4≠0/\s.size<(bL s).2.1+2 then(pk0,3)else if(fG v f s).2.2≠0 then(pk0,(fG v f s).2.2)
 else if ii v (gI v f s)≠0 then(pk0,ii v (gI v f s))else(gI v f s,0)
theorem ut:∀f:Fin 16,(bits BinOp.and IntKind.i64 (f.1:Int) 8 !=0)=decide (8<=(f.1:Int))/\bits BinOp.and IntKind.i64 ((f.1:Int) / 2) 3=(f.1:Int) / 2% 4/\(bits BinOp.and IntKind.i64 (f.1:Int) 1 !=0)=decide ((f.1:Int) % 2=1):=by decide+kernel
structure PR (w:World) (g:Nat) (f:Int) (t:ByteArray) (i:Int) (l:List Pr) (y:ByteArray) (A:Option Addr) (n:Nat) (x:World):Prop where
 kept:Below w.heap.size w x
 res:Bk x w.heap.size PkT (pkC pk0 hs0)
 zero:Bk x (w.heap.size+1) PkT (pkC pk0 hs0)
 pk:Bk x g PkT (pkC (eU f t i l y) (hsP A n))
 rd:Rd x x.heap.size 4 A l.length (prs l)
 cap:l.length<=n
 base:w.heap.size+1<g
section
variable {w x y:World} {g:Nat} {f i:Int} {t u:ByteArray} {l:List Pr} {A:Option Addr} {n:Nat}
theorem PR.below(h:PR w g f t i l u A n x)(hb:Below x.heap.size x y):PR w g f t i l u A n y:=
 ⟨h.kept.trans (hb.mono h.kept.size),h.res.below hb h.res.lt,h.zero.below hb h.zero.lt,h.pk.below hb h.pk.lt,(h.rd.below hb).wider hb.size,h.cap,h.base⟩
theorem PR.set(h:PR w g f t i l u A n x)(k:Nat)(v:Value){i':Int}{u':ByteArray}(he:(pkC (eU f t i l u) (hsP A n)).setIfInBounds k v=pkC (eU f t i' l u') (hsP A n)):PR w g f t i' l u' A n (x.setCell ⟨g,k,none⟩ v):=
 ⟨dw h.kept (cP x g k v) h.kept.size (by have:=h.base;omega),h.res.other (by have:=h.base;simp;omega) _,h.zero.other (by have:=h.base;simp;omega) _,h.pk.upd k v he,(h.rd.other h.pk (dY _ _) (cP x g k v) (ac _)).wider (cP x g k v).size,h.cap,h.base⟩
theorem PR.put(h:PR w g f t i l u A n x){l':List Pr}{A':Option Addr}{n':Nat}(hr:Rd x x.heap.size 4 A' l'.length (prs l'))(hn:l'.length<=n'):PR w g f t i l' u A' n' (x.setCell ⟨g,24,none⟩ (.slice A' l'.length n')):=
 ⟨dw h.kept (cP x g 24 _) h.kept.size (by have:=h.base;omega),h.res.other (by have:=h.base;simp;omega) _,h.zero.other (by have:=h.base;simp;omega) _,h.pk.upd 24 _ rfl,(hr.other h.pk (dY _ _) (cP x g 24 _) (ac _)).wider (cP x g 24 _).size,hn,h.base⟩
theorem PR.into(h:PR w g f t i l u A n x):PkIn x x.heap.size (eU f t i l u) (hsP A n):=⟨Rd.nil _ _ _ _,Rd.nil _ _ _ _,Rd.nil _ _ _ _,h.rd,ag _,ag _,ag _,h.cap⟩
theorem PR.none(h:PR w g f t i l u A n x):Below w.heap.size w (dE x w.heap.size pk0 hs0)/\Bk (dE x w.heap.size pk0 hs0) w.heap.size PkT (pkC pk0 hs0):=⟨bT h.kept h.kept.size (ac _) _ _,cO h.res _ _⟩
theorem PR.some(h:PR w g f t i l u A n x):Below w.heap.size w (dE x w.heap.size (eU f t i l u) (hsP A n))/\Bk (dE x w.heap.size (eU f t i l u) (hsP A n)) w.heap.size PkT (pkC (eU f t i l u) (hsP A n))/\
  PkIn (dE x w.heap.size (eU f t i l u) (hsP A n)) (dE x w.heap.size (eU f t i l u) (hsP A n)).heap.size (eU f t i l u) (hsP A n):=
 ⟨bT h.kept h.kept.size (ac _) _ _,cO h.res _ _,Rd.nil _ _ _ _,Rd.nil _ _ _ _,Rd.nil _ _ _ _,(h.rd.other h.res (dY _ _) (cJ _ _ _ _) (ac _)).wider (cJ _ _ _ _).size,ag _,ag _,ag _,h.cap⟩
end
attribute [local go_sem] zl zr
theorem uO(v f:Int)(s:ByteArray)(w:World)(hs:s.size<=140737488351232):
  Calls prog 200 #[.int .i64 v,.int .i64 f,.string s] w (mu (km v f s) w):=by
 have HS:=aa hs;have HB0:=aa (((aq w.heap.size w).alloc (ac _) (.cells (pkC pk0 hs0) PkT)).alloc ((aq w.heap.size w).alloc (ac _) (.cells (pkC pk0 hs0) PkT)).size (.cells (pkC pk0 hs0) PkT));have HR0:=aa ((Bk.fresh w PkT (pkC pk0 hs0)).alloc (.cells (pkC pk0 hs0) PkT));have HZ0:=aa (Bk.fresh (w.alloc (.cells (pkC pk0 hs0) PkT)) PkT (pkC pk0 hs0));rw[ey]at HZ0;have HE:Hid (km v f s=if ba v=false then(pk0,2)else if eJ v f≠0 then(pk0,7)else if(bL s).2.2≠0 then(pk0,(bL s).2.2)
  else if f/ 2% 4≠0/\s.size<(bL s).2.1+2 then(pk0,3)else if(fG v f s).2.2≠0 then(pk0,(fG v f s).2.2)
  else if ii v (gI v f s)≠0 then(pk0,ii v (gI v f s))else(gI v f s,0)):=aa rfl
 have hld:=cf HZ0.o;have hst:=aW HR0.o;go_enter func200,ntmps200
 go_wp2_with fail
 refine(mZ v _).mono ?_;rintro e w1 ⟨rfl,rfl⟩;cases hk:ba v
 ·have HX:Hid (km v f s=(pk0,2)):=aa (by rw[HE.o,if_pos hk]);clear hk;go_wp2;refine av (aI rfl _ rfl (cO HR0.o _ _)) rfl ?_;exact cL HX.o (bT HB0.o HB0.o.size (ac _) _ _)
 have HK:=aa hk;have HE1:=HE.o;rw[ae (fun x=>by rw[hk]at x;cases x)]at HE1
 replace HE1:=aa HE1
 clear hk HE
 go_wp2_with fail
 refine(tm v f _).mono ?_;rintro e w1 ⟨rfl,hb⟩;have HB1:=aa (HB0.o.trans (hb.mono HB0.o.size));have HR1:=aa (HR0.o.below hb HR0.o.lt);have HZ1:=aa (HZ0.o.below hb HZ0.o.lt)
 clear hb hld hst;have hld:=cf HZ1.o;have hst:=aW HR1.o
 by_cases hc:eJ v f=0
 rotate_left
 ·have HX:Hid (km v f s=(pk0,7)):=aa (by rw[HE1.o,if_pos hc]);have e0:(eJ v f !=0)=true:=aA.2 hc;clear hc;go_wp2;refine av (aI rfl _ rfl (cO HR1.o _ _)) rfl ?_;exact cL HX.o (bT HB1.o HB1.o.size (ac _) _ _)
 have HF:Hid (0<=f/\f<16):=aa (by
  have h2:gd f=true:=by
   unfold eJ at hc;rw[ae (fun x=>by rw[HK.o]at x;cases x)]at hc;cases hh:gd f
   ·rw[hh,if_pos rfl]at hc;exact absurd hc (by decide)
   ·rfl
  have:=aR h2;omega)
 have HE2:=HE1.o;rw[hc,ae (fun x=>x rfl)]at HE2
 replace HE2:=aa HE2
 have e0:(eJ v f !=0)=false:=by rw[hc];rfl
 clear hc HE1
 go_wp2_with fail
 refine(rO s _ (by have:=HS.o;omega)).mono ?_;rintro e w2 ⟨rfl,hb⟩;have HB2:=aa (HB1.o.trans (hb.mono HB1.o.size));have HR2:=aa (HR1.o.below hb HR1.o.lt);have HZ2:=aa (HZ1.o.below hb HZ1.o.lt)
 clear hb hld hst e0;have hld:=cf HZ2.o;have hst:=aW HR2.o;have HFull:Hid (gI v f s=eU f (bL s).1 (mm f s) (fG v f s).1 (s.extract (iu f s+(fG v f s).2.1) s.size)):=aa rfl;have HId:Hid (mm f s=if f/ 2% 4≠0 then((es (ls (s.extract (bL s).2.1 ((bL s).2.1+2))):Nat):Int)else(0:Int)):=aa rfl;have HAt:Hid (iu f s=if f/ 2% 4≠0 then(bL s).2.1+2 else(bL s).2.1):=aa rfl;have HPr:Hid (fG v f s=if v=5 then aZ 3 (s.extract (iu f s) s.size)else([],0,0)):=aa rfl;have HUok:Hid ((bL s).2.1<=s.size/\(bL s).1.size<=s.size):=aa (by
  unfold bL dJ;split
  ·exact⟨ag _,ag _⟩
  ·split
   ·exact⟨ag _,ag _⟩
   ·split
    ·exact⟨ag _,ag _⟩
    ·refine⟨by show 2+br s 0 0 2<=s.size;omega,?_⟩;show(s.extract _ _).size<=_;rw[aj];omega)
 generalize bL s=R at*;obtain⟨t,m,x⟩:=R;simp only at HE2 HFull HId HAt HUok⊢
 by_cases hx:x=0
 rotate_left
 ·have HX:Hid (km v f s=(pk0,x)):=aa (by rw[HE2.o,if_pos hx]);have e0:(x !=0)=true:=aA.2 hx;clear hx;go_wp2;refine av (aI rfl _ rfl (cO HR2.o _ _)) rfl ?_;exact cL HX.o (bT HB2.o HB2.o.size (ac _) _ _)
 subst hx;have HE3:=HE2.o;rw[ae (fun x=>x rfl)]at HE3
 replace HE3:=aa HE3
 clear HE2;have hfl:=ut ⟨f.toNat,by have:=HF.o;omega⟩;rw[show(((⟨f.toNat,by have:=HF.o;omega⟩:Fin 16).1:Nat):Int)=f by have:=HF.o;simp;omega]at hfl;obtain⟨g1,g2,g3⟩:=hfl;have P0:Hid (PR w w2.heap.size f t 0 [] ⟨#[]⟩ none 0 (w2.alloc (.cells (pkC (eU f t 0 [] ⟨#[]⟩) (hsP none 0)) PkT))):=aa ⟨HB2.o.alloc HB2.o.size _,HR2.o.alloc _,HZ2.o.alloc _,Bk.fresh _ _ _,Rd.nil _ _ _ _,ac _,HZ2.o.lt⟩;clear hld hst
 go_upto_if 50 with fail
 have P0':=P0.o;have hq:(w2.alloc (.cells (pkC (eU f t 0 [] ⟨#[]⟩) (hsP none 0)) PkT)).cell? ⟨w2.heap.size,3,none⟩=some (.int .i64 (f/ 2% 4)):=P0'.pk.cell 3
 by_cases hsh:f/ 2% 4≠0/\s.size<m+2
 ·have HX:Hid (km v f s=(pk0,3)):=aa (by rw[HE3.o,if_pos hsh]);have e0:(f/ 2% 4 !=0)=true:=aA.2 hsh.1;have hlt:(s.size:Int) - (m:Int)<2:=by omega
  have hw:IntKind.i64.wrap ((s.size:Int) - (m:Int))=(s.size:Int) - (m:Int):=by rw[aQ];have:=HS.o;have:=HUok.o;omega
  have hld:=cf P0'.zero;have hst:=aW P0'.res;clear hq P0' hsh g1 g2 g3;go_wp2;refine av (aI rfl _ rfl P0.o.none.2) rfl ?_;exact cL HX.o P0.o.none.1
 have HE4:=HE3.o;rw[ae hsh]at HE4
 replace HE4:=aa HE4
 have HSH:=aa hsh;clear hq P0' hsh HE3 g1 g2 g3
 go_cut [10] (fun a wx=>a= .int .i64 (iu f s:Nat)/\PR w w2.heap.size f t (mm f s) [] ⟨#[]⟩ none 0 wx)
 case first=>
  have P0':=P0.o;have hq:(w2.alloc (.cells (pkC (eU f t 0 [] ⟨#[]⟩) (hsP none 0)) PkT)).cell? ⟨w2.heap.size,3,none⟩=some (.int .i64 (f/ 2% 4)):=P0'.pk.cell 3
  by_cases h0:f/ 2% 4=0
  ·have e0:(f/ 2% 4 !=0)=false:=by simpa using h0
   have HA:Hid (iu f s=m):=aa (by rw[HAt.o,ae (fun x=>x h0)]);have HI:Hid (mm f s=0):=aa (by rw[HId.o,ae (fun x=>x h0)]);clear h0 P0';go_wp2
   go_meet
   case rel=>exact⟨by rw[HA.o],by rw[HI.o];exact P0.o⟩
  ·have e0:(f/ 2% 4 !=0)=true:=aA.2 h0;have hsz:m+2<=s.size:=by
    have:=HSH.o
    by_cases h:s.size<m+2
    ·exact absurd ⟨h0,h⟩ this
    ·omega
   have HA:Hid (iu f s=m+2):=aa (by rw[HAt.o,if_pos h0]);have HI:Hid (mm f s=((es (ls (s.extract m (m+2))):Nat):Int)):=aa (by rw[HId.o,if_pos h0]);have hG:es (ls (s.extract m (m+2)))<65536:=by
    have h1:=ka (ls (s.extract m (m+2)));have h2:(ls (s.extract m (m+2))).length=2:=by rw[aN,aj];omega
    rw[h2]at h1;exact h1
   have hlt:(2:Int)<=(s.size:Int) - (m:Int):=by omega
   have hw:IntKind.i64.wrap ((s.size:Int) - (m:Int))=(s.size:Int) - (m:Int):=by rw[aQ];have:=HS.o;omega
   have hw2:IntKind.i64.wrap ((m:Int)+2)=(m:Int)+2:=by rw[aQ];have:=HS.o;omega
   have b1:(0:Int)<=(m:Int):=by omega
   have b2:(m:Int)+2<=(s.size:Int):=by omega
   have hsz2:(s.extract m (m+2)).size<=8:=by rw[aj];omega
   have HSZ:=aa hsz2;have HG:=aa hG;have hw3:IntKind.i64.wrap ((es (ls (s.extract m (m+2))):Nat):Int)=((es (ls (s.extract m (m+2))):Nat):Int):=by rw[aQ];omega
   have k4:(w2.alloc (.cells (pkC (eU f t 0 [] ⟨#[]⟩) (hsP none 0)) PkT)).cell? ⟨w2.heap.size,4,none⟩=some (.int .i64 0):=P0'.pk.cell 4;have f4:=P0'.pk.free 4;clear h0 P0' hsz hsz2 hG
   go_wp2_with fail
   refine(jA _ _ HSZ.o).mono ?_;rintro e w3 ⟨rfl,rfl⟩;have P2:Hid (∀I:Int,PR w w2.heap.size f t I [] ⟨#[]⟩ none 0 (w2.alloc (.cells ((pkC (eU f t 0 [] ⟨#[]⟩) (hsP none 0)).setIfInBounds 4 (.int .i64 I)) PkT))):=aa fun I=>⟨HB2.o.alloc HB2.o.size _,HR2.o.alloc _,HZ2.o.alloc _,Bk.fresh w2 PkT (pkC (eU f t I [] ⟨#[]⟩) (hsP none 0)),Rd.nil _ _ _ _,ac _,HZ2.o.lt⟩;generalize es (ls (s.extract m (m+2)))=I at*;go_wp2
   go_meet
   case rel=>exact⟨by rw[HA.o];rfl,by rw[HI.o];exact P2.o _⟩
 case rest=>
  obtain⟨rfl,h⟩:=hcut;have P1:=aa h;clear h;have HAle:Hid (iu f s<=s.size):=aa (by
   rw[HAt.o];have h1:=HSH.o;have h2:=HUok.o
   by_cases h0:f/ 2% 4≠0
   ·rw[if_pos h0]
    by_cases h:s.size<m+2
    ·exact absurd ⟨h0,h⟩ h1
    ·omega
   ·rw[ae h0];exact h2.1)
  generalize iu f s=a at*;generalize mm f s=j at*;have HV:Hid (∀l n,fG v f s=(l,n,0)->((ii v (eU f t j l (s.extract (a+n) s.size))=0/\km v f s=(eU f t j l (s.extract (a+n) s.size),0))\/(ii v (eU f t j l (s.extract (a+n) s.size))≠0/\km v f s=(pk0,ii v (eU f t j l (s.extract (a+n) s.size)))))):=aa (by
   intro l n h;have h2:=HE4.o;have h3:=HFull.o;rw[h]at h2 h3;rw[ae (fun x=>x rfl)]at h2;rw[h3]at h2
   by_cases h4:ii v (eU f t j l (s.extract (a+n) s.size))=0
   ·exact .inl ⟨h4,by rw[h2];simp[h4]⟩
   ·exact .inr ⟨h4,by rw[h2];simp[h4]⟩)
  have HOK:Hid (∀l n,(∀p∈l,ea p)->l.length<=1000->PkOk (eU f t j l (s.extract (a+n) s.size))):=aa (by
   intro l n h1 h2;refine⟨?_,h1,?_,?_,?_⟩
   ·intro q hq;cases hq
   ·intro q hq;cases hq
   ·have:=HUok.o.2;have:=HS.o;refine⟨by show t.size<=_;omega,?_,?_⟩
    ·show(s.extract _ _).size<=_;rw[aj];omega
    ·exact⟨ag _,ag _,ag _,ag _,ag _⟩
   ·exact⟨ag _,ag _,ag _,by show l.length<=_;omega⟩)
  clear HFull HId HAt
  by_cases h5:v=5
  ·subst h5;have HP:Hid (fG 5 f s=aZ 3 (s.extract a s.size)):=aa (by rw[HPr.o,if_pos rfl]);have hle:(a:Int)<=(s.size:Int):=by have:=HAle.o;omega
   have h0:(0:Int)<=(a:Int):=by omega
   have HBad:Hid (∀l n x,fG 5 f s=(l,n,x)->x≠0->km 5 f s=(pk0,x)):=aa (by
    intro l n x h hx;have h2:=HE4.o;rw[h,if_pos hx]at h2;exact h2)
   have hs2:(s.extract a s.size).size<=140737488351232:=by rw[aj];have:=HS.o;omega
   have HLB:Hid ((aZ 3 (s.extract a s.size)).2.2=0->a+(aZ 3 (s.extract a s.size)).2.1<=s.size):=aa (by
    intro h0;have h1:(aZ 3 (s.extract a s.size)).2.1<=(s.extract a s.size).size:=(fd (kind:=3) (s:=s.extract a s.size) (l:=(aZ 3 (s.extract a s.size)).1) (n:=(aZ 3 (s.extract a s.size)).2.1) (by rw[<-h0])).2.2;rw[aj]at h1;have:=HAle.o;omega)
   have HS2:=aa hs2;clear HPr HE4 hs2
   go_wp2_with fail
   refine(kl 3 (s.extract a s.size) _ HS2.o).mono ?_;rintro e w4 ⟨A,cp,rfl,hcap,hrd,hb⟩;have P2:=aa (P1.o.below hb);have HGD:=aa (iT (kind:=3) HS2.o);have HLN:=aa (kj (kind:=3) (s:=s.extract a s.size));generalize aZ 3 (s.extract a s.size)=R at*;obtain⟨l,n,x⟩:=R;simp only at hcap hrd HLB HGD HLN⊢
   by_cases hx:x=0
   rotate_left
   ·have e0:(x !=0)=true:=aA.2 hx;have HR:=aa (HBad.o l n x HP.o hx);have hld:=cf P2.o.zero;have hst:=aW P2.o.res;clear hx hb hcap hrd;go_wp2;refine av (aI rfl _ rfl P2.o.none.2) rfl ?_;exact cL HR.o P2.o.none.1
   subst hx;have P3:=aa (P2.o.put hrd hcap);have P4:=aa (P3.o.set 6 (.string (s.extract (a+n) s.size)) (i':=j) (u':=s.extract (a+n) s.size) rfl);have HW:=aa (HV.o l n HP.o);have HO:=aa (HOK.o l n HGD.o (HLN.o rfl));have hw:IntKind.i64.wrap ((a:Int)+(n:Int))=(a:Int)+(n:Int):=by rw[aQ];have:=HLB.o rfl;have:=HS.o;omega
   have hle2:(a:Int)+(n:Int)<=(s.size:Int):=by have:=HLB.o rfl;omega
   have h02:(0:Int)<=(a:Int)+(n:Int):=by omega
   have k24:w4.cell? ⟨w2.heap.size,24,none⟩=some (.slice none 0 0):=P2.o.pk.cell 24;have f24:=P2.o.pk.free 24;have k6:(w4.setCell ⟨w2.heap.size,24,none⟩ (.slice A l.length cp)).cell? ⟨w2.heap.size,6,none⟩=some (.string ⟨#[]⟩):=P3.o.pk.cell 6;have f6:=P3.o.pk.free 6;have k6':w4.cell? ⟨w2.heap.size,6,none⟩=some (.string ⟨#[]⟩):=P2.o.pk.cell 6;have f6':=P2.o.pk.free 6;have hl:=cf P4.o.pk;clear hb hcap hrd HV HOK HBad HGD HLN HP HLB
   go_wp2_with fail
   refine(mY 5 (eU f t j l (s.extract (a+n) s.size)) _ _ P4.o.into HO.o).mono ?_;rintro e w5 ⟨rfl,hb⟩;have P5:=aa (P4.o.below hb);clear hb hl k6 f6 k24 f24 k6' f6'
   generalize s.extract (a+n) s.size=y at*;generalize ii 5 (eU f t j l y)=E at*;have hl:=cf P5.o.pk;have hld:=cf P5.o.zero;have hst:=aW P5.o.res;rcases HW.o with ⟨h2,hr⟩ | ⟨h2,hr⟩
   ·subst h2;have HR:=aa hr;clear hr
    go_wp2;refine av (aI rfl _ rfl P5.o.some.2.1) rfl ?_;exact fo HR.o P5.o.some.2.2 P5.o.some.1
   ·have e0:(E !=0)=true:=aA.2 h2;have HR:=aa hr;clear hr h2
    go_wp2;refine av (aI rfl _ rfl P5.o.none.2) rfl ?_;exact cL HR.o P5.o.none.1
  ·have e5:(v==5)=false:=ar.2 h5;have hpr:fG v f s=([],0,0):=by rw[HPr.o,ae h5]
   have HW:=aa (HV.o [] 0 hpr);rw[jV]at HW;have HO:=HOK.o [] 0 (by simp) (by simp);rw[jV]at HO
   replace HO:=aa HO
   have hle:(a:Int)<=(s.size:Int):=by have:=HAle.o;omega
   have h0:(0:Int)<=(a:Int):=by omega
   have P2:=aa (P1.o.set 6 (.string (s.extract a s.size)) (i':=j) (u':=s.extract a s.size) rfl);have k6:wc.cell? ⟨w2.heap.size,6,none⟩=some (.string ⟨#[]⟩):=P1.o.pk.cell 6;have f6:=P1.o.pk.free 6;have hl:=cf P2.o.pk;clear h5 hpr HPr HV HOK HE4
   go_wp2_with fail
   refine(mY v (eU f t j [] (s.extract a s.size)) _ _ P2.o.into HO.o).mono ?_;rintro e w4 ⟨rfl,hb⟩;have P3:=aa (P2.o.below hb);clear hb hl k6 f6
   generalize s.extract a s.size=y at*;generalize ii v (eU f t j [] y)=E at*;have hl:=cf P3.o.pk;have hld:=cf P3.o.zero;have hst:=aW P3.o.res;rcases HW.o with ⟨h2,hr⟩ | ⟨h2,hr⟩
   ·subst h2;have HR:=aa hr;clear hr
    go_wp2;refine av (aI rfl _ rfl P3.o.some.2.1) rfl ?_;exact fo HR.o P3.o.some.2.2 P3.o.some.1
   ·have e0:(E !=0)=true:=aA.2 h2;have HR:=aa hr;clear hr h2
    go_wp2;refine av (aI rfl _ rfl P3.o.none.2) rfl ?_;exact cL HR.o P3.o.none.1
end
theorem oa(t r:ByteArray):ls (cQ t++r)=da t.size 2++(ls t++ls r):=by
 unfold cQ;rw[fe,fe,jo,List.append_assoc]
theorem LZ(t r:ByteArray):(cQ t++r).size=2+t.size+r.size:=by
 rw[<-aN,oa,List.length_append,List.length_append,fM,aN,aN];omega
theorem Lv(t r:ByteArray)(h:t.size<65536)(hv:bN t=true):bL (cQ t++r)=(t,2+t.size,0):=by
 have hz:=LZ t r;have hn:br (cQ t++r) 0 0 2=t.size:=by
  unfold br;rw[show(2:Int)=((2:Nat):Int)from rfl,dZ (by omega),db,oa,cS,eW (by rw[fM];exact ac 2),bt (by rw[fM];exact ac 2),H7 _ h]
 have hx:(cQ t++r).extract 2 (2+t.size)=t:=eX (by
  rw[db,oa,List.drop_append_of_le_length (by rw[fM];exact ac 2),gD (by rw[fM];exact ac 2),dX,eW (by rw[aN];exact ac _),bt (by rw[aN];exact ac _)])
 have hb:dJ (cQ t++r)=(t,2+t.size,0):=by
  unfold dJ;rw[hn,hx,ae (by omega),ae (by omega)]
 unfold bL;rw[hb];simp[hv]
theorem wB{s t:ByteArray}{n:Nat}(h:bL s=(t,n,0)):s=cQ t++s.extract n s.size/\t.size<65536/\bN t=true/\n=2+t.size/\n<=s.size:=by
 have hb:dJ s=(t,n,0)/\bN t=true:=by
  unfold bL at h
  by_cases hc:(dJ s).2.2=0/\bN (dJ s).1=false
  ·rw[if_pos hc]at h;cases h
  ·rw[ae hc]at h;refine⟨h,?_⟩;cases hv:bN t
   ·exact absurd ⟨by rw[h],by rw[h];exact hv⟩ hc
   ·rfl
 obtain⟨hb,hv⟩:=hb;unfold dJ at hb
 by_cases h1:s.size<2
 ·rw[if_pos h1]at hb;cases hb
 rw[ae h1]at hb
 by_cases h2:s.size<2+br s 0 0 2
 ·rw[if_pos h2]at hb;cases hb
 rw[ae h2]at hb;simp only[bG]at hb;obtain⟨hx,rfl,-⟩:=hb;have hnum:br s 0 0 2=es ((ls s).take 2):=by
  unfold br;rw[show(2:Int)=((2:Nat):Int)from rfl,dZ (by omega),db,cS]
 have hl2:((ls s).take 2).length=2:=by rw[cY,aN];omega
 have hlt:br s 0 0 2<65536:=by
  rw[hnum];have:=ka ((ls s).take 2);rw[hl2]at this;exact this
 have htz:t.size=br s 0 0 2:=by rw[<-hx,aj];omega
 refine⟨eX ?_,by omega,hv,by omega,by omega⟩;rw[oa,ju,htz,hnum,lm _ hl2,<-hx,db,<-hnum,<-List.append_assoc];have e1:List.drop (2+br s 0 0 2) (ls s)=List.drop (br s 0 0 2) (List.drop 2 (ls s)):=by rw[et]
 rw[e1,List.append_assoc,cg,cg]
theorem Og(v:Int)(p:Pk)(y:ByteArray):ii v {p with payload:=y}=ii v p:=by
 have hF:kL v {p with payload:=y}=kL v p:=by
  unfold kL;refine eb.2 ⟨fun h=>⟨?_,h.2⟩,fun h=>⟨?_,h.2⟩⟩
  ·exact congrArg (fun q:Pk=>{q with payload:=p.payload}) h.1
  ·exact congrArg (fun q:Pk=>{q with payload:=y}) h.1
 have hL:∀j,dK v {p with payload:=y} j=dK v p j:=by
  intro j;unfold dK;rw[hF];rfl
 unfold ii;simp only[hL]
theorem Ks{p:Pk}(h:tJ p=false):gd (ke p)=true/\decide (8<=ke p)=p.dup/\ke p/ 2% 4=p.qos/\decide (ke p% 2=1)=p.retain:=by
 have hb:=Gy h;unfold gd ke;obtain h0| h1| h2:p.qos=0\/p.qos=1\/p.qos=2:=by omega
 ·rw[h0]at hb⊢;cases hd:p.dup
  ·cases p.retain<;>decide
  ·exact absurd (.inr (.inr ⟨rfl,hd⟩)) hb
 ·rw[h1];cases p.dup<;>cases p.retain<;>decide
 ·rw[h2];cases p.dup<;>cases p.retain<;>decide
theorem GU{l r:List UInt8}{n:Nat}(h:l.length=n):(l++r).drop n=r:=by
 rw[<-h,List.drop_left]
theorem BG(v:Int)(p:Pk)(y:ByteArray):ls (ys v p++y)=(da p.topic.size 2++ls p.topic)++((if p.qos≠0 then da p.id.toNat 2 else [])++((if v=5 then(aM p.kind p.props).1 else [])++ls y)):=by
 unfold ys BH cQ
 by_cases h5:v=5<;>by_cases h0:p.qos≠0
 ·rw[if_pos h5,if_pos h0,if_pos h0,if_pos h5];simp only[fe,jo,List.append_assoc]
 ·rw[if_pos h5,ae h0,ae h0,if_pos h5];simp only[fe,jo,List.append_assoc,dX]
 ·rw[ae h5,if_pos h0,if_pos h0,ae h5];simp only[fe,jo,List.append_assoc,dX]
 ·rw[ae h5,ae h0,ae h0,ae h5];simp only[fe,jo,List.append_assoc,dX]
theorem Lx(v:Int)(p:Pk)(y:ByteArray):ys v p++y=cQ p.topic++⟨((if p.qos≠0 then da p.id.toNat 2 else [])++((if v=5 then(aM p.kind p.props).1 else [])++ls y)).toArray⟩:=eX (by
 rw[BG];generalize (if p.qos≠0 then da p.id.toNat 2 else [])++((if v=5 then(aM p.kind p.props).1 else [])++ls y)=C;rw[oa,jo C,List.append_assoc])
theorem Nq{v:Int}{p:Pk}(x:ii v p=0)(hn:∀q∈p.props,q.n<4294967296)(y:ByteArray):km v (ke p) (ys v p++y)=({p with payload:=y},0):=by
 have g:=zB x;obtain⟨f1,f2,f3,f4⟩:=Ks g.flags;have hts:p.topic.size<65536:=by
  have:=g.topic;unfold bN at this;simp only[eh,Fx]at this;omega
 have hU:bL (ys v p++y)=(p.topic,2+p.topic.size,0):=by rw[Lx];exact Lv _ _ hts g.topic
 have hk:ba v=true:=au g.k;have hl:=BG v p y;have hA:(da p.topic.size 2++ls p.topic).length=2+p.topic.size:=by rw[List.length_append,fM,aN]
 have hsz:(ys v p++y).size=2+p.topic.size+((if p.qos≠0 then da p.id.toNat 2 else []).length+((if v=5 then(aM p.kind p.props).1 else []).length+y.size)):=by
  rw[<-aN,hl,List.length_append,hA,List.length_append,List.length_append,aN]
 have hAt:iu (ke p) (ys v p++y)=2+p.topic.size+(if p.qos≠0 then da p.id.toNat 2 else []).length:=by
  unfold iu;rw[hU,f3]
  by_cases h0:p.qos≠0
  ·rw[if_pos h0,if_pos h0,fM]
  ·rw[ae h0,ae h0];rfl
 have hI:mm (ke p) (ys v p++y)=p.id:=by
  unfold mm;rw[hU,f3]
  by_cases h0:p.qos≠0
  ·have:=g.id1 h0;rw[if_pos h0,db,hl,GU hA,if_pos h0,eW (by rw[fM];exact ac 2),bt (by rw[fM];exact ac 2),H7 _ (by omega)];omega
  ·rw[ae h0];exact(g.id0 (aU.1 h0)).symm
 have hdrop:(ls (ys v p++y)).drop (iu (ke p) (ys v p++y))=(if v=5 then(aM p.kind p.props).1 else [])++ls y:=by
  rw[hAt,<-et,hl,GU hA,GU rfl]
 have hP:fG v (ke p) (ys v p++y)=(p.props,(if v=5 then(aM p.kind p.props).1 else []).length,0):=by
  unfold fG
  by_cases h5:v=5
  ·rw[if_pos h5]at hdrop⊢;rw[if_pos h5];rw[g.kind]at hdrop⊢;exact Jb g.bytes hn (rest:=ls y) (by rw[ju];exact hdrop)
  ·rw[ae h5,ae h5,g.old (g.k.resolve_right h5)];rfl
 have hY:(ys v p++y).extract (iu (ke p) (ys v p++y)+(if v=5 then(aM p.kind p.props).1 else []).length) (ys v p++y).size=y:=eX (by
  rw[ju,<-et,hdrop,GU rfl])
 have hFull:gI v (ke p) (ys v p++y)= {p with payload:=y}:=by
  unfold gI;rw[hU,hI,hP];simp only;rw[hY];unfold eU;rw[f2,f3,f4];have e:=congrArg (fun q:Pk=>{q with payload:=y}) g.same;refine Eq.trans ?_ e.symm;unfold zA;rw[g.kind]
 have hE:ii v (gI v (ke p) (ys v p++y))=0:=by rw[hFull,Og];exact x
 unfold km;rw[ae (fun z=>by rw[hk]at z;cases z),ae (fun z=>z (by unfold eJ;rw[ae (fun z=>by rw[hk]at z;cases z),ae (fun z=>by rw[f1]at z;cases z)])),hU,ae (fun z=>z rfl),f3,ae,hP,ae (fun z=>z rfl),hE,ae (fun z=>z rfl),hFull];rintro ⟨h0,h⟩;rw[hsz,if_pos h0,fM]at h;simp only at h;omega
theorem Ea{v f:Int}{s:ByteArray}{q:Pk}(h:km v f s=(q,0)):ba v=true/\eJ v f=0/\(bL s).2.2=0/\¬(f/ 2% 4≠0/\s.size<(bL s).2.1+2)/\(fG v f s).2.2=0/\ii v (gI v f s)=0/\q=gI v f s:=by
 unfold km at h
 by_cases h1:ba v=false
 ·rw[if_pos h1]at h;cases h
 rw[ae h1]at h
 by_cases h2:eJ v f≠0
 ·rw[if_pos h2]at h;cases h
 rw[ae h2]at h
 by_cases h3:(bL s).2.2≠0
 ·rw[if_pos h3]at h;exact absurd (congrArg Prod.snd h) h3
 rw[ae h3]at h
 by_cases h4:f/ 2% 4≠0/\s.size<(bL s).2.1+2
 ·rw[if_pos h4]at h;cases h
 rw[ae h4]at h
 by_cases h5:(fG v f s).2.2≠0
 ·rw[if_pos h5]at h;exact absurd (congrArg Prod.snd h) h5
 rw[ae h5]at h
 by_cases h6:ii v (gI v f s)≠0
 ·rw[if_pos h6]at h;exact absurd (congrArg Prod.snd h) h6
 rw[ae h6]at h;exact⟨by simpa using h1,aU.1 h2,aU.1 h3,h4,aU.1 h5,aU.1 h6,(congrArg Prod.fst h).symm⟩
theorem wD{v f:Int}(hk:ba v=true)(hc:eJ v f=0)(t:ByteArray)(i:Int)(l:List Pr)(y:ByteArray):ke (eU f t i l y)=f:=by
 have h2:gd f=true:=by
  unfold eJ at hc;rw[ae (fun x=>by rw[hk]at x;cases x)]at hc;cases hh:gd f
  ·rw[hh,if_pos rfl]at hc;exact absurd hc (by decide)
  ·rfl
 have:=aR h2;show 2*(f/ 2% 4)+(if decide (f% 2=1)=true then 1 else 0)+(if decide (8<=f)=true then 8 else 0)=f;clear h2 hc hk;obtain rfl| rfl| rfl| rfl| rfl| rfl| rfl| rfl| rfl| rfl:=this
 all_goals decide
theorem zy{v f:Int}{s:ByteArray}{q:Pk}(h:km v f s=(q,0)):ii v q=0/\ys v q++q.payload=s/\ke q=f:=by
 obtain⟨hk,hc,hu,hs,hp,he,rfl⟩:=Ea h;refine⟨he,?_,wD hk hc _ _ _ _⟩;have hR:bL s=((bL s).1,(bL s).2.1,0):=by rw[<-hu]
 obtain⟨hs1,htz,hv,hn,hle⟩:=wB hR;have hls:ls s=(da (bL s).1.size 2++ls (bL s).1)++(ls s).drop (bL s).2.1:=by
  have:=congrArg ls hs1;rw[oa,ju,<-List.append_assoc]at this;exact this
 have hD:(ls s).drop (bL s).2.1=(if f/ 2% 4≠0 then da (mm f s).toNat 2 else [])++(ls s).drop (iu f s):=by
  unfold mm iu
  by_cases h0:f/ 2% 4≠0
  ·rw[if_pos h0,if_pos h0,if_pos h0,dN,db,lm _ (by
    rw[cY,bU,aN];have:¬s.size<(bL s).2.1+2:=fun z=>hs ⟨h0,z⟩;omega),<-et,cg]
  ·rw[ae h0,ae h0];rfl
 have hP:(ls s).drop (iu f s)=(if v=5 then(aM 3 (fG v f s).1).1 else [])++(ls s).drop (iu f s+(fG v f s).2.1):=by
  unfold fG at hp⊢
  by_cases h5:v=5
  ·rw[if_pos h5]at hp⊢;rw[if_pos h5];have hb:=(fd (kind:=3) (s:=s.extract (iu f s) s.size) (l:=(aZ 3 (s.extract (iu f s) s.size)).1) (n:=(aZ 3 (s.extract (iu f s) s.size)).2.1) (by rw[<-hp])).2.1;rw[hb,ju,<-et,cg]
  ·rw[ae h5,ae h5];rfl
 refine eX ?_;rw[BG];show(da (bL s).1.size 2++ls (bL s).1)++((if f/ 2% 4≠0 then da (mm f s).toNat 2 else [])++((if v=5 then(aM 3 (fG v f s).1).1 else [])++ls (s.extract (iu f s+(fG v f s).2.1) s.size)))=ls s;rw[ju,<-hP,<-hD,<-hls]
theorem Oz(s:ByteArray)(p:Nat)(h:p<s.size):s[p]=s.get! p:=by
 simp[ByteArray.get!,getElem!_pos,h];rfl
def Kl(s:ByteArray)(p:Nat):Bool:=decide (p<s.size/\(s.get! p).toNat/ 64=2)
def Kk(s:ByteArray)(p:Nat):Int:=if p<s.size/\(s.get! p).toNat/ 64=2 then(((s.get! p).toNat% 64:Nat):Int)else 0
theorem G8{s:ByteArray}{p:Nat}(h:¬(p<s.size/\(s.get! p).toNat/ 64=2)):Kl s p=false/\Kk s p=0:=⟨ah h,ae h⟩
theorem GY{s:ByteArray}{p:Nat}(h:p<s.size/\(s.get! p).toNat/ 64=2):Kl s p=true/\Kk s p=(((s.get! p).toNat% 64:Nat):Int):=⟨au h,if_pos h⟩
theorem IH(s:ByteArray)(p:Nat)(q:Int)(hq:q=p)(w:World)(_hp:p<=9000000000000000000):
  Calls prog 379 #[.string s,.int .i64 q] w fun e w'=>
   e= .returned (.tuple #[.int .i64 (Kk s p),.bool (Kl s p)])/\w=w':=by
 subst hq;have h0:(0:Int)<=(p:Int):=Int.natCast_nonneg _
 by_cases h:p<s.size
 ·have hi:(p:Int)<(s.size:Int):=by omega
  have d1:decide ((s.size:Int)<=(p:Int))=false:=ah (by omega);have d1':decide (s.size<=p)=false:=ah (by omega);have hx:=Oz s p h;obtain⟨x,hxx⟩:∃x,s.get! p=x:=⟨_,rfl⟩;rw[hxx]at hx
  by_cases h1:x.toNat<128
  ·have d2:decide ((x.toNat:Int)<128)=true:=au (by omega);have HF:Hid (Kl s p=false/\Kk s p=0):=aa (G8 (by rw[hxx];omega));clear h1 hxx;go_enter func379,ntmps379;go_wp2;go_ret2;exact⟨by rw[HF.o.1,HF.o.2];rfl,rfl⟩
  ·have d2:decide ((x.toNat:Int)<128)=false:=ah (by omega)
   by_cases h2:191<x.toNat
   ·have d3:decide ((191:Int)<(x.toNat:Int))=true:=au (by omega);have HF:Hid (Kl s p=false/\Kk s p=0):=aa (G8 (by rw[hxx];omega));clear h1 h2 hxx;go_enter func379,ntmps379;go_wp2;go_ret2;exact⟨by rw[HF.o.1,HF.o.2];rfl,rfl⟩
   ·have d3:decide ((191:Int)<(x.toNat:Int))=false:=ah (by omega);have HF:Hid (Kl s p=true/\Kk s p=((x.toNat% 64:Nat):Int)):=aa (by have:=GY (s:=s) (p:=p) (by rw[hxx];exact⟨h,by omega⟩);rwa[hxx]at this);have hs:(x.toNat:Int) - 128=((x.toNat% 64:Nat):Int):=by omega
    have HS:=aa hs;clear hs
    have hb1:(128:Int)<=(x.toNat:Int):=by omega
    have hb2:(x.toNat:Int)<=191:=by omega
    clear h1 h2 hxx;go_enter func379,ntmps379;go_wp2;go_ret2;exact⟨by rw[HF.o.1,HF.o.2,<-HS.o];rfl,rfl⟩
 ·have d1:decide ((s.size:Int)<=(p:Int))=true:=au (by omega);have d1':decide (s.size<=p)=true:=au (by omega);have HF:Hid (Kl s p=false/\Kk s p=0):=aa (G8 (by omega));clear h;go_enter func379,ntmps379;go_wp2;go_ret2;exact⟨by rw[HF.o.1,HF.o.2];rfl,rfl⟩
def GJ(s:ByteArray)(at_:Nat):Nat×Nat:=if Utf8.decode s at_=(65533,1)then(0,0)else Utf8.decode s at_
theorem Hi{n b0 b1 b2 b3:Nat}(h1:128<=b0)(h2:¬(b0/ 32=6/\1<n/\b1/ 64=2/\128<=b0% 32*64+b1% 64))
  (h3:¬(b0/ 16=14/\2<n/\b1/ 64=2/\b2/ 64=2/\2048<=b0% 16*4096+b1% 64*64+b2% 64/\(b0% 16*4096+b1% 64*64+b2% 64<55296\/57344<=b0% 16*4096+b1% 64*64+b2% 64)))
  (h4:¬(b0/ 8=30/\3<n/\b1/ 64=2/\b2/ 64=2/\b3/ 64=2/\65536<=b0% 8*262144+b1% 64*4096+b2% 64*64+b3% 64/\b0% 8*262144+b1% 64*4096+b2% 64*64+b3% 64<=1114111)):
  Lib.decodeN n b0 b1 b2 b3=(65533,1):=by
 rcases Lib.decodeN_shape n b0 b1 b2 b3 with ⟨e1,_⟩ | ⟨e1,e2,e3,e4,_⟩ | ⟨e1,e2,e3,e4,e5,e6,_⟩ | ⟨e1,e2,e3,e4,e5,e6,e7,_⟩ | e
 ·omega
 ·exact absurd ⟨e1,e2,e3,e4⟩ h2
 ·exact absurd ⟨e1,e2,e3,e4,e5,e6⟩ h3
 ·exact absurd ⟨e1,e2,e3,e4,e5,e6,e7⟩ h4
 ·exact e
theorem PY{n b0 b1 b2 b3:Nat}(h1:b0/ 32=6)(h2:1<n)(h3:b1/ 64=2)(h4:128<=b0% 32*64+b1% 64):Lib.decodeN n b0 b1 b2 b3=(b0% 32*64+b1% 64,2):=by
 unfold Lib.decodeN;rw[ae (by omega),if_pos ⟨h1,h2,h3⟩,if_pos h4]
theorem OH{n b0 b1 b2 b3:Nat}(h1:b0/ 16=14)(h2:2<n)(h3:b1/ 64=2)(h4:b2/ 64=2)(h5:2048<=b0% 16*4096+b1% 64*64+b2% 64)
  (h6:b0% 16*4096+b1% 64*64+b2% 64<55296\/57344<=b0% 16*4096+b1% 64*64+b2% 64):Lib.decodeN n b0 b1 b2 b3=(b0% 16*4096+b1% 64*64+b2% 64,3):=by
 unfold Lib.decodeN;rw[ae (by omega),ae (by omega),if_pos ⟨h1,⟨by omega,h3⟩,h2,h4⟩,if_pos ⟨h5,by omega⟩]
theorem PX{n b0 b1 b2 b3:Nat}(h1:b0/ 8=30)(h2:3<n)(h3:b1/ 64=2)(h4:b2/ 64=2)(h5:b3/ 64=2)(h6:65536<=b0% 8*262144+b1% 64*4096+b2% 64*64+b3% 64)
  (h7:b0% 8*262144+b1% 64*4096+b2% 64*64+b3% 64<=1114111):Lib.decodeN n b0 b1 b2 b3=(b0% 8*262144+b1% 64*4096+b2% 64*64+b3% 64,4):=by
 unfold Lib.decodeN;rw[ae (by omega),ae (by omega),ae (by omega),if_pos ⟨h1,⟨by omega,h3⟩,⟨by omega,h4⟩,h2,h5⟩,if_pos ⟨h6,by omega⟩]
theorem GQ{s:ByteArray}{p:Nat}(h:Lib.decodeN (s.size- p) (s.get! p).toNat (s.get! (p+1)).toNat (s.get! (p+2)).toNat (s.get! (p+3)).toNat=(65533,1)):GJ s p=(0,0):=by
 unfold GJ;rw[Lib.decode_at,if_pos h]
theorem Jc{s:ByteArray}{p m k:Nat}(h:Lib.decodeN (s.size- p) (s.get! p).toNat (s.get! (p+1)).toNat (s.get! (p+2)).toNat (s.get! (p+3)).toNat=(m,k))(hm:m≠65533\/k≠1):GJ s p=(m,k):=by
 unfold GJ;rw[Lib.decode_at,ae (by rw[h];simp;omega),h]
theorem La(s:ByteArray)(p:Nat)(w:World)(hp:p<s.size)(hs:s.size<=4611686018427387904):
  Calls prog 363 #[.string s,.int .i64 p] w fun e w'=>e= .returned (.tuple #[.int .i64 (GJ s p).1,.int .i64 (GJ s p).2])/\w=w':=by
 have h0:(0:Int)<=(p:Int):=Int.natCast_nonneg _;have hi:(p:Int)<(s.size:Int):=by omega
 have hx:=Oz s p hp;obtain⟨x,hxx⟩:∃x,s.get! p=x:=⟨_,rfl⟩;rw[hxx]at hx;have HXX:=aa hxx;have HS:=aa (And.intro hp hs)
 have h256:=UInt8.toNat_lt x;have h255:(x.toNat:Int)<=255:=by omega
 have hpm:(p:Int)<4611686018427387904:=by omega
 clear hxx hs
 by_cases g1:x.toNat<128
 ·have HF:Hid (GJ s p=(x.toNat,1)):=aa (Jc (by rw[HXX.o];unfold Lib.decodeN;rw[if_pos g1]) (.inl (by omega)));have e1:decide ((x.toNat:Int)<128)=true:=au (by omega);clear g1 h256;go_enter func363,ntmps363;go_wp2;go_ret2;exact⟨by rw[HF.o];rfl,rfl⟩
 ·have e1:decide ((x.toNat:Int)<128)=false:=ah (by omega);obtain g2| g2| g2| g2| g2:x.toNat<192\/(192<=x.toNat/\x.toNat<224)\/(224<=x.toNat/\x.toNat<240)\/(240<=x.toNat/\x.toNat<248)\/248<=x.toNat:=by omega
  ·have a1:decide ((192:Int)<=(x.toNat:Int))=false:=ah (by omega);have a2:decide ((x.toNat:Int)<224)=true:=au (by omega);have a3:decide ((224:Int)<=(x.toNat:Int))=false:=ah (by omega);have a4:decide ((x.toNat:Int)<240)=true:=au (by omega);have a5:decide ((240:Int)<=(x.toNat:Int))=false:=ah (by omega);have a6:decide ((x.toNat:Int)<248)=true:=au (by omega);have HF:Hid (GJ s p=(0,0)):=aa (GQ (Hi (by rw[HXX.o];omega) (by rw[HXX.o];omega) (by rw[HXX.o];omega) (by rw[HXX.o];omega)));clear g1 g2 h256;go_enter func363,ntmps363;go_wp2;go_ret2;exact⟨by rw[HF.o];rfl,rfl⟩
  ·have a1:decide ((192:Int)<=(x.toNat:Int))=true:=au (by omega);have a2:decide ((x.toNat:Int)<224)=true:=au (by omega);have a3:decide ((224:Int)<=(x.toNat:Int))=false:=ah (by omega);have a4:decide ((x.toNat:Int)<240)=true:=au (by omega);have a5:decide ((240:Int)<=(x.toNat:Int))=false:=ah (by omega);have a6:decide ((x.toNat:Int)<248)=true:=au (by omega);have hm:(x.toNat:Int) - 192=((x.toNat% 32:Nat):Int):=by omega
   have hmb:((x.toNat% 32:Nat):Int)<=31:=by omega
   have M0:Hid (x.toNat/ 32=6):=aa (by omega);obtain⟨m0,hm0⟩:∃m0,x.toNat% 32=m0:=⟨_,rfl⟩;rw[hm0]at hm hmb;have HM0:=aa hm0;clear hm0 g1 g2 h256;go_enter func363,ntmps363;go_wp2;refine wp_loop_rounds 2 ?_;rw[GD]
   go_wp2_with fail
   refine(IH s (p+1) _ (by simp) _ (by have:=HS.o;omega)).mono ?_;rintro e w1 ⟨rfl,rfl⟩
   by_cases c1:p+1<s.size/\(s.get! (p+1)).toNat/ 64=2
   ·rw[(GY c1).1,(GY c1).2];have C1:=aa c1;clear c1
    obtain⟨l1,hl1⟩:∃l,(s.get! (p+1)).toNat% 64=l:=⟨_,rfl⟩;rw[hl1];have bl1:(l1:Int)<=63:=by omega
    have HL1:=aa hl1;clear hl1
    obtain⟨q1,hq1⟩:∃q:Nat,64*(m0:Int)+(l1:Int)=(q:Int):=⟨64*m0+l1,by omega⟩;have bq1:(q1:Int)<=2047:=by omega
    have HQ1:=aa hq1;go_wp2
    by_cases z1:q1<128
    ·have tz1:decide ((q1:Int)<128)=true:=au (by omega);have HF:Hid (GJ s p=(0,0)):=aa (GQ (Hi (by rw[HXX.o];omega) (by rw[HXX.o];have k0:=M0.o;have k00:=HM0.o;have k000:=HS.o;have k1:=C1.o;have kk1:=HL1.o;have kkk1:=HQ1.o;omega) (by rw[HXX.o];have k0:=M0.o;have k00:=HM0.o;have k000:=HS.o;have k1:=C1.o;have kk1:=HL1.o;have kkk1:=HQ1.o;omega) (by rw[HXX.o];have k0:=M0.o;have k00:=HM0.o;have k000:=HS.o;have k1:=C1.o;have kk1:=HL1.o;have kkk1:=HQ1.o;omega)));clear z1;rw[GD];go_wp2;go_ret2;exact⟨by rw[HF.o];rfl,rfl⟩
    ·have tz1:decide ((q1:Int)<128)=false:=ah (by omega)
     by_cases z2:1114111<q1
     ·have tz2:decide ((1114111:Int)<(q1:Int))=true:=au (by omega);omega
     ·have tz2:decide ((1114111:Int)<(q1:Int))=false:=ah (by omega)
      by_cases z3:55296<=q1
      ·have tz3:decide ((55296:Int)<=(q1:Int))=true:=au (by omega)
       by_cases z4:q1<=57343
       ·have tz4:decide ((q1:Int)<=57343)=true:=au (by omega);omega
       ·have tz4:decide ((q1:Int)<=57343)=false:=ah (by omega);omega
      ·have tz3:decide ((55296:Int)<=(q1:Int))=false:=ah (by omega);have HF:Hid (GJ s p=(q1,2)):=aa (Jc (by have k0:=M0.o;have k00:=HM0.o;have k000:=HS.o;have k1:=C1.o;have kk1:=HL1.o;have kkk1:=HQ1.o;replace k00:=k00;rw[show q1=x.toNat% 32*64+(s.get! (p+1)).toNat% 64 by omega];rw[HXX.o];exact PY (by omega) (by omega) (by omega) (by omega)) (.inr (by omega)));clear z1 z2 z3;rw[GD];go_wp2;go_ret2;exact⟨by rw[HF.o];rfl,rfl⟩
   ·rw[(G8 c1).1,(G8 c1).2];have HF:Hid (GJ s p=(0,0)):=aa (GQ (Hi (by rw[HXX.o];omega) (by rw[HXX.o];have k0:=M0.o;have k00:=HM0.o;have k000:=HS.o;omega) (by rw[HXX.o];have k0:=M0.o;have k00:=HM0.o;have k000:=HS.o;omega) (by rw[HXX.o];have k0:=M0.o;have k00:=HM0.o;have k000:=HS.o;omega)));clear c1;go_wp2;go_ret2;exact⟨by rw[HF.o];rfl,rfl⟩
  ·have a1:decide ((192:Int)<=(x.toNat:Int))=true:=au (by omega);have a2:decide ((x.toNat:Int)<224)=false:=ah (by omega);have a3:decide ((224:Int)<=(x.toNat:Int))=true:=au (by omega);have a4:decide ((x.toNat:Int)<240)=true:=au (by omega);have a5:decide ((240:Int)<=(x.toNat:Int))=false:=ah (by omega);have a6:decide ((x.toNat:Int)<248)=true:=au (by omega);have hm:(x.toNat:Int) - 224=((x.toNat% 16:Nat):Int):=by omega
   have hmb:((x.toNat% 16:Nat):Int)<=15:=by omega
   have M0:Hid (x.toNat/ 16=14):=aa (by omega);obtain⟨m0,hm0⟩:∃m0,x.toNat% 16=m0:=⟨_,rfl⟩;rw[hm0]at hm hmb;have HM0:=aa hm0;clear hm0 g1 g2 h256;go_enter func363,ntmps363;go_wp2;refine wp_loop_rounds 3 ?_;rw[GD]
   go_wp2_with fail
   refine(IH s (p+1) _ (by simp) _ (by have:=HS.o;omega)).mono ?_;rintro e w1 ⟨rfl,rfl⟩
   by_cases c1:p+1<s.size/\(s.get! (p+1)).toNat/ 64=2
   ·rw[(GY c1).1,(GY c1).2];have C1:=aa c1;clear c1
    obtain⟨l1,hl1⟩:∃l,(s.get! (p+1)).toNat% 64=l:=⟨_,rfl⟩;rw[hl1];have bl1:(l1:Int)<=63:=by omega
    have HL1:=aa hl1;clear hl1
    obtain⟨q1,hq1⟩:∃q:Nat,64*(m0:Int)+(l1:Int)=(q:Int):=⟨64*m0+l1,by omega⟩;have bq1:(q1:Int)<=1023:=by omega
    have HQ1:=aa hq1;go_wp2;rw[GD]
    go_wp2_with fail
    refine(IH s (p+2) _ (by simp) _ (by have:=HS.o;omega)).mono ?_;rintro e w2 ⟨rfl,rfl⟩
    by_cases c2:p+2<s.size/\(s.get! (p+2)).toNat/ 64=2
    ·rw[(GY c2).1,(GY c2).2];have C2:=aa c2;clear c2
     obtain⟨l2,hl2⟩:∃l,(s.get! (p+2)).toNat% 64=l:=⟨_,rfl⟩;rw[hl2];have bl2:(l2:Int)<=63:=by omega
     have HL2:=aa hl2;clear hl2
     obtain⟨q2,hq2⟩:∃q:Nat,64*(q1:Int)+(l2:Int)=(q:Int):=⟨64*q1+l2,by omega⟩;have bq2:(q2:Int)<=65535:=by omega
     have HQ2:=aa hq2;go_wp2
     by_cases z1:q2<2048
     ·have tz1:decide ((q2:Int)<2048)=true:=au (by omega);have HF:Hid (GJ s p=(0,0)):=aa (GQ (Hi (by rw[HXX.o];omega) (by rw[HXX.o];have k0:=M0.o;have k00:=HM0.o;have k000:=HS.o;have k1:=C1.o;have kk1:=HL1.o;have kkk1:=HQ1.o;have k2:=C2.o;have kk2:=HL2.o;have kkk2:=HQ2.o;omega) (by rw[HXX.o];have k0:=M0.o;have k00:=HM0.o;have k000:=HS.o;have k1:=C1.o;have kk1:=HL1.o;have kkk1:=HQ1.o;have k2:=C2.o;have kk2:=HL2.o;have kkk2:=HQ2.o;omega) (by rw[HXX.o];have k0:=M0.o;have k00:=HM0.o;have k000:=HS.o;have k1:=C1.o;have kk1:=HL1.o;have kkk1:=HQ1.o;have k2:=C2.o;have kk2:=HL2.o;have kkk2:=HQ2.o;omega)));clear z1;rw[GD];go_wp2;go_ret2;exact⟨by rw[HF.o];rfl,rfl⟩
     ·have tz1:decide ((q2:Int)<2048)=false:=ah (by omega)
      by_cases z2:1114111<q2
      ·have tz2:decide ((1114111:Int)<(q2:Int))=true:=au (by omega);omega
      ·have tz2:decide ((1114111:Int)<(q2:Int))=false:=ah (by omega)
       by_cases z3:55296<=q2
       ·have tz3:decide ((55296:Int)<=(q2:Int))=true:=au (by omega)
        by_cases z4:q2<=57343
        ·have tz4:decide ((q2:Int)<=57343)=true:=au (by omega);have HF:Hid (GJ s p=(0,0)):=aa (GQ (Hi (by rw[HXX.o];omega) (by rw[HXX.o];have k0:=M0.o;have k00:=HM0.o;have k000:=HS.o;have k1:=C1.o;have kk1:=HL1.o;have kkk1:=HQ1.o;have k2:=C2.o;have kk2:=HL2.o;have kkk2:=HQ2.o;omega) (by rw[HXX.o];have k0:=M0.o;have k00:=HM0.o;have k000:=HS.o;have k1:=C1.o;have kk1:=HL1.o;have kkk1:=HQ1.o;have k2:=C2.o;have kk2:=HL2.o;have kkk2:=HQ2.o;omega) (by rw[HXX.o];have k0:=M0.o;have k00:=HM0.o;have k000:=HS.o;have k1:=C1.o;have kk1:=HL1.o;have kkk1:=HQ1.o;have k2:=C2.o;have kk2:=HL2.o;have kkk2:=HQ2.o;omega)));clear z1 z2 z3 z4;rw[GD];go_wp2;go_ret2;exact⟨by rw[HF.o];rfl,rfl⟩
        ·have tz4:decide ((q2:Int)<=57343)=false:=ah (by omega);have HF:Hid (GJ s p=(q2,3)):=aa (Jc (by have k0:=M0.o;have k00:=HM0.o;have k000:=HS.o;have k1:=C1.o;have kk1:=HL1.o;have kkk1:=HQ1.o;have k2:=C2.o;have kk2:=HL2.o;have kkk2:=HQ2.o;replace k00:=k00;rw[show q2=x.toNat% 16*4096+(s.get! (p+1)).toNat% 64*64+(s.get! (p+2)).toNat% 64 by omega];rw[HXX.o];exact OH (by omega) (by omega) (by omega) (by omega) (by omega) (by omega)) (.inr (by omega)));clear z1 z2 z3 z4;rw[GD];go_wp2;go_ret2;exact⟨by rw[HF.o];rfl,rfl⟩
       ·have tz3:decide ((55296:Int)<=(q2:Int))=false:=ah (by omega);have HF:Hid (GJ s p=(q2,3)):=aa (Jc (by have k0:=M0.o;have k00:=HM0.o;have k000:=HS.o;have k1:=C1.o;have kk1:=HL1.o;have kkk1:=HQ1.o;have k2:=C2.o;have kk2:=HL2.o;have kkk2:=HQ2.o;replace k00:=k00;rw[show q2=x.toNat% 16*4096+(s.get! (p+1)).toNat% 64*64+(s.get! (p+2)).toNat% 64 by omega];rw[HXX.o];exact OH (by omega) (by omega) (by omega) (by omega) (by omega) (by omega)) (.inr (by omega)));clear z1 z2 z3;rw[GD];go_wp2;go_ret2;exact⟨by rw[HF.o];rfl,rfl⟩
    ·rw[(G8 c2).1,(G8 c2).2];have HF:Hid (GJ s p=(0,0)):=aa (GQ (Hi (by rw[HXX.o];omega) (by rw[HXX.o];have k0:=M0.o;have k00:=HM0.o;have k000:=HS.o;have k1:=C1.o;have kk1:=HL1.o;have kkk1:=HQ1.o;omega) (by rw[HXX.o];have k0:=M0.o;have k00:=HM0.o;have k000:=HS.o;have k1:=C1.o;have kk1:=HL1.o;have kkk1:=HQ1.o;omega) (by rw[HXX.o];have k0:=M0.o;have k00:=HM0.o;have k000:=HS.o;have k1:=C1.o;have kk1:=HL1.o;have kkk1:=HQ1.o;omega)));clear c2;go_wp2;go_ret2;exact⟨by rw[HF.o];rfl,rfl⟩
   ·rw[(G8 c1).1,(G8 c1).2];have HF:Hid (GJ s p=(0,0)):=aa (GQ (Hi (by rw[HXX.o];omega) (by rw[HXX.o];have k0:=M0.o;have k00:=HM0.o;have k000:=HS.o;omega) (by rw[HXX.o];have k0:=M0.o;have k00:=HM0.o;have k000:=HS.o;omega) (by rw[HXX.o];have k0:=M0.o;have k00:=HM0.o;have k000:=HS.o;omega)));clear c1;go_wp2;go_ret2;exact⟨by rw[HF.o];rfl,rfl⟩
  ·have a1:decide ((192:Int)<=(x.toNat:Int))=true:=au (by omega);have a2:decide ((x.toNat:Int)<224)=false:=ah (by omega);have a3:decide ((224:Int)<=(x.toNat:Int))=true:=au (by omega);have a4:decide ((x.toNat:Int)<240)=false:=ah (by omega);have a5:decide ((240:Int)<=(x.toNat:Int))=true:=au (by omega);have a6:decide ((x.toNat:Int)<248)=true:=au (by omega);have hm:(x.toNat:Int) - 240=((x.toNat% 8:Nat):Int):=by omega
   have hmb:((x.toNat% 8:Nat):Int)<=7:=by omega
   have M0:Hid (x.toNat/ 8=30):=aa (by omega);obtain⟨m0,hm0⟩:∃m0,x.toNat% 8=m0:=⟨_,rfl⟩;rw[hm0]at hm hmb;have HM0:=aa hm0;clear hm0 g1 g2 h256;go_enter func363,ntmps363;go_wp2;refine wp_loop_rounds 4 ?_;rw[GD]
   go_wp2_with fail
   refine(IH s (p+1) _ (by simp) _ (by have:=HS.o;omega)).mono ?_;rintro e w1 ⟨rfl,rfl⟩
   by_cases c1:p+1<s.size/\(s.get! (p+1)).toNat/ 64=2
   ·rw[(GY c1).1,(GY c1).2];have C1:=aa c1;clear c1
    obtain⟨l1,hl1⟩:∃l,(s.get! (p+1)).toNat% 64=l:=⟨_,rfl⟩;rw[hl1];have bl1:(l1:Int)<=63:=by omega
    have HL1:=aa hl1;clear hl1
    obtain⟨q1,hq1⟩:∃q:Nat,64*(m0:Int)+(l1:Int)=(q:Int):=⟨64*m0+l1,by omega⟩;have bq1:(q1:Int)<=511:=by omega
    have HQ1:=aa hq1;go_wp2;rw[GD]
    go_wp2_with fail
    refine(IH s (p+2) _ (by simp) _ (by have:=HS.o;omega)).mono ?_;rintro e w2 ⟨rfl,rfl⟩
    by_cases c2:p+2<s.size/\(s.get! (p+2)).toNat/ 64=2
    ·rw[(GY c2).1,(GY c2).2];have C2:=aa c2;clear c2
     obtain⟨l2,hl2⟩:∃l,(s.get! (p+2)).toNat% 64=l:=⟨_,rfl⟩;rw[hl2];have bl2:(l2:Int)<=63:=by omega
     have HL2:=aa hl2;clear hl2
     obtain⟨q2,hq2⟩:∃q:Nat,64*(q1:Int)+(l2:Int)=(q:Int):=⟨64*q1+l2,by omega⟩;have bq2:(q2:Int)<=32767:=by omega
     have HQ2:=aa hq2;go_wp2;rw[GD]
     go_wp2_with fail
     refine(IH s (p+3) _ (by simp) _ (by have:=HS.o;omega)).mono ?_;rintro e w3 ⟨rfl,rfl⟩
     by_cases c3:p+3<s.size/\(s.get! (p+3)).toNat/ 64=2
     ·rw[(GY c3).1,(GY c3).2];have C3:=aa c3;clear c3
      obtain⟨l3,hl3⟩:∃l,(s.get! (p+3)).toNat% 64=l:=⟨_,rfl⟩;rw[hl3];have bl3:(l3:Int)<=63:=by omega
      have HL3:=aa hl3;clear hl3
      obtain⟨q3,hq3⟩:∃q:Nat,64*(q2:Int)+(l3:Int)=(q:Int):=⟨64*q2+l3,by omega⟩;have bq3:(q3:Int)<=2097151:=by omega
      have HQ3:=aa hq3;go_wp2
      by_cases z1:q3<65536
      ·have tz1:decide ((q3:Int)<65536)=true:=au (by omega);have HF:Hid (GJ s p=(0,0)):=aa (GQ (Hi (by rw[HXX.o];omega) (by rw[HXX.o];have k0:=M0.o;have k00:=HM0.o;have k000:=HS.o;have k1:=C1.o;have kk1:=HL1.o;have kkk1:=HQ1.o;have k2:=C2.o;have kk2:=HL2.o;have kkk2:=HQ2.o;have k3:=C3.o;have kk3:=HL3.o;have kkk3:=HQ3.o;omega) (by rw[HXX.o];have k0:=M0.o;have k00:=HM0.o;have k000:=HS.o;have k1:=C1.o;have kk1:=HL1.o;have kkk1:=HQ1.o;have k2:=C2.o;have kk2:=HL2.o;have kkk2:=HQ2.o;have k3:=C3.o;have kk3:=HL3.o;have kkk3:=HQ3.o;omega) (by rw[HXX.o];have k0:=M0.o;have k00:=HM0.o;have k000:=HS.o;have k1:=C1.o;have kk1:=HL1.o;have kkk1:=HQ1.o;have k2:=C2.o;have kk2:=HL2.o;have kkk2:=HQ2.o;have k3:=C3.o;have kk3:=HL3.o;have kkk3:=HQ3.o;omega)));clear z1;rw[GD];go_wp2;go_ret2;exact⟨by rw[HF.o];rfl,rfl⟩
      ·have tz1:decide ((q3:Int)<65536)=false:=ah (by omega)
       by_cases z2:1114111<q3
       ·have tz2:decide ((1114111:Int)<(q3:Int))=true:=au (by omega);have HF:Hid (GJ s p=(0,0)):=aa (GQ (Hi (by rw[HXX.o];omega) (by rw[HXX.o];have k0:=M0.o;have k00:=HM0.o;have k000:=HS.o;have k1:=C1.o;have kk1:=HL1.o;have kkk1:=HQ1.o;have k2:=C2.o;have kk2:=HL2.o;have kkk2:=HQ2.o;have k3:=C3.o;have kk3:=HL3.o;have kkk3:=HQ3.o;omega) (by rw[HXX.o];have k0:=M0.o;have k00:=HM0.o;have k000:=HS.o;have k1:=C1.o;have kk1:=HL1.o;have kkk1:=HQ1.o;have k2:=C2.o;have kk2:=HL2.o;have kkk2:=HQ2.o;have k3:=C3.o;have kk3:=HL3.o;have kkk3:=HQ3.o;omega) (by rw[HXX.o];have k0:=M0.o;have k00:=HM0.o;have k000:=HS.o;have k1:=C1.o;have kk1:=HL1.o;have kkk1:=HQ1.o;have k2:=C2.o;have kk2:=HL2.o;have kkk2:=HQ2.o;have k3:=C3.o;have kk3:=HL3.o;have kkk3:=HQ3.o;omega)));clear z1 z2;rw[GD];go_wp2;go_ret2;exact⟨by rw[HF.o];rfl,rfl⟩
       ·have tz2:decide ((1114111:Int)<(q3:Int))=false:=ah (by omega)
        by_cases z3:55296<=q3
        ·have tz3:decide ((55296:Int)<=(q3:Int))=true:=au (by omega)
         by_cases z4:q3<=57343
         ·have tz4:decide ((q3:Int)<=57343)=true:=au (by omega);omega
         ·have tz4:decide ((q3:Int)<=57343)=false:=ah (by omega);have HF:Hid (GJ s p=(q3,4)):=aa (Jc (by have k0:=M0.o;have k00:=HM0.o;have k000:=HS.o;have k1:=C1.o;have kk1:=HL1.o;have kkk1:=HQ1.o;have k2:=C2.o;have kk2:=HL2.o;have kkk2:=HQ2.o;have k3:=C3.o;have kk3:=HL3.o;have kkk3:=HQ3.o;replace k00:=k00;rw[show q3=x.toNat% 8*262144+(s.get! (p+1)).toNat% 64*4096+(s.get! (p+2)).toNat% 64*64+(s.get! (p+3)).toNat% 64 by omega];rw[HXX.o];exact PX (by omega) (by omega) (by omega) (by omega) (by omega) (by omega) (by omega)) (.inr (by omega)));clear z1 z2 z3 z4;rw[GD];go_wp2;go_ret2;exact⟨by rw[HF.o];rfl,rfl⟩
        ·have tz3:decide ((55296:Int)<=(q3:Int))=false:=ah (by omega);omega
     ·rw[(G8 c3).1,(G8 c3).2];have HF:Hid (GJ s p=(0,0)):=aa (GQ (Hi (by rw[HXX.o];omega) (by rw[HXX.o];have k0:=M0.o;have k00:=HM0.o;have k000:=HS.o;have k1:=C1.o;have kk1:=HL1.o;have kkk1:=HQ1.o;have k2:=C2.o;have kk2:=HL2.o;have kkk2:=HQ2.o;omega) (by rw[HXX.o];have k0:=M0.o;have k00:=HM0.o;have k000:=HS.o;have k1:=C1.o;have kk1:=HL1.o;have kkk1:=HQ1.o;have k2:=C2.o;have kk2:=HL2.o;have kkk2:=HQ2.o;omega) (by rw[HXX.o];have k0:=M0.o;have k00:=HM0.o;have k000:=HS.o;have k1:=C1.o;have kk1:=HL1.o;have kkk1:=HQ1.o;have k2:=C2.o;have kk2:=HL2.o;have kkk2:=HQ2.o;omega)));clear c3;go_wp2;go_ret2;exact⟨by rw[HF.o];rfl,rfl⟩
    ·rw[(G8 c2).1,(G8 c2).2];have HF:Hid (GJ s p=(0,0)):=aa (GQ (Hi (by rw[HXX.o];omega) (by rw[HXX.o];have k0:=M0.o;have k00:=HM0.o;have k000:=HS.o;have k1:=C1.o;have kk1:=HL1.o;have kkk1:=HQ1.o;omega) (by rw[HXX.o];have k0:=M0.o;have k00:=HM0.o;have k000:=HS.o;have k1:=C1.o;have kk1:=HL1.o;have kkk1:=HQ1.o;omega) (by rw[HXX.o];have k0:=M0.o;have k00:=HM0.o;have k000:=HS.o;have k1:=C1.o;have kk1:=HL1.o;have kkk1:=HQ1.o;omega)));clear c2;go_wp2;go_ret2;exact⟨by rw[HF.o];rfl,rfl⟩
   ·rw[(G8 c1).1,(G8 c1).2];have HF:Hid (GJ s p=(0,0)):=aa (GQ (Hi (by rw[HXX.o];omega) (by rw[HXX.o];have k0:=M0.o;have k00:=HM0.o;have k000:=HS.o;omega) (by rw[HXX.o];have k0:=M0.o;have k00:=HM0.o;have k000:=HS.o;omega) (by rw[HXX.o];have k0:=M0.o;have k00:=HM0.o;have k000:=HS.o;omega)));clear c1;go_wp2;go_ret2;exact⟨by rw[HF.o];rfl,rfl⟩
  ·have a1:decide ((192:Int)<=(x.toNat:Int))=true:=au (by omega);have a2:decide ((x.toNat:Int)<224)=false:=ah (by omega);have a3:decide ((224:Int)<=(x.toNat:Int))=true:=au (by omega);have a4:decide ((x.toNat:Int)<240)=false:=ah (by omega);have a5:decide ((240:Int)<=(x.toNat:Int))=true:=au (by omega);have a6:decide ((x.toNat:Int)<248)=false:=ah (by omega);have HF:Hid (GJ s p=(0,0)):=aa (GQ (Hi (by rw[HXX.o];omega) (by rw[HXX.o];omega) (by rw[HXX.o];omega) (by rw[HXX.o];omega)));clear g1 g2 h256;go_enter func363,ntmps363;go_wp2;go_ret2;exact⟨by rw[HF.o];rfl,rfl⟩
theorem Mo{s:ByteArray}{p:Nat}(h:(Utf8.decode s p).1=0\/((Utf8.decode s p).1=65533/\(Utf8.decode s p).2=1)):(GJ s p).1=0:=by
 unfold GJ;split
 ·rfl
 ·rename_i hn;rcases h with h| ⟨h1,h2⟩
  ·exact h
  ·exact absurd (Prod.ext h1 h2) hn
theorem Mp{s:ByteArray}{p:Nat}(h:¬((Utf8.decode s p).1=0\/((Utf8.decode s p).1=65533/\(Utf8.decode s p).2=1))):GJ s p=Utf8.decode s p:=by
 unfold GJ;rw[ae];intro e;rw[e]at h;exact h (.inr ⟨rfl,rfl⟩)
theorem LN(s:ByteArray)(w:World)(hs:s.size<=4611686018427387904):
  Calls prog 312 #[.string s] w fun e w'=>e= .returned (.int .i64 (tI s))/\w=w':=by
 have HS:=aa hs;go_enter func312,ntmps312;go_wp2
 go_loopw [3,4,5] (fun a _ _ wr=>∃(pos f:Nat),a= .int .i64 pos/\pos<=s.size/\s.size<=pos+f/\tI s=xD f s pos/\w=wr) (fun a _ _ _=>s.size- (intOf a).toNat)
 case atStart=>exact⟨0,s.size,rfl,by omega,by omega,rfl,rfl⟩
 case round=>
  obtain⟨pos,f,rfl,hle,hfu,hv,rfl⟩:=hrel;have HV:=aa hv;clear hv
  by_cases hp:pos<s.size
  ·obtain⟨f,rfl⟩:∃f',f=f'+1:=⟨f- 1,by omega⟩;have hi:(pos:Int)<(s.size:Int):=by omega
   have hwd:=Lib.decode_width_pos s pos hp;have hwl:pos+(Utf8.decode s pos).2<=s.size:=by rw[Lib.decode_at];have:=xq (s.size- pos) (s.get! pos).toNat (s.get! (pos+1)).toNat (s.get! (pos+2)).toNat (s.get! (pos+3)).toNat (by omega);omega
   have HP:=aa (And.intro hp (And.intro hwd (And.intro hwl hfu)));have hb:Hid (tI s=if(Utf8.decode s pos).1=0\/((Utf8.decode s pos).1=65533/\(Utf8.decode s pos).2=1)then(pos:Int)else xD f s (pos+(Utf8.decode s pos).2)):=aa (by rw[HV.o,xD,if_pos hp]);clear hle hfu HV hp hwd hwl
   by_cases hz:(Utf8.decode s pos).1=0\/((Utf8.decode s pos).1=65533/\(Utf8.decode s pos).2=1)
   ·have HG:Hid (tI s=pos):=aa (by rw[hb.out,if_pos hz]);have HZ:=aa (Mo hz);clear hz hb
    go_wp2_with fail
    refine(La s pos _ HP.o.1 HS.o).mono ?_;rintro e w1 ⟨rfl,rfl⟩;rw[HZ.o];cases hk:((GJ s pos).2:Int)==0
    ·go_wp2;go_ret;exact⟨by rw[HG.o];rfl,rfl⟩
    ·go_wp2;go_ret;exact⟨by rw[HG.o];rfl,rfl⟩
   ·have HG:Hid (tI s=xD f s (pos+(Utf8.decode s pos).2)):=aa (by rw[hb.out,ae hz]);have HE:=aa (Mp hz);have HC:Hid ((Utf8.decode s pos).1≠0):=aa fun e=>hz (.inl e);clear hz hb
    go_wp2_with fail
    refine(La s pos _ HP.o.1 HS.o).mono ?_;rintro e w1 ⟨rfl,rfl⟩;rw[HE.o];obtain⟨c,hc⟩:∃c,(Utf8.decode s pos).1=c:=⟨_,rfl⟩;obtain⟨wd,hw⟩:∃wd,(Utf8.decode s pos).2=wd:=⟨_,rfl⟩;rw[hc,hw];rw[hc]at HC;rw[hw]at HG HP;have k1:((wd:Int)==0)=false:=ar.2 (by have:=HP.o;omega);have k2:((c:Int)==0)=false:=ar.2 (by have:=HC.o;omega);have k3:(pos:Int)+(wd:Int)<=4611686018427387904:=by have:=HP.o;have:=HS.o;omega
    have k4:(0:Int)<=(pos:Int)+(wd:Int):=by omega
    clear hc hw hs;go_wp2
    go_roundw
    case rel=>exact⟨pos+wd,f,by simp,by have:=HP.o;omega,by have:=HP.o;omega,HG.o,by first| trivial| rfl⟩
    case measure=>have:=HP.o;simp[intOf];omega
  ·have hfin:tI s= -1:=by
    rw[HV.o];cases f with
    | zero=>rfl
    | succ f=>rw[xD,ae hp]
   have HF:=aa hfin;clear hfin HV
   have hi:¬((pos:Int)<(s.size:Int)):=by omega
   go_wp2;go_ret;exact⟨by rw[HF.o];rfl,rfl⟩
theorem MT(s:ByteArray):∀(f pos:Nat),-1<=xD f s pos
 | 0,_=>by simp[xD]
 | f+1,pos=>by
   rw[xD];split
   ·split
    ·omega
    ·exact MT s f _
   ·omega
theorem xj(s:ByteArray)(w:World)(hs:s.size<=4611686018427387904):
  Calls prog 240 #[.string s] w fun e w'=>e= .returned (.bool (bN s))/\w=w':=by
 by_cases h:s.size<=65535
 ·have h1:decide ((s.size:Int)<=65535)=true:=au (by omega);have hge: -1<=tI s:=MT s _ _;have HF:Hid (bN s=decide (tI s<0)):=aa (by
   unfold bN;rw[au h,aL,eG];simp;omega)
  have HS:=aa hs;clear h hge hs;go_enter func240,ntmps240
  go_wp2_with fail
  refine(LN s _ HS.o).mono ?_;rintro e w1 ⟨rfl,rfl⟩;cases hk:decide (tI s<0)
  ·rw[hk]at HF;go_wp2;go_ret;exact⟨by rw[HF.o];rfl,rfl⟩
  ·rw[hk]at HF;go_wp2;go_ret;exact⟨by rw[HF.o];rfl,rfl⟩
 ·have h1:decide ((s.size:Int)<=65535)=false:=ah (by omega);have HF:Hid (bN s=false):=aa (by simp[bN,h]);clear h;go_enter func240,ntmps240;go_wp2;go_ret;exact⟨by rw[HF.o];rfl,rfl⟩
end Go.Proofs.YtbdgkkmbnahgiaaGreatDoor
