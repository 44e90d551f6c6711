/- A part of what the laws stand on: MPubB, PubK, MCnt. -/
import Derived.Test.YtpcleamaieaefaaGreatDoorMeG0MTai
import Derived.Deep.DeepCutAuto
import Derived.Shelf.Strings.OnBuilder
set_option maxRecDepth 10000
set_option maxHeartbeats 8000000
namespace Go.Proofs.YtpcleamaieaefaaGreatDoor
open Go.RowKit
theorem E8 (g a:Nat) (t:ByteArray) (e:Int) (w:World) (h:Cur w g t a e):
  Calls Tryz.prog 207 #[.pointer (some ⟨g,0,none⟩)] w fun e' w'=>e'= .returned (.int .i64 a)∧w=w':=by
 obtain⟨⟨c0,c1,c2⟩,f0,f1,f2⟩:=h.cells;clear h
 go_enter Tryz.func207,Tryz.ntmps207
 go_wp2
 go_ret
 exact⟨rfl,rfl⟩
def dJ (s:ByteArray):ByteArray×Nat×Int:=
 if s.size<2 then(⟨#[]⟩,0,3)else if s.size<2+br s 0 0 2 then(⟨#[]⟩,0,3)else(s.extract 2 (2+br s 0 0 2),2+br s 0 0 2,0)
def bL (s:ByteArray):ByteArray×Nat×Int:=if(dJ s).2.2=0∧bN (dJ s).1=false then(⟨#[]⟩,0,6)else dJ s
theorem zp (s:ByteArray) (w:World) (hs:s.size≤4611686018427387904):
  Calls Tryz.prog 150 #[.string s] w fun e w'=>e= .returned (.tuple #[.string (dJ s).1,.int .i64 (dJ s).2.1,.int .i64 (dJ s).2.2])∧Below w.heap.size w w':=by
 have HS:=aa hs
 go_enter Tryz.func150,Tryz.ntmps150
 go_wp2_with fail
 refine(jL s _ hs).mono ?_;rintro e w1 ⟨rfl,hc,hb⟩;have HB1:=aa hb;have HC1:=aa hc;clear hb hc
 go_wp2_with fail
 refine(dR w.heap.size 0 s 0 2 _ HC1.out (by decide)).mono ?_;rintro e w2 ⟨rfl,hc,hm⟩;have HB2:=aa (dw HB1.out hm HB1.out.size (ac _));have HC2:=aa hc;clear hc hm
 have hlt:br s 0 0 2<65536:=by
  unfold br;have h1:=ka (ls (aH s 0 0 2).1);have h2:(ls (aH s 0 0 2).1).length≤2:=by rw[aN];exact kI (by omega) 0 2 2 (by decide)
  have h3:256^ (ls (aH s 0 0 2).1).length≤256^ 2:=df (by omega) h2;omega
 have HE:Hid (dJ s=if s.size<2 then(⟨#[]⟩,0,3)else if s.size<2+br s 0 0 2 then(⟨#[]⟩,0,3)else(s.extract 2 (2+br s 0 0 2),2+br s 0 0 2,0)):=aa rfl;have HT2:Hid (¬s.size<2→aH s 0 0 2=(s.extract 0 2,2,0)):=aa fun h=>dZ (k:=2) (by omega);have HT3:Hid (s.size<2→aH s 0 0 2=(⟨#[]⟩,0,3)):=aa fun h=>kH (k:=2) (by omega);generalize br s 0 0 2=m at*;have hw:IntKind.i64.wrap (m:Int)=(m:Int):=by rw[aQ];omega
 by_cases h2:s.size<2
 ·have HX:Hid (dJ s=(⟨#[]⟩,0,3)):=aa (by rw[HE.out,if_pos h2]);have hc3:=HC2.out;rw[HT3.out h2]at hc3;have HC3:=aa hc3;clear hc3 h2
  go_wp2_with fail
  refine(eo w.heap.size 0 s 3 m _ HC3.out).mono ?_;rintro e w3 ⟨rfl,hc,hm⟩;rw[fY (by decide)]at hc⊢;have HB3:=aa (dw HB2.out hm HB2.out.size (ac _));have HC4:=aa hc;clear hc hm
  go_wp2_with fail
  refine(dG w.heap.size 0 s 3 _ HC4.out).mono ?_;rintro e w4 ⟨rfl,rfl⟩
  go_wp2
  go_ret3
  exact⟨by rw[HX.out];rfl,HB3.out⟩
 have hc3:=HC2.out;rw[HT2.out h2]at hc3;have HC3:=aa hc3;clear hc3
 by_cases h3:s.size<2+m
 ·have HX:Hid (dJ s=(⟨#[]⟩,0,3)):=aa (by rw[HE.out,ae h2,if_pos h3]);have HT:Hid (aH s 2 0 m=(⟨#[]⟩,2,3)):=aa (kH (by omega));clear h2 h3
  go_wp2_with fail
  refine(eo w.heap.size 2 s 0 m _ HC3.out).mono ?_;rintro e w3 ⟨rfl,hc,hm⟩;rw[HT.out]at hc⊢;have HB3:=aa (dw HB2.out hm HB2.out.size (ac _));have HC4:=aa hc;clear hc hm
  go_wp2_with fail
  refine(dG w.heap.size 2 s 3 _ HC4.out).mono ?_;rintro e w4 ⟨rfl,rfl⟩
  go_wp2
  go_ret3
  exact⟨by rw[HX.out];rfl,HB3.out⟩
 ·have HX:Hid (dJ s=(s.extract 2 (2+m),2+m,0)):=aa (by rw[HE.out,ae h2,ae h3]);have HT:Hid (aH s 2 0 m=(s.extract 2 (2+m),2+m,0)):=aa (dZ (by omega));clear h2 h3
  go_wp2_with fail
  refine(eo w.heap.size 2 s 0 m _ HC3.out).mono ?_;rintro e w3 ⟨rfl,hc,hm⟩;rw[HT.out]at hc⊢;have HB3:=aa (dw HB2.out hm HB2.out.size (ac _));have HC4:=aa hc;clear hc hm
  go_wp2_with fail
  refine(dG w.heap.size (2+m) s 0 _ HC4.out).mono ?_;rintro e w4 ⟨rfl,rfl⟩
  go_wp2_with fail
  refine(E8 w.heap.size (2+m) s 0 _ HC4.out).mono ?_;rintro e w4 ⟨rfl,rfl⟩
  go_wp2
  go_ret3
  exact⟨by rw[HX.out];rfl,HB3.out⟩
theorem rO (s:ByteArray) (w:World) (hs:s.size≤4611686018427387904):
  Calls Tryz.prog 103 #[.string s] w fun e w'=>e= .returned (.tuple #[.string (bL s).1,.int .i64 (bL s).2.1,.int .i64 (bL s).2.2])∧Below w.heap.size w w':=by
 have HE:Hid (bL s=if(dJ s).2.2=0∧bN (dJ s).1=false then(⟨#[]⟩,0,6)else dJ s):=aa rfl;have hz:(dJ s).1.size≤4611686018427387904:=by
  unfold dJ
  split
  ·exact ag _
  ·split
   ·exact ag _
   ·show(s.extract _ _).size≤_;rw[aj];omega
 go_enter Tryz.func103,Tryz.ntmps103
 go_wp2_with fail
 refine(zp s _ hs).mono ?_;rintro e w1 ⟨rfl,hb⟩;have HB:=aa hb;clear hb hs
 generalize dJ s=R at*;obtain⟨x,n,e⟩:=R;simp only at HE hz⊢
 by_cases h0:e=0
 ·subst h0
  go_wp2_with fail
  refine(fk x _ hz).mono ?_;rintro e w2 ⟨rfl,hb⟩;have HB2:=aa (HB.out.trans (hb.mono HB.out.size));clear hb
  cases hv:bN x
  ·have HX:Hid (bL s=(⟨#[]⟩,0,6)):=aa (by rw[HE.out];simp[hv]);clear hv
   go_wp2
   go_ret3
   exact⟨by rw[HX.out];rfl,HB2.out⟩
  ·have HX:Hid (bL s=(x,n,0)):=aa (by rw[HE.out];simp[hv]);clear hv
   go_wp2
   go_ret3
   exact⟨by rw[HX.out];rfl,HB2.out⟩
 ·have e0:(e==0)=false:=ar.2 h0;have HX:Hid (bL s=(x,n,e)):=aa (by rw[HE.out];simp[h0]);clear h0
  go_wp2
  go_ret3
  exact⟨by rw[HX.out];rfl,HB.out⟩
end Go.Proofs.YtpcleamaieaefaaGreatDoor
namespace Go.Proofs.YtpcleamaieaefaaGreatDoor
open Go.RowKit
attribute [local go_sem ↓] bD bF bH bI bu
attribute [local go_sem] bc aD bh bg bK bJ bd aY be aO ax cI dC dB dt dj di dA dr dp dn bW co bO bZ bX cz cy cw cu ct cC cn bS bP bR
def eU (f:Int) (t:ByteArray) (i:Int) (l:List Pr) (y:ByteArray):Pk:={pk0 with kind:=3,dup:=decide (8≤f),retain:=decide (f% 2=1),qos:=f/ 2% 4,id:=i,topic:=t,payload:=y,props:=l}
def hsP (A:Option Addr) (n:Nat):Hs:={hs0 with props:=⟨A,n⟩}
theorem zl (f:Int) (t:ByteArray) (w:World):(qP #[(0,.int .i64 3),(1,.bool (decide (8≤f))),(3,.int .i64 (f/ 2% 4)),(2,.bool (decide (f% 2=1))),(5,.string t)]).run Tryz.prog w= .ok (pkV (eU f t 0 [] ⟨#[]⟩) (hsP none 0)) w:=by kernel_rfl
theorem zr (f:Int) (t:ByteArray) (i:Int) (l:List Pr) (y:ByteArray):(eU f t i l y).qos=f/ 2% 4:=rfl
def iu (f:Int) (s:ByteArray):Nat:=if f/ 2% 4≠0 then(bL s).2.1+2 else(bL s).2.1
def mm (f:Int) (s:ByteArray):Int:=if f/ 2% 4≠0 then((es (ls (s.extract (bL s).2.1 ((bL s).2.1+2))):Nat):Int)else(0:Int)
def fG (v:Int) (f:Int) (s:ByteArray):List Pr×Nat×Int:=if v=5 then aZ 3 (s.extract (iu f s) s.size)else([],0,0)
def gI (v f:Int) (s:ByteArray):Pk:=eU f (bL s).1 (mm f s) (fG v f s).1 (s.extract (iu f s+(fG v f s).2.1) s.size)
def km (v f:Int) (s:ByteArray):Pk×Int:=
 if ba v=false then(pk0,2)else if eJ v f≠0 then(pk0,7)else if(bL s).2.2≠0 then(pk0,(bL s).2.2)
 else if f/ 2% 4≠0∧s.size<(bL s).2.1+2 then(pk0,3)else if(fG v f s).2.2≠0 then(pk0,(fG v f s).2.2)
 else if ii v (gI v f s)≠0 then(pk0,ii v (gI v f s))else(gI v f s,0)
theorem ut:∀f:Fin 16,(bits BinOp.and IntKind.i64 (f.1:Int) 8 !=0)=decide (8≤(f.1:Int))∧bits BinOp.and IntKind.i64 ((f.1:Int) / 2) 3=(f.1:Int) / 2% 4∧(bits BinOp.and IntKind.i64 (f.1:Int) 1 !=0)=decide ((f.1:Int) % 2=1):=by decide+kernel
structure PR (w:World) (g:Nat) (f:Int) (t:ByteArray) (i:Int) (l:List Pr) (y:ByteArray) (A:Option Addr) (n:Nat) (x:World):Prop where
 kept:Below w.heap.size w x
 res:Bk x w.heap.size PkT (pkC pk0 hs0)
 zero:Bk x (w.heap.size+1) PkT (pkC pk0 hs0)
 pk:Bk x g PkT (pkC (eU f t i l y) (hsP A n))
 rd:Rd x x.heap.size 4 A l.length (prs l)
 cap:l.length≤n
 base:w.heap.size+1<g
section
variable {w x y:World} {g:Nat} {f i:Int} {t u:ByteArray} {l:List Pr} {A:Option Addr} {n:Nat}
theorem PR.below (h:PR w g f t i l u A n x) (hb:Below x.heap.size x y):PR w g f t i l u A n y:=
 ⟨h.kept.trans (hb.mono h.kept.size),h.res.below hb h.res.lt,h.zero.below hb h.zero.lt,h.pk.below hb h.pk.lt,(h.rd.below hb).wider hb.size,h.cap,h.base⟩
theorem PR.set (h:PR w g f t i l u A n x) (k:Nat) (v:Value) {i':Int} {u':ByteArray} (he:(pkC (eU f t i l u) (hsP A n)).setIfInBounds k v=pkC (eU f t i' l u') (hsP A n)):PR w g f t i' l u' A n (x.setCell ⟨g,k,none⟩ v):=
 ⟨dw h.kept (cP x g k v) h.kept.size (by have:=h.base;omega),h.res.other (by have:=h.base;simp;omega) _,h.zero.other (by have:=h.base;simp;omega) _,h.pk.upd k v he,(h.rd.other h.pk (dY _ _) (cP x g k v) (ac _)).wider (cP x g k v).size,h.cap,h.base⟩
theorem PR.put (h:PR w g f t i l u A n x) {l':List Pr} {A':Option Addr} {n':Nat} (hr:Rd x x.heap.size 4 A' l'.length (prs l')) (hn:l'.length≤n'):PR w g f t i l' u A' n' (x.setCell ⟨g,24,none⟩ (.slice A' l'.length n')):=
 ⟨dw h.kept (cP x g 24 _) h.kept.size (by have:=h.base;omega),h.res.other (by have:=h.base;simp;omega) _,h.zero.other (by have:=h.base;simp;omega) _,h.pk.upd 24 _ rfl,(hr.other h.pk (dY _ _) (cP x g 24 _) (ac _)).wider (cP x g 24 _).size,hn,h.base⟩
theorem PR.into (h:PR w g f t i l u A n x):PkIn x x.heap.size (eU f t i l u) (hsP A n):=⟨Rd.nil _ _ _ _,Rd.nil _ _ _ _,Rd.nil _ _ _ _,h.rd,ag _,ag _,ag _,h.cap⟩
theorem PR.none (h:PR w g f t i l u A n x):Below w.heap.size w (dE x w.heap.size pk0 hs0)∧Bk (dE x w.heap.size pk0 hs0) w.heap.size PkT (pkC pk0 hs0):=⟨bT h.kept h.kept.size (ac _) _ _,cO h.res _ _⟩
theorem PR.some (h:PR w g f t i l u A n x):Below w.heap.size w (dE x w.heap.size (eU f t i l u) (hsP A n))∧Bk (dE x w.heap.size (eU f t i l u) (hsP A n)) w.heap.size PkT (pkC (eU f t i l u) (hsP A n))∧
  PkIn (dE x w.heap.size (eU f t i l u) (hsP A n)) (dE x w.heap.size (eU f t i l u) (hsP A n)).heap.size (eU f t i l u) (hsP A n):=
 ⟨bT h.kept h.kept.size (ac _) _ _,cO h.res _ _,Rd.nil _ _ _ _,Rd.nil _ _ _ _,Rd.nil _ _ _ _,(h.rd.other h.res (dY _ _) (cJ _ _ _ _) (ac _)).wider (cJ _ _ _ _).size,ag _,ag _,ag _,h.cap⟩
end
attribute [local go_sem] zl zr
theorem uO (v f:Int) (s:ByteArray) (w:World) (hs:s.size≤140737488351232):
  Calls Tryz.prog 184 #[.int .i64 v,.int .i64 f,.string s] w (mu (km v f s) w):=by
 have HS:=aa hs;have HB0:=aa (((aq w.heap.size w).alloc (ac _) (.cells (pkC pk0 hs0) PkT)).alloc ((aq w.heap.size w).alloc (ac _) (.cells (pkC pk0 hs0) PkT)).size (.cells (pkC pk0 hs0) PkT));have HR0:=aa ((Bk.fresh w PkT (pkC pk0 hs0)).alloc (.cells (pkC pk0 hs0) PkT));have HZ0:=aa (Bk.fresh (w.alloc (.cells (pkC pk0 hs0) PkT)) PkT (pkC pk0 hs0));rw[ey]at HZ0;have HE:Hid (km v f s=if ba v=false then(pk0,2)else if eJ v f≠0 then(pk0,7)else if(bL s).2.2≠0 then(pk0,(bL s).2.2)
  else if f/ 2% 4≠0∧s.size<(bL s).2.1+2 then(pk0,3)else if(fG v f s).2.2≠0 then(pk0,(fG v f s).2.2)
  else if ii v (gI v f s)≠0 then(pk0,ii v (gI v f s))else(gI v f s,0)):=aa rfl
 have hld:=cf HZ0.out;have hst:=aW HR0.out
 go_enter Tryz.func184,Tryz.ntmps184
 go_wp2_with fail
 refine(mZ v _).mono ?_;rintro e w1 ⟨rfl,rfl⟩;cases hk:ba v
 ·have HX:Hid (km v f s=(pk0,2)):=aa (by rw[HE.out,if_pos hk]);clear hk
  go_wp2
  refine av (aI rfl _ rfl (cO HR0.out _ _)) rfl ?_;exact cL HX.out (bT HB0.out HB0.out.size (ac _) _ _)
 have HK:=aa hk;have HE1:=HE.out;rw[ae (fun x=>by rw[hk]at x;cases x)]at HE1
 replace HE1:=aa HE1
 clear hk HE
 go_wp2_with fail
 refine(tm v f _).mono ?_;rintro e w1 ⟨rfl,hb⟩;have HB1:=aa (HB0.out.trans (hb.mono HB0.out.size));have HR1:=aa (HR0.out.below hb HR0.out.lt);have HZ1:=aa (HZ0.out.below hb HZ0.out.lt)
 clear hb hld hst;have hld:=cf HZ1.out;have hst:=aW HR1.out
 by_cases hc:eJ v f=0
 rotate_left
 ·have HX:Hid (km v f s=(pk0,7)):=aa (by rw[HE1.out,if_pos hc]);have e0:(eJ v f !=0)=true:=aA.2 hc;clear hc
  go_wp2
  refine av (aI rfl _ rfl (cO HR1.out _ _)) rfl ?_;exact cL HX.out (bT HB1.out HB1.out.size (ac _) _ _)
 have HF:Hid (0≤f∧f<16):=aa (by
  have h2:gd f=true:=by
   unfold eJ at hc;rw[ae (fun x=>by rw[HK.out]at x;cases x)]at hc;cases hh:gd f
   ·rw[hh,if_pos rfl]at hc;exact absurd hc (by decide)
   ·rfl
  have:=aR h2;omega)
 have HE2:=HE1.out;rw[hc,ae (fun x=>x rfl)]at HE2
 replace HE2:=aa HE2
 have e0:(eJ v f !=0)=false:=by rw[hc];rfl
 clear hc HE1
 go_wp2_with fail
 refine(rO s _ (by have:=HS.out;omega)).mono ?_;rintro e w2 ⟨rfl,hb⟩;have HB2:=aa (HB1.out.trans (hb.mono HB1.out.size));have HR2:=aa (HR1.out.below hb HR1.out.lt);have HZ2:=aa (HZ1.out.below hb HZ1.out.lt)
 clear hb hld hst e0;have hld:=cf HZ2.out;have hst:=aW HR2.out;have HFull:Hid (gI v f s=eU f (bL s).1 (mm f s) (fG v f s).1 (s.extract (iu f s+(fG v f s).2.1) s.size)):=aa rfl;have HId:Hid (mm f s=if f/ 2% 4≠0 then((es (ls (s.extract (bL s).2.1 ((bL s).2.1+2))):Nat):Int)else(0:Int)):=aa rfl;have HAt:Hid (iu f s=if f/ 2% 4≠0 then(bL s).2.1+2 else(bL s).2.1):=aa rfl;have HPr:Hid (fG v f s=if v=5 then aZ 3 (s.extract (iu f s) s.size)else([],0,0)):=aa rfl;have HUok:Hid ((bL s).2.1≤s.size∧(bL s).1.size≤s.size):=aa (by
  unfold bL dJ
  split
  ·exact⟨ag _,ag _⟩
  ·split
   ·exact⟨ag _,ag _⟩
   ·split
    ·exact⟨ag _,ag _⟩
    ·refine⟨by show 2+br s 0 0 2≤s.size;omega,?_⟩;show(s.extract _ _).size≤_;rw[aj];omega)
 generalize bL s=R at*;obtain⟨t,m,x⟩:=R;simp only at HE2 HFull HId HAt HUok⊢
 by_cases hx:x=0
 rotate_left
 ·have HX:Hid (km v f s=(pk0,x)):=aa (by rw[HE2.out,if_pos hx]);have e0:(x !=0)=true:=aA.2 hx;clear hx
  go_wp2
  refine av (aI rfl _ rfl (cO HR2.out _ _)) rfl ?_;exact cL HX.out (bT HB2.out HB2.out.size (ac _) _ _)
 subst hx;have HE3:=HE2.out;rw[ae (fun x=>x rfl)]at HE3
 replace HE3:=aa HE3
 clear HE2;have hfl:=ut ⟨f.toNat,by have:=HF.out;omega⟩;rw[show(((⟨f.toNat,by have:=HF.out;omega⟩:Fin 16).1:Nat):Int)=f by have:=HF.out;simp;omega]at hfl;obtain⟨g1,g2,g3⟩:=hfl;have P0:Hid (PR w w2.heap.size f t 0 [] ⟨#[]⟩ none 0 (w2.alloc (.cells (pkC (eU f t 0 [] ⟨#[]⟩) (hsP none 0)) PkT))):=aa ⟨HB2.out.alloc HB2.out.size _,HR2.out.alloc _,HZ2.out.alloc _,Bk.fresh _ _ _,Rd.nil _ _ _ _,ac _,HZ2.out.lt⟩;clear hld hst
 go_upto_if 50 with fail
 have P0':=P0.out;have hq:(w2.alloc (.cells (pkC (eU f t 0 [] ⟨#[]⟩) (hsP none 0)) PkT)).cell? ⟨w2.heap.size,3,none⟩=some (.int .i64 (f/ 2% 4)):=P0'.pk.cell 3
 by_cases hsh:f/ 2% 4≠0∧s.size<m+2
 ·have HX:Hid (km v f s=(pk0,3)):=aa (by rw[HE3.out,if_pos hsh]);have e0:(f/ 2% 4 !=0)=true:=aA.2 hsh.1;have hlt:(s.size:Int) - (m:Int)<2:=by omega
  have hw:IntKind.i64.wrap ((s.size:Int) - (m:Int))=(s.size:Int) - (m:Int):=by rw[aQ];have:=HS.out;have:=HUok.out;omega
  have hld:=cf P0'.zero;have hst:=aW P0'.res;clear hq P0' hsh g1 g2 g3
  go_wp2
  refine av (aI rfl _ rfl P0.out.none.2) rfl ?_;exact cL HX.out P0.out.none.1
 have HE4:=HE3.out;rw[ae hsh]at HE4
 replace HE4:=aa HE4
 have HSH:=aa hsh;clear hq P0' hsh HE3 g1 g2 g3
 go_cut [10] (fun a wx=>a= .int .i64 (iu f s:Nat)∧PR w w2.heap.size f t (mm f s) [] ⟨#[]⟩ none 0 wx)
 case first=>
  have P0':=P0.out;have hq:(w2.alloc (.cells (pkC (eU f t 0 [] ⟨#[]⟩) (hsP none 0)) PkT)).cell? ⟨w2.heap.size,3,none⟩=some (.int .i64 (f/ 2% 4)):=P0'.pk.cell 3
  by_cases h0:f/ 2% 4=0
  ·have e0:(f/ 2% 4 !=0)=false:=by simpa using h0
   have HA:Hid (iu f s=m):=aa (by rw[HAt.out,ae (fun x=>x h0)]);have HI:Hid (mm f s=0):=aa (by rw[HId.out,ae (fun x=>x h0)]);clear h0 P0'
   go_wp2
   go_meet
   case rel=>exact⟨by rw[HA.out],by rw[HI.out];exact P0.out⟩
  ·have e0:(f/ 2% 4 !=0)=true:=aA.2 h0;have hsz:m+2≤s.size:=by
    have:=HSH.out
    by_cases h:s.size<m+2
    ·exact absurd ⟨h0,h⟩ this
    ·omega
   have HA:Hid (iu f s=m+2):=aa (by rw[HAt.out,if_pos h0]);have HI:Hid (mm f s=((es (ls (s.extract m (m+2))):Nat):Int)):=aa (by rw[HId.out,if_pos h0]);have hG:es (ls (s.extract m (m+2)))<65536:=by
    have h1:=ka (ls (s.extract m (m+2)));have h2:(ls (s.extract m (m+2))).length=2:=by rw[aN,aj];omega
    rw[h2]at h1;exact h1
   have hlt:(2:Int)≤(s.size:Int) - (m:Int):=by omega
   have hw:IntKind.i64.wrap ((s.size:Int) - (m:Int))=(s.size:Int) - (m:Int):=by rw[aQ];have:=HS.out;omega
   have hw2:IntKind.i64.wrap ((m:Int)+2)=(m:Int)+2:=by rw[aQ];have:=HS.out;omega
   have b1:(0:Int)≤(m:Int):=by omega
   have b2:(m:Int)+2≤(s.size:Int):=by omega
   have hsz2:(s.extract m (m+2)).size≤8:=by rw[aj];omega
   have HSZ:=aa hsz2;have HG:=aa hG;have hw3:IntKind.i64.wrap ((es (ls (s.extract m (m+2))):Nat):Int)=((es (ls (s.extract m (m+2))):Nat):Int):=by rw[aQ];omega
   have k4:(w2.alloc (.cells (pkC (eU f t 0 [] ⟨#[]⟩) (hsP none 0)) PkT)).cell? ⟨w2.heap.size,4,none⟩=some (.int .i64 0):=P0'.pk.cell 4;have f4:=P0'.pk.free 4;clear h0 P0' hsz hsz2 hG
   go_wp2_with fail
   refine(jA _ _ HSZ.out).mono ?_;rintro e w3 ⟨rfl,rfl⟩;have P2:Hid (∀I:Int,PR w w2.heap.size f t I [] ⟨#[]⟩ none 0 (w2.alloc (.cells ((pkC (eU f t 0 [] ⟨#[]⟩) (hsP none 0)).setIfInBounds 4 (.int .i64 I)) PkT))):=aa fun I=>⟨HB2.out.alloc HB2.out.size _,HR2.out.alloc _,HZ2.out.alloc _,Bk.fresh w2 PkT (pkC (eU f t I [] ⟨#[]⟩) (hsP none 0)),Rd.nil _ _ _ _,ac _,HZ2.out.lt⟩;generalize es (ls (s.extract m (m+2)))=I at*
   go_wp2
   go_meet
   case rel=>exact⟨by rw[HA.out];rfl,by rw[HI.out];exact P2.out _⟩
 case rest=>
  obtain⟨rfl,h⟩:=hcut;have P1:=aa h;clear h;have HAle:Hid (iu f s≤s.size):=aa (by
   rw[HAt.out];have h1:=HSH.out;have h2:=HUok.out
   by_cases h0:f/ 2% 4≠0
   ·rw[if_pos h0]
    by_cases h:s.size<m+2
    ·exact absurd ⟨h0,h⟩ h1
    ·omega
   ·rw[ae h0];exact h2.1)
  generalize iu f s=a at*;generalize mm f s=j at*;have HV:Hid (∀l n,fG v f s=(l,n,0)→((ii v (eU f t j l (s.extract (a+n) s.size))=0∧km v f s=(eU f t j l (s.extract (a+n) s.size),0))∨(ii v (eU f t j l (s.extract (a+n) s.size))≠0∧km v f s=(pk0,ii v (eU f t j l (s.extract (a+n) s.size)))))):=aa (by
   intro l n h;have h2:=HE4.out;have h3:=HFull.out;rw[h]at h2 h3;rw[ae (fun x=>x rfl)]at h2;rw[h3]at h2
   by_cases h4:ii v (eU f t j l (s.extract (a+n) s.size))=0
   ·exact .inl ⟨h4,by rw[h2];simp[h4]⟩
   ·exact .inr ⟨h4,by rw[h2];simp[h4]⟩)
  have HOK:Hid (∀l n,(∀p∈l,ea p)→l.length≤1000→PkOk (eU f t j l (s.extract (a+n) s.size))):=aa (by
   intro l n h1 h2;refine⟨?_,h1,?_,?_,?_⟩
   ·intro q hq;cases hq
   ·intro q hq;cases hq
   ·have:=HUok.out.2;have:=HS.out;refine⟨by show t.size≤_;omega,?_,?_⟩
    ·show(s.extract _ _).size≤_;rw[aj];omega
    ·exact⟨ag _,ag _,ag _,ag _,ag _⟩
   ·exact⟨ag _,ag _,ag _,by show l.length≤_;omega⟩)
  clear HFull HId HAt
  by_cases h5:v=5
  ·subst h5;have HP:Hid (fG 5 f s=aZ 3 (s.extract a s.size)):=aa (by rw[HPr.out,if_pos rfl]);have hle:(a:Int)≤(s.size:Int):=by have:=HAle.out;omega
   have h0:(0:Int)≤(a:Int):=by omega
   have HBad:Hid (∀l n x,fG 5 f s=(l,n,x)→x≠0→km 5 f s=(pk0,x)):=aa (by
    intro l n x h hx;have h2:=HE4.out;rw[h,if_pos hx]at h2;exact h2)
   have hs2:(s.extract a s.size).size≤140737488351232:=by rw[aj];have:=HS.out;omega
   have HLB:Hid ((aZ 3 (s.extract a s.size)).2.2=0→a+(aZ 3 (s.extract a s.size)).2.1≤s.size):=aa (by
    intro h0;have h1:(aZ 3 (s.extract a s.size)).2.1≤(s.extract a s.size).size:=(fd (kind:=3) (s:=s.extract a s.size) (l:=(aZ 3 (s.extract a s.size)).1) (n:=(aZ 3 (s.extract a s.size)).2.1) (by rw[←h0])).2.2;rw[aj]at h1;have:=HAle.out;omega)
   have HS2:=aa hs2;clear HPr HE4 hs2
   go_wp2_with fail
   refine(kl 3 (s.extract a s.size) _ HS2.out).mono ?_;rintro e w4 ⟨A,cp,rfl,hcap,hrd,hb⟩;have P2:=aa (P1.out.below hb);have HGD:=aa (iT (kind:=3) HS2.out);have HLN:=aa (kj (kind:=3) (s:=s.extract a s.size));generalize aZ 3 (s.extract a s.size)=R at*;obtain⟨l,n,x⟩:=R;simp only at hcap hrd HLB HGD HLN⊢
   by_cases hx:x=0
   rotate_left
   ·have e0:(x !=0)=true:=aA.2 hx;have HR:=aa (HBad.out l n x HP.out hx);have hld:=cf P2.out.zero;have hst:=aW P2.out.res;clear hx hb hcap hrd
    go_wp2
    refine av (aI rfl _ rfl P2.out.none.2) rfl ?_;exact cL HR.out P2.out.none.1
   subst hx;have P3:=aa (P2.out.put hrd hcap);have P4:=aa (P3.out.set 6 (.string (s.extract (a+n) s.size)) (i':=j) (u':=s.extract (a+n) s.size) rfl);have HW:=aa (HV.out l n HP.out);have HO:=aa (HOK.out l n HGD.out (HLN.out rfl));have hw:IntKind.i64.wrap ((a:Int)+(n:Int))=(a:Int)+(n:Int):=by rw[aQ];have:=HLB.out rfl;have:=HS.out;omega
   have hle2:(a:Int)+(n:Int)≤(s.size:Int):=by have:=HLB.out rfl;omega
   have h02:(0:Int)≤(a:Int)+(n:Int):=by omega
   have k24:w4.cell? ⟨w2.heap.size,24,none⟩=some (.slice none 0 0):=P2.out.pk.cell 24;have f24:=P2.out.pk.free 24;have k6:(w4.setCell ⟨w2.heap.size,24,none⟩ (.slice A l.length cp)).cell? ⟨w2.heap.size,6,none⟩=some (.string ⟨#[]⟩):=P3.out.pk.cell 6;have f6:=P3.out.pk.free 6;have k6':w4.cell? ⟨w2.heap.size,6,none⟩=some (.string ⟨#[]⟩):=P2.out.pk.cell 6;have f6':=P2.out.pk.free 6;have hl:=cf P4.out.pk;clear hb hcap hrd HV HOK HBad HGD HLN HP HLB
   go_wp2_with fail
   refine(mY 5 (eU f t j l (s.extract (a+n) s.size)) _ _ P4.out.into HO.out).mono ?_;rintro e w5 ⟨rfl,hb⟩;have P5:=aa (P4.out.below hb);clear hb hl k6 f6 k24 f24 k6' f6'
   generalize s.extract (a+n) s.size=y at*;generalize ii 5 (eU f t j l y)=E at*;have hl:=cf P5.out.pk;have hld:=cf P5.out.zero;have hst:=aW P5.out.res;rcases HW.out with ⟨h2,hr⟩ | ⟨h2,hr⟩
   ·subst h2;have HR:=aa hr;clear hr
    go_wp2
    refine av (aI rfl _ rfl P5.out.some.2.1) rfl ?_;exact fo HR.out P5.out.some.2.2 P5.out.some.1
   ·have e0:(E !=0)=true:=aA.2 h2;have HR:=aa hr;clear hr h2
    go_wp2
    refine av (aI rfl _ rfl P5.out.none.2) rfl ?_;exact cL HR.out P5.out.none.1
  ·have e5:(v==5)=false:=ar.2 h5;have hpr:fG v f s=([],0,0):=by rw[HPr.out,ae h5]
   have HW:=aa (HV.out [] 0 hpr);rw[jV]at HW;have HO:=HOK.out [] 0 (by simp) (by simp);rw[jV]at HO
   replace HO:=aa HO
   have hle:(a:Int)≤(s.size:Int):=by have:=HAle.out;omega
   have h0:(0:Int)≤(a:Int):=by omega
   have P2:=aa (P1.out.set 6 (.string (s.extract a s.size)) (i':=j) (u':=s.extract a s.size) rfl);have k6:wc.cell? ⟨w2.heap.size,6,none⟩=some (.string ⟨#[]⟩):=P1.out.pk.cell 6;have f6:=P1.out.pk.free 6;have hl:=cf P2.out.pk;clear h5 hpr HPr HV HOK HE4
   go_wp2_with fail
   refine(mY v (eU f t j [] (s.extract a s.size)) _ _ P2.out.into HO.out).mono ?_;rintro e w4 ⟨rfl,hb⟩;have P3:=aa (P2.out.below hb);clear hb hl k6 f6
   generalize s.extract a s.size=y at*;generalize ii v (eU f t j [] y)=E at*;have hl:=cf P3.out.pk;have hld:=cf P3.out.zero;have hst:=aW P3.out.res;rcases HW.out with ⟨h2,hr⟩ | ⟨h2,hr⟩
   ·subst h2;have HR:=aa hr;clear hr
    go_wp2
    refine av (aI rfl _ rfl P3.out.some.2.1) rfl ?_;exact fo HR.out P3.out.some.2.2 P3.out.some.1
   ·have e0:(E !=0)=true:=aA.2 h2;have HR:=aa hr;clear hr h2
    go_wp2
    refine av (aI rfl _ rfl P3.out.none.2) rfl ?_;exact cL HR.out P3.out.none.1
end Go.Proofs.YtpcleamaieaefaaGreatDoor
namespace Go.Proofs.YtpcleamaieaefaaGreatDoor
open Go.RowKit
theorem oa (t r:ByteArray):ls (cQ t++r)=da t.size 2++(ls t++ls r):=by
 unfold cQ;rw[fe,fe,jo,List.append_assoc]
theorem wB {s t:ByteArray} {n:Nat} (h:bL s=(t,n,0)):s=cQ t++s.extract n s.size∧t.size<65536∧bN t=true∧n=2+t.size∧n≤s.size:=by
 have hb:dJ s=(t,n,0)∧bN t=true:=by
  unfold bL at h
  by_cases hc:(dJ s).2.2=0∧bN (dJ s).1=false
  ·rw[if_pos hc]at h;cases h
  ·rw[ae hc]at h;refine⟨h,?_⟩;cases hv:bN t
   ·exact absurd ⟨by rw[h],by rw[h];exact hv⟩ hc
   ·rfl
 obtain⟨hb,hv⟩:=hb;unfold dJ at hb
 by_cases h1:s.size<2
 ·rw[if_pos h1]at hb;cases hb
 rw[ae h1]at hb
 by_cases h2:s.size<2+br s 0 0 2
 ·rw[if_pos h2]at hb;cases hb
 rw[ae h2]at hb;simp only[bG]at hb;obtain⟨hx,rfl,-⟩:=hb;have hnum:br s 0 0 2=es ((ls s).take 2):=by
  unfold br;rw[show(2:Int)=((2:Nat):Int)from rfl,dZ (by omega),db,cS]
 have hl2:((ls s).take 2).length=2:=by rw[cY,aN];omega
 have hlt:br s 0 0 2<65536:=by
  rw[hnum];have:=ka ((ls s).take 2);rw[hl2]at this;exact this
 have htz:t.size=br s 0 0 2:=by rw[←hx,aj];omega
 refine⟨eX ?_,by omega,hv,by omega,by omega⟩;rw[oa,ju,htz,hnum,lm _ hl2,←hx,db,←hnum,←List.append_assoc];have e1:List.drop (2+br s 0 0 2) (ls s)=List.drop (br s 0 0 2) (List.drop 2 (ls s)):=by rw[et]
 rw[e1,List.append_assoc,cg,cg]
theorem BG (v:Int) (p:Pk) (y:ByteArray):ls (ys v p++y)=(da p.topic.size 2++ls p.topic)++((if p.qos≠0 then da p.id.toNat 2 else [])++((if v=5 then(aM p.kind p.props).1 else [])++ls y)):=by
 unfold ys BH cQ
 by_cases h5:v=5<;>by_cases h0:p.qos≠0
 ·rw[if_pos h5,if_pos h0,if_pos h0,if_pos h5];simp only[fe,jo,List.append_assoc]
 ·rw[if_pos h5,ae h0,ae h0,if_pos h5];simp only[fe,jo,List.append_assoc,dX]
 ·rw[ae h5,if_pos h0,if_pos h0,ae h5];simp only[fe,jo,List.append_assoc,dX]
 ·rw[ae h5,ae h0,ae h0,ae h5];simp only[fe,jo,List.append_assoc,dX]
theorem Ea {v f:Int} {s:ByteArray} {q:Pk} (h:km v f s=(q,0)):ba v=true∧eJ v f=0∧(bL s).2.2=0∧¬(f/ 2% 4≠0∧s.size<(bL s).2.1+2)∧(fG v f s).2.2=0∧ii v (gI v f s)=0∧q=gI v f s:=by
 unfold km at h
 by_cases h1:ba v=false
 ·rw[if_pos h1]at h;cases h
 rw[ae h1]at h
 by_cases h2:eJ v f≠0
 ·rw[if_pos h2]at h;cases h
 rw[ae h2]at h
 by_cases h3:(bL s).2.2≠0
 ·rw[if_pos h3]at h;exact absurd (congrArg Prod.snd h) h3
 rw[ae h3]at h
 by_cases h4:f/ 2% 4≠0∧s.size<(bL s).2.1+2
 ·rw[if_pos h4]at h;cases h
 rw[ae h4]at h
 by_cases h5:(fG v f s).2.2≠0
 ·rw[if_pos h5]at h;exact absurd (congrArg Prod.snd h) h5
 rw[ae h5]at h
 by_cases h6:ii v (gI v f s)≠0
 ·rw[if_pos h6]at h;exact absurd (congrArg Prod.snd h) h6
 rw[ae h6]at h;exact⟨by simpa using h1,aU.1 h2,aU.1 h3,h4,aU.1 h5,aU.1 h6,(congrArg Prod.fst h).symm⟩
theorem wD {v f:Int} (hk:ba v=true) (hc:eJ v f=0) (t:ByteArray) (i:Int) (l:List Pr) (y:ByteArray):ke (eU f t i l y)=f:=by
 have h2:gd f=true:=by
  unfold eJ at hc;rw[ae (fun x=>by rw[hk]at x;cases x)]at hc;cases hh:gd f
  ·rw[hh,if_pos rfl]at hc;exact absurd hc (by decide)
  ·rfl
 have:=aR h2;show 2*(f/ 2% 4)+(if decide (f% 2=1)=true then 1 else 0)+(if decide (8≤f)=true then 8 else 0)=f;clear h2 hc hk;obtain rfl| rfl| rfl| rfl| rfl| rfl| rfl| rfl| rfl| rfl:=this
 all_goals decide
theorem zy {v f:Int} {s:ByteArray} {q:Pk} (h:km v f s=(q,0)):ii v q=0∧ys v q++q.payload=s∧ke q=f:=by
 obtain⟨hk,hc,hu,hs,hp,he,rfl⟩:=Ea h;refine⟨he,?_,wD hk hc _ _ _ _⟩;have hR:bL s=((bL s).1,(bL s).2.1,0):=by rw[←hu]
 obtain⟨hs1,htz,hv,hn,hle⟩:=wB hR;have hls:ls s=(da (bL s).1.size 2++ls (bL s).1)++(ls s).drop (bL s).2.1:=by
  have:=congrArg ls hs1;rw[oa,ju,←List.append_assoc]at this;exact this
 have hD:(ls s).drop (bL s).2.1=(if f/ 2% 4≠0 then da (mm f s).toNat 2 else [])++(ls s).drop (iu f s):=by
  unfold mm iu
  by_cases h0:f/ 2% 4≠0
  ·rw[if_pos h0,if_pos h0,if_pos h0,dN,db,lm _ (by
    rw[cY,bU,aN];have:¬s.size<(bL s).2.1+2:=fun z=>hs ⟨h0,z⟩;omega),←et,cg]
  ·rw[ae h0,ae h0];rfl
 have hP:(ls s).drop (iu f s)=(if v=5 then(aM 3 (fG v f s).1).1 else [])++(ls s).drop (iu f s+(fG v f s).2.1):=by
  unfold fG at hp⊢
  by_cases h5:v=5
  ·rw[if_pos h5]at hp⊢;rw[if_pos h5];have hb:=(fd (kind:=3) (s:=s.extract (iu f s) s.size) (l:=(aZ 3 (s.extract (iu f s) s.size)).1) (n:=(aZ 3 (s.extract (iu f s) s.size)).2.1) (by rw[←hp])).2.1;rw[hb,ju,←et,cg]
  ·rw[ae h5,ae h5];rfl
 refine eX ?_;rw[BG];show(da (bL s).1.size 2++ls (bL s).1)++((if f/ 2% 4≠0 then da (mm f s).toNat 2 else [])++((if v=5 then(aM 3 (fG v f s).1).1 else [])++ls (s.extract (iu f s+(fG v f s).2.1) s.size)))=ls s;rw[ju,←hP,←hD,←hls]
end Go.Proofs.YtpcleamaieaefaaGreatDoor
namespace Go.Proofs.YtpcleamaieaefaaGreatDoor
open Go.RowKit
attribute [local go_sem ↓] bD bF bH bI bu
attribute [local go_sem] bc aD bh bg bK bJ bd aY be aO ax cI dC dB dt dj di dA dr dp dn bW co bO bZ bX cz cy cw cu ct cC cn bS bP bR
theorem D9 {v f:Int} {s:ByteArray} (hs:s.size≤140737488351232):PkOk (km v f s).1:=by
 have h0:PkOk pk0:=iw (k:=0) (i:=0) (c:=0) (l:=[]) (by simp) (by simp);have hx:∀a b,(s.extract a b).size≤140737488351232:=fun a b=>by rw[aj];omega
 have hU:(bL s).1.size≤140737488351232:=by
  have z:(⟨#[]⟩:ByteArray).size≤140737488351232:=by decide
  unfold bL dJ
  split
  ·exact z
  ·split
   ·exact z
   ·split
    ·exact z
    ·exact hx _ _
 have hpre:PkOk (gI v f s):=by
  unfold gI;refine⟨?_,?_,?_,?_,?_⟩
  ·intro q hq;cases hq
  ·show ∀q∈(fG v f s).1,ea q;unfold fG
   split
   ·exact iT (hx _ _)
   ·intro q hq;cases hq
  ·intro q hq;cases hq
  ·exact⟨hU,hx _ _,ag _,ag _,ag _,ag _,ag _⟩
  ·refine⟨ag _,ag _,ag _,?_⟩;show(fG v f s).1.length≤_;unfold fG
   split
   ·by_cases h:(aZ 3 (s.extract (iu f s) s.size)).2.2=0
    ·have:=kj h;omega
    ·rw[fZ h];exact ag _
   ·exact ag _
 unfold km
 repeat' split
 all_goals first| exact h0| exact hpre
section
variable {w W x y:World} {g0 g1:Nat} {p:Pk} {h k:Hs} {Y:ByteArray}
end
end Go.Proofs.YtpcleamaieaefaaGreatDoor
namespace Go.Proofs.YtpcleamaieaefaaGreatDoor
open Go.RowKit
attribute [local go_sem ↓] bD bF bH bI bu
attribute [local go_sem] bc aD bh bg bK bJ bd aY be aO ax cI dC dB dt dj di dA dr dp dn bW co bO bZ bX cz cy cw cu ct cC cn bS bP bR
attribute [local go_sem ↓high] bu sD sE
attribute [local go_sem ↓] wh
attribute [local go_sem] Cv BD mX uw pU sO ta yp s9 yo sZ yn sV ym sU yl sT yk sS yj sR yi sQ yh sP yg pC uI pB uH pA uG py uF pu uE pr uC pq uB pp uA po uz pm uy pj ux sY pX sX pW sW pV
def gm (k:Int):Bool:=decide (k=1∨k=2)
theorem np (v:Int) (w:World):Calls Tryz.prog 245 #[.int .i64 v] w fun e w'=>e= .returned (.bool (ba v))∧w=w':=by
 go_enter Tryz.func245,Tryz.ntmps245
 go_wp2
 all_goals
  go_ret
  refine⟨eT ?_,rfl⟩;unfold ba
  by_cases h4:v=4<;>by_cases h5:v=5<;>simp_all
theorem oU (k:Int) (w:World):Calls Tryz.prog 246 #[.int .i64 k] w fun e w'=>e= .returned (.bool (gm k))∧w=w':=by
 go_enter Tryz.func246,Tryz.ntmps246
 go_wp2
 all_goals
  go_ret
  refine⟨eT ?_,rfl⟩;unfold gm
  by_cases h4:k=1<;>by_cases h5:k=2<;>simp_all
def kS (p:Pk):Pk:=
 if p.kind=2 then {pk0 with kind:=p.kind,props:=p.props,session:=p.session,code:=p.code}
 else {pk0 with kind:=p.kind,props:=p.props,clean:=p.clean,alive:=p.alive,client:=p.client,hasWill:=p.hasWill,will:=(if p.hasWill=true then p.will else wl0),hasUser:=p.hasUser,user:=(if p.hasUser=true then p.user else⟨#[]⟩),hasPass:=p.hasPass,pass:=(if p.hasPass=true then p.pass else⟨#[]⟩)}
def qJ (p:Pk) (h:Hs):Hs:={hs0 with props:=h.props,wp:=(if p.kind≠2∧p.hasWill=true then h.wp else hd0)}
theorem qI {p:Pk} (h:p.kind=2):kS p= {pk0 with kind:=p.kind,props:=p.props,session:=p.session,code:=p.code}:=by unfold kS;rw[if_pos h]
theorem vJ {p:Pk} (h:p.kind≠2) {a b c:Bool} (ha:p.hasWill=a) (hb:p.hasUser=b) (hc:p.hasPass=c):kS p= {pk0 with kind:=p.kind,props:=p.props,clean:=p.clean,alive:=p.alive,client:=p.client,hasWill:=a,will:=(if a=true then p.will else wl0),hasUser:=b,user:=(if b=true then p.user else⟨#[]⟩),hasPass:=c,pass:=(if c=true then p.pass else⟨#[]⟩)}:=by unfold kS;rw[ae h,ha,hb,hc]
theorem Dl {p:Pk} (x:gz p):gz (kS p):=by
 unfold kS
 split
 ·exact⟨ag _,ag _,ag _,x.2.2.2⟩
 ·refine⟨?_,ag _,ag _,x.2.2.2⟩;show(if p.hasWill=true then p.will else wl0).props.length≤_
  split
  ·exact x.1
  ·exact ag _
theorem E6 {w:World} {B:Nat} {p:Pk} {h:Hs} (x:PkIn w B p h):PkIn w B (kS p) (qJ p h):=by
 by_cases h2:p.kind=2
 ·have e1:qJ p h= {hs0 with props:=h.props}:=by unfold qJ;rw[ae (fun y=>y.1 h2)];rfl
  rw[qI h2,e1];exact⟨Rd.nil _ _ _ _,Rd.nil _ _ _ _,Rd.nil _ _ _ _,x.props,ag _,ag _,ag _,x.caps.2.2.2⟩
 ·rw[vJ h2 rfl rfl rfl];cases hw:p.hasWill
  ·have e1:qJ p h= {hs0 with props:=h.props}:=by unfold qJ;rw[ae (fun y=>by rw[hw]at y;cases y.2)];rfl
   rw[e1];exact⟨Rd.nil _ _ _ _,Rd.nil _ _ _ _,Rd.nil _ _ _ _,x.props,ag _,ag _,ag _,x.caps.2.2.2⟩
  ·have e1:qJ p h= {hs0 with props:=h.props,wp:=h.wp}:=by unfold qJ;rw[if_pos ⟨h2,hw⟩]
   rw[e1];exact⟨x.wp,Rd.nil _ _ _ _,Rd.nil _ _ _ _,x.props,x.caps.1,ag _,ag _,x.caps.2.2.2⟩
theorem zm (k:Int) (l:List Pr) (A:Option Addr) (n:Nat) (w:World):(qP #[(0,.int .i64 k),(20,.slice A l.length n)]).run Tryz.prog w= .ok (pkV {pk0 with kind:=k,props:=l} {hs0 with props:=⟨A,n⟩}) w:=by kernel_rfl
theorem ug (p:Pk) (h:Hs) (Q:Pk) (H:Hs) (x:World) (hq:kS p=Q) (hh:qJ p h=H) (hi:PkIn x x.heap.size p h) (hn:gz p):
  Calls Tryz.prog 105 #[pkV p h,pkV Q H] x fun e y=>e= .returned (.bool (decide (p=kS p)))∧Below x.heap.size x y:=by
 subst hq hh;exact jE p (kS p) h (qJ p h) x hi (E6 hi) hn (Dl hn)
theorem AB (p:Pk) (h:Hs) (w:World) (ip:PkIn w w.heap.size p h) (ok:PkOk p):
  Calls Tryz.prog 296 #[pkV p h] w fun e w'=>e= .returned (.bool (decide (p=kS p)))∧Below w.heap.size w w':=by
 have OK:=aa ok;have IP:=aa ip;obtain⟨W,hW,hst⟩:=mF w p {pk0 with kind:=p.kind,props:=p.props} h {hs0 with props:=⟨h.props.a,h.props.c⟩};have HW:=aa hW;have hlt:=hW.lt;have j0:=fun cs=>(hW.bk_pw cs).cell;have i0:=(Bk.fresh w PkT (pkC p h)).cell;have hl0:∀cs,(kZ (.pointer (some ⟨w.heap.size,0,none⟩))).run Tryz.prog (pw W (w.heap.size+1) cs).drew= .ok (pkV p h) (pw W (w.heap.size+1) cs).drew:=fun cs=>cf ((hW.bk_pw cs).drewN 1);have hl1:∀q k,(kZ (.pointer (some ⟨w.heap.size+1,0,none⟩))).run Tryz.prog (pw W (w.heap.size+1) (pkC q k)).drew= .ok (pkV q k) (pw W (w.heap.size+1) (pkC q k)).drew:=fun q k=>cf ((uJ W (w.heap.size+1) (pkC q k) hlt).drewN 1);have hlw:∀cs,(Ev (.pointer (some ⟨w.heap.size,15,none⟩))).run Tryz.prog (pw W (w.heap.size+1) cs).drew= .ok (wlV p.will h.wp) (pw W (w.heap.size+1) cs).drew:=fun cs=>Gj ((hW.bk_pw cs).drewN 1);have hbd:=zm p.kind p.props h.props.a h.props.c;have HQI:Hid (∀x,Below w.heap.size w x→PkIn x x.heap.size p h):=aa fun x hx=>(IP.out.below hx).wider hx.size;clear ip ok hW
 go_enter Tryz.func296,Tryz.ntmps296
 by_cases h2:p.kind=2
 ·have e2:(p.kind==2)=true:=aK.2 h2;have H2:=aa h2;clear h2
  go_wp2_with fail
  go_region
  go_wp2_with fail
  refine(ug p h _ _ _ ((qI H2.out).trans rfl) (by unfold qJ;rw[ae (fun y=>y.1 H2.out)];rfl) (HQI.out _ ((HW.out.kept _).drew)) OK.out.len).mono ?_;rintro e w1 ⟨rfl,hb⟩;have HB:=aa (((HW.out.kept _).drew).trans (hb.mono ((HW.out.kept _).drew).size));clear hb
  go_wp2
  go_ret
  exact⟨rfl,HB.out⟩
 ·have e2:(p.kind==2)=false:=ar.2 h2;have H2:=aa h2;clear h2
  go_wp2_with fail
  go_region
  cases ha:p.hasWill<;>cases hb:p.hasUser<;>cases hc:p.hasPass
  all_goals
   have HABC:=aa (And.intro ha (And.intro hb hc))
   go_wp2_with fail
   refine(ug p h _ _ _ ((vJ H2.out HABC.out.1 HABC.out.2.1 HABC.out.2.2).trans rfl)
    (by unfold qJ;first| (rw[ae (fun y=>by have:=HABC.out.1;rw[y.2]at this;cases this)];rfl) | (rw[if_pos ⟨H2.out,HABC.out.1⟩])) (HQI.out _ ((HW.out.kept _).drew)) OK.out.len).mono ?_
   rintro e w1 ⟨rfl,hb'⟩;have HB:=aa (((HW.out.kept _).drew).trans (hb'.mono ((HW.out.kept _).drew).size));clear hb'
   go_wp2
   go_ret
   exact⟨rfl,HB.out⟩
end Go.Proofs.YtpcleamaieaefaaGreatDoor
namespace Go.Proofs.YtpcleamaieaefaaGreatDoor
open Go.RowKit
attribute [local go_sem ↓] bD bF bH bI bu
attribute [local go_sem] bc aD bh bg bK bJ bd aY be aO ax cI dC dB dt dj di dA dr dp dn bW co bO bZ bX cz cy cw cu ct cC cn bS bP bR
def i9 (v:Int) (p:Pk):Bool:=if v=4 then ww p.code else may p.kind p.code
def dU (v:Int) (p:Pk):Bool:=
 if v=4∧0<p.props.length+p.will.props.length then false
 else if p.kind=2 then i9 v p&&(decide (p.code=0) || !p.session)
 else if v=4∧((p.client.size=0∧p.clean=false)∨(p.hasPass=true∧p.hasUser=false))then false
 else decide (0≤p.alive∧p.alive<65536∧0≤p.will.qos∧p.will.qos≤2)
theorem xx (v:Int) (p:Pk) (h:Hs) (w:World) (ip:PkIn w w.heap.size p h) (ok:PkOk p):
  Calls Tryz.prog 297 #[.int .i64 v,pkV p h] w fun e w'=>e= .returned (.bool (dU v p))∧Below w.heap.size w w':=by
 have OK:=aa ok;have S0:=aa ((St.start w).push ip);have HE:Hid (dU v p=if v=4∧0<p.props.length+p.will.props.length then false
  else if p.kind=2 then i9 v p&&(decide (p.code=0) || !p.session)
  else if v=4∧((p.client.size=0∧p.clean=false)∨(p.hasPass=true∧p.hasUser=false))then false
  else decide (0≤p.alive∧p.alive<65536∧0≤p.will.qos∧p.will.qos≤2)):=aa rfl
 have k0:=S0.out.cell 0 rfl;have hsum:IntKind.i64.wrap ((p.props.length:Int)+(p.will.props.length:Int))=(p.props.length:Int)+(p.will.props.length:Int):=by
  rw[aQ];have:=ok.lens;omega
 have hem:=kR p.client;clear ip ok
 go_enter Tryz.func297,Tryz.ntmps297
 by_cases h1:v=4∧0<p.props.length+p.will.props.length
 ·have HX:Hid (dU v p=false):=aa (by rw[HE.out,if_pos h1]);have e4:(v==4)=true:=aK.2 h1.1;have d1:(0:Int)<(p.props.length:Int)+(p.will.props.length:Int):=by omega
  clear h1
  go_wp2
  go_ret
  exact⟨by rw[HX.out];rfl,S0.out.kept⟩
 have HE1:Hid (dU v p=if p.kind=2 then i9 v p&&(decide (p.code=0) || !p.session)
  else if v=4∧((p.client.size=0∧p.clean=false)∨(p.hasPass=true∧p.hasUser=false))then false
  else decide (0≤p.alive∧p.alive<65536∧0≤p.will.qos∧p.will.qos≤2)):=aa (by rw[HE.out,ae h1])
 obtain⟨b4,hb4⟩:∃b:Bool,(v==4)=b:=⟨_,rfl⟩;have D1:b4=true→(p.props.length:Int)+(p.will.props.length:Int)≤0:=fun hb=>by
  have:v=4:=aK.1 (hb4.trans hb);have:=fun z=>h1 ⟨this,z⟩;omega
 have V4:(v=4)↔b4=true:=by rw[←hb4];exact aK.symm
 have HV4:=aa V4;clear h1 V4
 by_cases h2:p.kind=2
 ·have e2:(p.kind==2)=true:=aK.2 h2;have HE2:Hid (dU v p=(i9 v p&&(decide (p.code=0) || !p.session))):=aa (by rw[HE1.out,if_pos h2]);clear h2;cases b4
  ·have HC:Hid (i9 v p=may p.kind p.code):=aa (by unfold i9;rw[ae (fun y=>by have:=HV4.out.1 y;cases this)]);clear D1
   go_wp2_with fail
   refine(m7 p.kind p.code _).mono ?_;rintro e w1 ⟨rfl,hb⟩;have S1:=aa (S0.out.below hb);clear hb k0
   have k1:=S1.out.cell 0 rfl;cases hm:may p.kind p.code
   ·have HX:Hid (dU v p=false):=aa (by rw[HE2.out,HC.out,hm];rfl);clear hm
    go_wp2
    go_ret
    exact⟨by rw[HX.out];rfl,S1.out.kept⟩
   ·by_cases hc:p.code=0
    ·have ec:(p.code==0)=true:=aK.2 hc;have HX:Hid (dU v p=true):=aa (by rw[HE2.out,HC.out,hm,au hc];rfl);clear hm hc
     go_wp2
     go_ret
     exact⟨by rw[HX.out];rfl,S1.out.kept⟩
    ·have ec:(p.code==0)=false:=ar.2 hc;have HX:Hid (dU v p= !p.session):=aa (by rw[HE2.out,HC.out,hm,ah hc];rfl);clear hm hc
     go_wp2
     go_ret
     exact⟨by rw[HX.out];rfl,S1.out.kept⟩
  ·have HC:Hid (i9 v p=ww p.code):=aa (by unfold i9;rw[if_pos (HV4.out.2 rfl)]);have d1:=D1 rfl;clear D1
   go_wp2_with fail
   refine(m7 p.kind p.code _).mono ?_;rintro e w1 ⟨rfl,hb⟩;have S1:=aa (S0.out.below hb);clear hb k0
   have k1:=S1.out.cell 0 rfl
   go_wp2_with fail
   refine(wv p.code _).mono ?_;rintro e w2 ⟨rfl,rfl⟩;cases hm:ww p.code
   ·have HX:Hid (dU v p=false):=aa (by rw[HE2.out,HC.out,hm];rfl);clear hm
    go_wp2
    go_ret
    exact⟨by rw[HX.out];rfl,S1.out.kept⟩
   ·by_cases hc:p.code=0
    ·have ec:(p.code==0)=true:=aK.2 hc;have HX:Hid (dU v p=true):=aa (by rw[HE2.out,HC.out,hm,au hc];rfl);clear hm hc
     go_wp2
     go_ret
     exact⟨by rw[HX.out];rfl,S1.out.kept⟩
    ·have ec:(p.code==0)=false:=ar.2 hc;have HX:Hid (dU v p= !p.session):=aa (by rw[HE2.out,HC.out,hm,ah hc];rfl);clear hm hc
     go_wp2
     go_ret
     exact⟨by rw[HX.out];rfl,S1.out.kept⟩
 ·have e2:(p.kind==2)=false:=ar.2 h2;have HE2:Hid (dU v p=if v=4∧((p.client.size=0∧p.clean=false)∨(p.hasPass=true∧p.hasUser=false))then false
   else decide (0≤p.alive∧p.alive<65536∧0≤p.will.qos∧p.will.qos≤2)):=aa (by rw[HE1.out,ae h2])
  clear h2;have NUM:∀(hn:dU v p=decide (0≤p.alive∧p.alive<65536∧0≤p.will.qos∧p.will.qos≤2)),
   (¬0≤p.alive∧dU v p=false)∨(0≤p.alive∧¬p.alive<65536∧dU v p=false)∨(0≤p.alive∧p.alive<65536∧¬0≤p.will.qos∧dU v p=false)∨(0≤p.alive∧p.alive<65536∧0≤p.will.qos∧dU v p=decide (p.will.qos≤2)):=fun hn=>by
   rw[hn]
   by_cases a1:0≤p.alive
   ·by_cases a2:p.alive<65536
    ·by_cases a3:0≤p.will.qos
     ·exact .inr (.inr (.inr ⟨a1,a2,a3,eb.2 ⟨fun y=>y.2.2.2,fun y=>⟨a1,a2,a3,y⟩⟩⟩))
     ·exact .inr (.inr (.inl ⟨a1,a2,a3,ah (fun y=>a3 y.2.2.1)⟩))
    ·exact .inr (.inl ⟨a1,a2,ah (fun y=>a2 y.2.1)⟩)
   ·exact .inl ⟨a1,ah (fun y=>a1 y.1)⟩
  have HNUM:=aa NUM;clear NUM;cases b4
  ·have HN:=aa (HNUM.out (by rw[HE2.out,ae (fun y=>by have:=HV4.out.1 y.1;cases this)]));clear D1;rcases HN.out with ⟨a1,hx⟩ | ⟨a1,a2,hx⟩ | ⟨a1,a2,a3,hx⟩ | ⟨a1,a2,a3,hx⟩
   ·have HX:=aa hx;have a1':p.alive<0:=by omega
    clear hx a1
    go_wp2
    go_ret
    exact⟨by rw[HX.out];rfl,S0.out.kept⟩
   ·have HX:=aa hx;have a2':65536≤p.alive:=by omega
    clear hx a2
    go_wp2
    go_ret
    exact⟨by rw[HX.out];rfl,S0.out.kept⟩
   ·have HX:=aa hx;have a3':p.will.qos<0:=by omega
    clear hx a3
    go_wp2
    go_ret
    exact⟨by rw[HX.out];rfl,S0.out.kept⟩
   ·have HX:=aa hx;clear hx
    go_wp2
    go_ret
    exact⟨by rw[HX.out];rfl,S0.out.kept⟩
  ·have d1:=D1 rfl;clear D1
   by_cases hc:p.client.size=0∧p.clean=false
   ·have HX:Hid (dU v p=false):=aa (by rw[HE2.out,if_pos ⟨HV4.out.2 rfl,.inl hc⟩]);rw[au hc.1]at hem;have ec:=hc.2;clear hc
    go_wp2
    go_ret
    exact⟨by rw[HX.out];rfl,S0.out.kept⟩
   ·by_cases hq:p.hasPass=true∧p.hasUser=false
    ·have HX:Hid (dU v p=false):=aa (by rw[HE2.out,if_pos ⟨HV4.out.2 rfl,.inr hq⟩]);obtain⟨q1,q2⟩:=hq
     by_cases hz:p.client.size=0
     ·rw[au hz]at hem;have ec:p.clean=true:=by
       cases e:p.clean
       ·exact absurd ⟨hz,e⟩ hc
       ·rfl
      clear hc hz
      go_wp2
      go_ret
      exact⟨by rw[HX.out];rfl,S0.out.kept⟩
     ·rw[ah hz]at hem;clear hc hz
      go_wp2
      go_ret
      exact⟨by rw[HX.out];rfl,S0.out.kept⟩
    ·have HN:=aa (HNUM.out (by rw[HE2.out,ae (fun y=>y.2.elim hc hq)]));have HC:=aa (And.intro hc hq);have hcz:(p.client.toList.isEmpty=false)∨(p.client.toList.isEmpty=true∧p.clean=true):=by
      by_cases hz:p.client.size=0
      ·rw[au hz]at hem;refine .inr ⟨hem,?_⟩;cases e:p.clean
       ·exact absurd ⟨hz,e⟩ hc
       ·rfl
      ·rw[ah hz]at hem;exact .inl hem
     have hqz:p.hasPass=false∨(p.hasPass=true∧p.hasUser=true):=by
      cases e:p.hasPass
      ·exact .inl rfl
      ·refine .inr ⟨rfl,?_⟩;cases e2:p.hasUser
       ·exact absurd ⟨e,e2⟩ hq
       ·rfl
     clear hc hq hem;rcases hcz with z1| ⟨z1,z2⟩<;>rcases hqz with y1| ⟨y1,y2⟩
     all_goals
      rcases HN.out with ⟨a1,hx⟩ | ⟨a1,a2,hx⟩ | ⟨a1,a2,a3,hx⟩ | ⟨a1,a2,a3,hx⟩
      ·have HX:=aa hx;have a1':p.alive<0:=by omega
       clear hx a1
       go_wp2
       go_ret
       exact⟨by rw[HX.out];rfl,S0.out.kept⟩
      ·have HX:=aa hx;have a2':65536≤p.alive:=by omega
       clear hx a2
       go_wp2
       go_ret
       exact⟨by rw[HX.out];rfl,S0.out.kept⟩
      ·have HX:=aa hx;have a3':p.will.qos<0:=by omega
       clear hx a3
       go_wp2
       go_ret
       exact⟨by rw[HX.out];rfl,S0.out.kept⟩
      ·have HX:=aa hx;clear hx
       go_wp2
       go_ret
       exact⟨by rw[HX.out];rfl,S0.out.kept⟩
def kT (v:Int) (p:Pk):Bool:=ba v&&(gm p.kind&&(decide (p=kS p)&&dU v p))
def eR (v:Int) (p:Pk):Int:=
 if kT v p=false then 2
 else if bN p.client=false∨bN p.user=false then 6
 else if p.hasWill=true∧fp p.will.topic=false then 10
 else if 65535<p.will.payload.size∨65535<p.pass.size then 2
 else if(aM p.kind p.props).2≠0 then(aM p.kind p.props).2
 else(aM 16 p.will.props).2
theorem nn (v:Int) (p:Pk) (h:Hs) (w:World) (ip:PkIn w w.heap.size p h) (ok:PkOk p):
  Calls Tryz.prog 240 #[.int .i64 v,pkV p h] w fun e w'=>e= .returned (.int .i64 (eR v p))∧Below w.heap.size w w':=by
 have OK:=aa ok;have S0:=aa ((St.start w).push ip);have HE:Hid (eR v p=if kT v p=false then 2
  else if bN p.client=false∨bN p.user=false then 6
  else if p.hasWill=true∧fp p.will.topic=false then 10
  else if 65535<p.will.payload.size∨65535<p.pass.size then 2
  else if(aM p.kind p.props).2≠0 then(aM p.kind p.props).2
  else(aM 16 p.will.props).2):=aa rfl
 have HA:Hid (kT v p=(ba v&&(gm p.kind&&(decide (p=kS p)&&dU v p)))):=aa rfl;have k0:=S0.out.cell 0 rfl;have l0:=S0.out.ld 0 rfl;clear ip ok
 go_enter Tryz.func240,Tryz.ntmps240
 go_wp2_with fail
 refine(np v _).mono ?_;rintro e w1 ⟨rfl,rfl⟩;cases hk:ba v
 ·have HX:Hid (eR v p=2):=aa (by rw[HE.out,if_pos (by rw[HA.out,hk];rfl)]);clear hk
  go_wp2
  go_ret
  exact⟨by rw[HX.out];rfl,S0.out.kept⟩
 have HA1:Hid (kT v p=(gm p.kind&&(decide (p=kS p)&&dU v p))):=aa (by rw[HA.out,hk,aL]);clear hk
 go_wp2_with fail
 refine(oU p.kind _).mono ?_;rintro e w1 ⟨rfl,rfl⟩;cases hk:gm p.kind
 ·have HX:Hid (eR v p=2):=aa (by rw[HE.out,if_pos (by rw[HA1.out,hk];rfl)]);clear hk
  go_wp2
  go_ret
  exact⟨by rw[HX.out];rfl,S0.out.kept⟩
 have HA2:Hid (kT v p=(decide (p=kS p)&&dU v p)):=aa (by rw[HA1.out,hk,aL]);clear hk
 go_wp2_with fail
 refine(AB p h _ (S0.out.into 0 rfl) OK.out).mono ?_;rintro e w1 ⟨rfl,hb⟩;have S1:=aa (S0.out.below hb);clear hb k0 l0
 have k0:=S1.out.cell 0 rfl;have l0:=S1.out.ld 0 rfl
 by_cases hs:p=kS p
 rotate_left
 ·rw[ah hs];have HX:Hid (eR v p=2):=aa (by rw[HE.out,if_pos (by rw[HA2.out,ah hs];rfl)]);clear hs
  go_wp2
  go_ret
  exact⟨by rw[HX.out];rfl,S1.out.kept⟩
 rw[au hs];have HA3:Hid (kT v p=dU v p):=aa (by rw[HA2.out,au hs,aL]);clear hs
 go_wp2_with fail
 refine(xx v p h _ (S1.out.into 0 rfl) OK.out).mono ?_;rintro e w2 ⟨rfl,hb⟩;have S2:=aa (S1.out.below hb);clear hb k0 l0
 have k0:=S2.out.cell 0 rfl;cases hr:dU v p
 ·have HX:Hid (eR v p=2):=aa (by rw[HE.out,if_pos (by rw[HA3.out,hr])]);clear hr
  go_wp2
  go_ret
  exact⟨by rw[HX.out];rfl,S2.out.kept⟩
 have HE1:Hid (eR v p=if bN p.client=false∨bN p.user=false then 6
  else if p.hasWill=true∧fp p.will.topic=false then 10
  else if 65535<p.will.payload.size∨65535<p.pass.size then 2
  else if(aM p.kind p.props).2≠0 then(aM p.kind p.props).2
  else(aM 16 p.will.props).2):=aa (by rw[HE.out,ae (by rw[HA3.out,hr];decide)])
 clear hr
 go_wp2_with fail
 refine(fk p.client _ (by have:=OK.out.texts;omega)).mono ?_;rintro e w3 ⟨rfl,hb⟩;have S3:=aa (S2.out.below hb);clear hb k0
 have k0:=S3.out.cell 0 rfl;cases hc:bN p.client
 ·have HX:Hid (eR v p=6):=aa (by rw[HE1.out,if_pos (.inl hc)]);clear hc
  go_wp2
  go_ret
  exact⟨by rw[HX.out];rfl,S3.out.kept⟩
 go_wp2_with fail
 refine(fk p.user _ (by have:=OK.out.texts;omega)).mono ?_;rintro e w4 ⟨rfl,hb⟩;have S4:=aa (S3.out.below hb);clear hb k0
 have k0:=S4.out.cell 0 rfl;cases hu:bN p.user
 ·have HX:Hid (eR v p=6):=aa (by rw[HE1.out,if_pos (.inr hu)]);clear hc hu
  go_wp2
  go_ret
  exact⟨by rw[HX.out];rfl,S4.out.kept⟩
 have HE2:Hid (eR v p=if p.hasWill=true∧fp p.will.topic=false then 10
  else if 65535<p.will.payload.size∨65535<p.pass.size then 2
  else if(aM p.kind p.props).2≠0 then(aM p.kind p.props).2
  else(aM 16 p.will.props).2):=aa (by rw[HE1.out,ae (fun y=>y.elim (fun z=>by rw[hc]at z;cases z) (fun z=>by rw[hu]at z;cases z))])
 clear hc hu;obtain⟨hw,hhw⟩:∃b,p.hasWill=b:=⟨_,rfl⟩;cases hw
 ·have HE3:Hid (eR v p=if 65535<p.will.payload.size∨65535<p.pass.size then 2
   else if(aM p.kind p.props).2≠0 then(aM p.kind p.props).2
   else(aM 16 p.will.props).2):=aa (by rw[HE2.out,ae (fun y=>by rw[hhw]at y;cases y.1)])
  have S5:=S4
  by_cases hy:65535<p.will.payload.size
  ·have d1:(65535:Int)<(p.will.payload.size:Int):=by omega
   have HX:Hid (eR v p=2):=aa (by rw[HE3.out,if_pos (.inl hy)]);clear hy
   go_wp2
   go_ret
   exact⟨by rw[HX.out];rfl,S5.out.kept⟩
  have d1:(p.will.payload.size:Int)≤65535:=by omega
  by_cases hz:65535<p.pass.size
  ·have d2:(65535:Int)<(p.pass.size:Int):=by omega
   have HX:Hid (eR v p=2):=aa (by rw[HE3.out,if_pos (.inr hz)]);clear hy hz
   go_wp2
   go_ret
   exact⟨by rw[HX.out];rfl,S5.out.kept⟩
  have d2:(p.pass.size:Int)≤65535:=by omega
  have HE4:Hid (eR v p=if(aM p.kind p.props).2≠0 then(aM p.kind p.props).2 else(aM 16 p.will.props).2):=aa (by rw[HE3.out,ae (fun y=>y.elim hy hz)]);clear hy hz
  go_wp2_with fail
  refine(gu p.kind p.props _ rfl OK.out.props h.props.a h.props.c _ (S5.out.into 0 rfl).props OK.out.len.2.2.2).mono ?_;rintro e w6 ⟨rfl,hb⟩;have S6:=aa (S5.out.below hb);clear hb k0
  have k0:=S6.out.cell 0 rfl
  by_cases hp:(aM p.kind p.props).2=0
  rotate_left
  ·have e0:((aM p.kind p.props).2 !=0)=true:=aA.2 hp;have HX:Hid (eR v p=(aM p.kind p.props).2):=aa (by rw[HE4.out,if_pos hp]);clear hp
   go_wp2
   go_ret
   exact⟨by rw[HX.out];rfl,S6.out.kept⟩
  rw[hp];have HX:Hid (eR v p=(aM 16 p.will.props).2):=aa (by rw[HE4.out,ae (fun y=>y hp)]);clear hp
  go_wp2_with fail
  refine(gu 16 p.will.props _ rfl OK.out.wp h.wp.a h.wp.c _ (S6.out.into 0 rfl).wp OK.out.len.1).mono ?_;rintro e w7 ⟨rfl,hb⟩;have S7:=aa (S6.out.below hb);clear hb k0
  go_wp2
  go_ret
  exact⟨by rw[HX.out];rfl,S7.out.kept⟩
 ·go_wp2_with fail
  refine(lw p.will.topic _ (by have:=OK.out.texts;omega)).mono ?_;rintro e w5 ⟨rfl,hb⟩;have S5:=aa (S4.out.below hb);clear hb k0
  have k0:=S5.out.cell 0 rfl;cases hn:fp p.will.topic
  ·have HX:Hid (eR v p=10):=aa (by rw[HE2.out,if_pos ⟨hhw,hn⟩]);clear hn
   go_wp2
   go_ret
   exact⟨by rw[HX.out];rfl,S5.out.kept⟩
  have HE3:Hid (eR v p=if 65535<p.will.payload.size∨65535<p.pass.size then 2
   else if(aM p.kind p.props).2≠0 then(aM p.kind p.props).2
   else(aM 16 p.will.props).2):=aa (by rw[HE2.out,ae (fun y=>by rw[hn]at y;cases y.2)])
  clear hn
  by_cases hy:65535<p.will.payload.size
  ·have d1:(65535:Int)<(p.will.payload.size:Int):=by omega
   have HX:Hid (eR v p=2):=aa (by rw[HE3.out,if_pos (.inl hy)]);clear hy
   go_wp2
   go_ret
   exact⟨by rw[HX.out];rfl,S5.out.kept⟩
  have d1:(p.will.payload.size:Int)≤65535:=by omega
  by_cases hz:65535<p.pass.size
  ·have d2:(65535:Int)<(p.pass.size:Int):=by omega
   have HX:Hid (eR v p=2):=aa (by rw[HE3.out,if_pos (.inr hz)]);clear hy hz
   go_wp2
   go_ret
   exact⟨by rw[HX.out];rfl,S5.out.kept⟩
  have d2:(p.pass.size:Int)≤65535:=by omega
  have HE4:Hid (eR v p=if(aM p.kind p.props).2≠0 then(aM p.kind p.props).2 else(aM 16 p.will.props).2):=aa (by rw[HE3.out,ae (fun y=>y.elim hy hz)]);clear hy hz
  go_wp2_with fail
  refine(gu p.kind p.props _ rfl OK.out.props h.props.a h.props.c _ (S5.out.into 0 rfl).props OK.out.len.2.2.2).mono ?_;rintro e w6 ⟨rfl,hb⟩;have S6:=aa (S5.out.below hb);clear hb k0
  have k0:=S6.out.cell 0 rfl
  by_cases hp:(aM p.kind p.props).2=0
  rotate_left
  ·have e0:((aM p.kind p.props).2 !=0)=true:=aA.2 hp;have HX:Hid (eR v p=(aM p.kind p.props).2):=aa (by rw[HE4.out,if_pos hp]);clear hp
   go_wp2
   go_ret
   exact⟨by rw[HX.out];rfl,S6.out.kept⟩
  rw[hp];have HX:Hid (eR v p=(aM 16 p.will.props).2):=aa (by rw[HE4.out,ae (fun y=>y hp)]);clear hp
  go_wp2_with fail
  refine(gu 16 p.will.props _ rfl OK.out.wp h.wp.a h.wp.c _ (S6.out.into 0 rfl).wp OK.out.len.1).mono ?_;rintro e w7 ⟨rfl,hb⟩;have S7:=aa (S6.out.below hb);clear hb k0
  go_wp2
  go_ret
  exact⟨by rw[HX.out];rfl,S7.out.kept⟩
end Go.Proofs.YtpcleamaieaefaaGreatDoor
namespace Go.Proofs.YtpcleamaieaefaaGreatDoor
open Go.RowKit Go.Shelf
def qK:List ByteArray→ByteArray
 | []=>⟨#[]⟩
 | x :: l=>x++qK l
theorem tD:∀(l:List ByteArray),ls (qK l)=(l.map (·.data.toList)).flatten
 | []=>rfl
 | x :: l=>by
   rw[qK,fe,tD l];rfl
def tW (v k:Int) (l:List Pr):ByteArray:=if v=4 then⟨#[]⟩else⟨(aM k l).1.toArray⟩
end Go.Proofs.YtpcleamaieaefaaGreatDoor
namespace Go.Proofs.YtpcleamaieaefaaGreatDoor
open Go.RowKit
attribute [local go_sem ↓] bD bF bH bI bu
attribute [local go_sem] bc aD bh bg bK bJ bd aY be aO ax cI dC dB dt dj di dA dr dp dn bW co bO bZ bX cz cy cw cu ct cC cn bS bP bR
def vP (v:Int) (p:Pk):ByteArray:=qK [⟨#[if p.session=true then 1 else 0]⟩,⟨(da p.code.toNat 1).toArray⟩,tW v p.kind p.props]
def Fg (v:Int) (p:Pk):ByteArray×Int:=if eR v p=0 then(vP v p,0)else(⟨#[]⟩,eR v p)
theorem zo {c:Int} (h:ww c=true):0≤c∧c<256:=by
 unfold ww at h;simp at h;omega
theorem mM {v:Int} {p:Pk} (x:eR v p=0):kT v p=true∧(bN p.client=true∧bN p.user=true)∧(p.hasWill=true→fp p.will.topic=true)∧(p.will.payload.size≤65535∧p.pass.size≤65535)∧(aM p.kind p.props).2=0∧(aM 16 p.will.props).2=0:=by
 unfold eR at x
 by_cases h1:kT v p=false
 ·rw[if_pos h1]at x;cases x
 rw[ae h1]at x
 by_cases h2:bN p.client=false∨bN p.user=false
 ·rw[if_pos h2]at x;cases x
 rw[ae h2]at x
 by_cases h3:p.hasWill=true∧fp p.will.topic=false
 ·rw[if_pos h3]at x;cases x
 rw[ae h3]at x
 by_cases h4:65535<p.will.payload.size∨65535<p.pass.size
 ·rw[if_pos h4]at x;cases x
 rw[ae h4]at x
 by_cases h5:(aM p.kind p.props).2=0
 ·rw[ae (fun y=>y h5)]at x;refine⟨by simpa using h1,⟨?_,?_⟩,fun hw=>?_,⟨by omega,by omega⟩,h5,x⟩
  ·cases e:bN p.client
   ·exact absurd (.inl e) h2
   ·rfl
  ·cases e:bN p.user
   ·exact absurd (.inr e) h2
   ·rfl
  ·cases e:fp p.will.topic
   ·exact absurd ⟨hw,e⟩ h3
   ·rfl
 ·rw[if_pos h5]at x;exact absurd x h5
theorem nq {v:Int} {p:Pk} (x:eR v p=0):ba v=true∧gm p.kind=true∧p=kS p∧dU v p=true:=by
 have:=(mM x).1;unfold kT at this;simp only[eh,cH]at this;exact⟨this.1,this.2.1,this.2.2.1,this.2.2.2⟩
theorem Av {v:Int} {p:Pk} (x:eR v p=0) (h2:p.kind=2):0≤p.code∧p.code<256:=by
 have h:=(nq x).2.2.2;unfold dU at h
 by_cases h1:v=4∧0<p.props.length+p.will.props.length
 ·rw[if_pos h1]at h;cases h
 rw[ae h1,if_pos h2]at h;have hc:i9 v p=true:=(Bool.and_eq_true_iff.1 h).1;unfold i9 at hc
 by_cases h4:v=4
 ·rw[if_pos h4]at hc;exact zo hc
 ·rw[ae h4]at hc;exact n6 hc
end Go.Proofs.YtpcleamaieaefaaGreatDoor
