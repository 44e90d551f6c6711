/- A part of what the laws stand on: MqF, MsB, MsE, MsC, MsD. -/
import Derived.Test.YtpcleamaieaefaaGreatDoorMeG0ConE
set_option maxRecDepth 10000
set_option maxHeartbeats 8000000
namespace Go.Proofs.YtpcleamaieaefaaGreatDoor
open Go.RowKit
attribute [local go_sem ↓] bD bF bH bI bu
attribute [local go_sem] bc aD bh bg bK bJ bd aY be aO ax cI dC dB dt dj di dA dr dp dn bW co bO bZ bX cz cy cw cu ct cC cn bS bP bR
def Gp (v:Array (Nat×Value)):Sem Value:=Instr.build WrT v
theorem DI (v:Array (Nat×Value)):Instr.build WrT v=Gp v:=rfl
theorem Bm (v k f:Int) (n:Nat) (t:ByteArray) (w:World):(Gp #[(0,.int .i64 v),(1,.agg #[.int .i64 k,.int .i64 f,.int .i64 n]),(2,.string t)]).run Tryz.prog w= .ok (wrV v ⟨k,f,n⟩ t) w:=by kernel_rfl
theorem DT (a b:FuncId) (w:World):(Instr.field ChT (.agg #[.func (.func a) #[] #[],.func (.func b) #[] #[]]) 1).run Tryz.prog w= .ok (.func (.func b) #[] #[]) w:=by kernel_rfl
attribute [local go_sem ↓] DI DT
attribute [local go_sem] Bm
theorem eZ {fn:Func} {p u u':Tmp} (hr:fn.results= #[.cell p PkT,.tmp u,.tmp u']) (tmps:Array Value) {w:World} {g:Nat} {q:Pk} {h:Hs} (hp:tmps.getD p undef= .pointer (some ⟨g,0,none⟩)) (hb:Bk w g PkT (pkC q h)):
  (results fn tmps).run Tryz.prog w= .ok (.tuple #[pkV q h,tmps.getD u undef,tmps.getD u' undef]) w:=by
 rw[ml hr,hp];have hl:=Cn hb;generalize pkV q h=V at hl⊢;exact kG _ (⟨g,0,none⟩:Addr) w _ rfl |>.trans (kG _ V w _ hl)
def tM (r:Pk×Nat×Int) (w:World) (e:Ending) (w':World):Prop:=∃h,e= .returned (.tuple #[pkV r.1 h,.int .i64 (r.2.1:Nat),.int .i64 r.2.2])∧PkIn w' w'.heap.size r.1 h∧Below w.heap.size w w'∧ja w r.1 h
theorem gR {r:Pk×Nat×Int} {x:Int} {w w':World} (h:r=(pk0,0,x)) (hb:Below w.heap.size w w'):tM r w (.returned (.tuple #[pkV pk0 hs0,.int .i64 0,.int .i64 x])) w':=by
 subst h;exact⟨hs0,rfl,wM _ _,hb,.inl rfl⟩
theorem zF {r:Pk×Nat×Int} {p:Pk} {n:Nat} {h:Hs} {w w':World} (hr:r=(p,n,0)) (hi:PkIn w' w'.heap.size p h) (hb:Below w.heap.size w w') (hf:ja w p h):tM r w (.returned (.tuple #[pkV p h,.int .i64 n,.int .i64 0])) w':=by
 subst hr;exact⟨h,rfl,hi,hb,hf⟩
theorem wS (v:Int) (s:ByteArray) (w:World) (hs:s.size≤1000000000000):Calls Tryz.prog 25 #[.int .i64 v,.string s] w (tM (mqR v s) w):=by
 have HE:Hid (mqR v s=if(hdR v s).2.2≠0 then(pk0,0,(hdR v s).2.2)
  else if s.size<(hdR v s).2.1+(hdR v s).1.n then(pk0,0,3)
  else if(chR v (hdR v s).1 (s.extract (hdR v s).2.1 ((hdR v s).2.1+(hdR v s).1.n))).2=0 then((chR v (hdR v s).1 (s.extract (hdR v s).2.1 ((hdR v s).2.1+(hdR v s).1.n))).1,(hdR v s).2.1+(hdR v s).1.n,0)
  else(pk0,0,if(chR v (hdR v s).1 (s.extract (hdR v s).2.1 ((hdR v s).2.1+(hdR v s).1.n))).2=3 then 5 else(chR v (hdR v s).1 (s.extract (hdR v s).2.1 ((hdR v s).2.1+(hdR v s).1.n))).2)):=aa rfl
 have HS:=aa hs;have HB:=aa ((aq w.heap.size w).alloc (ac _) (.cells (pkC pk0 hs0) PkT));have HK:=aa (Bk.fresh w PkT (pkC pk0 hs0));have HHD:=aa (fun W=>qy v s W (by omega));have HBK:Hid ((hdR v s).2.2=0→dS v (hdR v s).1.k=true∧(hdR v s).1.n≤268435455∧(hdR v s).2.1≤s.size):=aa (fun h0=>by
  obtain⟨b1,b2,b3,b4,b5⟩:=kw (v:=v) (s:=s) (h:=(hdR v s).1) (a:=(hdR v s).2.1) (by rw[←h0]);exact⟨(nf.1 b1).2.1,b2,b5⟩)
 clear hs;obtain⟨⟨⟨k,f,n⟩,a,x⟩,hr⟩:∃r,hdR v s=r:=⟨_,rfl⟩;rw[hr]at HE HHD HBK;simp only[Cx]at HE HHD HBK;clear hr
 go_enter Tryz.func25,Tryz.ntmps25
 go_wp2_with fail
 refine(HHD.out _).mono ?_;rintro e w1 ⟨rfl,hb⟩;have HB1:=aa (HB.out.trans (hb.mono HB.out.size));have HK1:=aa (HK.out.below hb HK.out.lt);clear hb HHD HB HK;obtain⟨y,hy⟩:∃y,w1.alloc (.cells #[.int .i64 k,.int .i64 f,.int .i64 n] 107)=y:=⟨_,rfl⟩;have HB2:Hid (Below w.heap.size w y):=aa (by rw[←hy];exact HB1.out.alloc HB1.out.size _);have HK2:Hid (Bk y w.heap.size PkT (pkC pk0 hs0)):=aa (by rw[←hy];exact HK1.out.alloc _);obtain⟨gh,hgh⟩:∃gh,w1.heap.size=gh:=⟨_,rfl⟩;have HH:Hid (Bk y gh 107 #[.int .i64 k,.int .i64 f,.int .i64 n]):=aa (by rw[←hy,←hgh];exact Bk.fresh w1 _ _)
 go_upto_region 2 with fail
 have HGH:Hid (w.heap.size<gh):=aa (by rw[←hgh];exact HK1.out.lt);clear hy hgh HB1 HK1;clear w1;have hst:=aW HK2.out pk0 hs0;have HBD:Hid (Below w.heap.size w (dE y w.heap.size pk0 hs0)):=aa (bT HB2.out HB2.out.size (ac _) pk0 hs0);have HKP:=aa (cO HK2.out pk0 hs0)
 by_cases hx:x=0
 rotate_left
 ·have HX:Hid (mqR v s=(pk0,0,x)):=aa (by rw[HE.out,if_pos hx]);have e0:(x !=0)=true:=aA.2 hx;clear hx
  go_wp2
  refine av (eZ rfl _ rfl HKP.out) rfl ?_;exact gR HX.out HBD.out
 obtain⟨b1,b2,b3⟩:=HBK.out hx;have HKD:=aa b1;have HE1:Hid (mqR v s=if s.size<a+n then(pk0,0,3)else if(chR v ⟨k,f,n⟩ (s.extract a (a+n))).2=0 then((chR v ⟨k,f,n⟩ (s.extract a (a+n))).1,a+n,0)
  else(pk0,0,if(chR v ⟨k,f,n⟩ (s.extract a (a+n))).2=3 then 5 else(chR v ⟨k,f,n⟩ (s.extract a (a+n))).2)):=aa (by rw[HE.out,ae (fun z=>z hx)])
 subst hx;have HN:=aa b2;have HA:=aa b3
 have hsz:=HS.out;have c0:=HH.out.cell 0;have c1:=HH.out.cell 1;have c2:=HH.out.cell 2
 simp only[ay,aE,aB]at c0 c1 c2;clear HE HBK b1
 by_cases hlt:s.size<a+n
 ·have HX:Hid (mqR v s=(pk0,0,3)):=aa (by rw[HE1.out,if_pos hlt]);have d1:(s.size:Int) - (a:Int)<(n:Int):=by omega
  have d2: -9223372036854775808≤(s.size:Int) - (a:Int):=by omega
  have d3:(s.size:Int) - (a:Int)≤9223372036854775807:=by omega
  clear hlt
  go_wp2
  refine av (eZ rfl _ rfl HKP.out) rfl ?_;exact gR HX.out HBD.out
 have HE2:Hid (mqR v s=if(chR v ⟨k,f,n⟩ (s.extract a (a+n))).2=0 then((chR v ⟨k,f,n⟩ (s.extract a (a+n))).1,a+n,0)
  else(pk0,0,if(chR v ⟨k,f,n⟩ (s.extract a (a+n))).2=3 then 5 else(chR v ⟨k,f,n⟩ (s.extract a (a+n))).2)):=aa (by rw[HE1.out,ae hlt])
 have d1:(n:Int)≤(s.size:Int) - (a:Int):=by omega
 have HEND:Hid (a+n≤s.size):=aa (by omega);have d2: -9223372036854775808≤(s.size:Int) - (a:Int):=by omega
 have d3:(s.size:Int) - (a:Int)≤9223372036854775807:=by omega
 have hsu:wrap64 ((s.size:Int) - (a:Int))=(s.size:Int) - (a:Int):=by unfold wrap64;omega
 have had:wrap64 ((a:Int)+(n:Int))=((a+n:Nat):Int):=by unfold wrap64;omega
 have dle:decide ((s.size:Int) - (a:Int)<(n:Int))=false:=ah (by omega);have v1:(0:Int)≤(a:Int):=by omega
 have v2:(a:Int)≤((a+n:Nat):Int):=by omega
 have v3:((a+n:Nat):Int)≤(s.size:Int):=by omega
 clear hlt HE1
 go_upto_region 7 with fail
 obtain⟨q,hq⟩:∃q,a+n=q:=⟨_,rfl⟩;rw[show(a:Int)+(n:Int)=(q:Int) by omega];rw[hq]at HE2 HEND v2 v3;clear d1 d2 d3 hsu had dle hsz hst hq;obtain⟨T,hT⟩:∃T,s.extract a q=T:=⟨_,rfl⟩;rw[hT]at HE2;have HTS:Hid (T.size≤1000000000000):=aa (by rw[←hT,aj];have:=HS.out;omega);have HWR:=aa (fun W=>Fj v ⟨k,f,n⟩ T W HTS.out);obtain⟨R,hR⟩:∃R,chR v ⟨k,f,n⟩ T=R:=⟨_,rfl⟩;rw[hR]at HE2 HWR;obtain⟨ca,cb,hl1,hl2,hl3,hl4,hl5⟩:=Et k;have hin:Dr k=true:=by
  have:=aR (show decide (1≤k∧(k≤14∨(k=15∧v=5)))=true from HKD.out);exact au (by omega)
 obtain⟨rfl,rfl⟩:=hl3 hin;have HLK:=aa (fun(W:World) (r:Nat) (hT:fQ .i64 W r ns)=>(El hT k hl1 hl2).2);have en:=fun args W=>CW (k:=k) args W;simp only[FC]at HLK;clear hl1 hl2 hl3 hl4 hl5 hin hR;generalize rF k=RF at*
 go_cut [6] (fun z wx=>∃hh,z= .int .i64 R.2∧Bk wx w.heap.size PkT (pkC R.1 hh)∧PkIn wx wx.heap.size R.1 hh∧Below w.heap.size w wx∧ja y R.1 hh)
 case first=>
  go_region_law ((first| (go_simp;go_at_call 80;refine(tC y.drew).mono ?_;rintro e w2 ⟨r,rfl,hMT,hb⟩;have hlk:=HLK.out w2 r hMT;have hB:Below y.heap.size y w2:=(aV (aq y.heap.size y) 1).trans hb;have hH2:=HH.out.below hB HH.out.lt;have hK2:=HK2.out.below hB HK2.out.lt;have k0:=hH2.cell 0;have k1:=hH2.cell 1;have k2:=hH2.cell 2;(simp only[ay,aE,aB]at k0 k1 k2)) | (go_simp;refine(HWR.out _).mono ?_;rintro e w3 ⟨hh,rfl,hi3,hb3,hf3⟩;have hK3:=hK2.below hb3 hK2.lt;have hst3:=aW hK3 R.1 hh)))
  all_goals
   go_wp2
   go_meet
   case rel=>
    have hB3:Below w.heap.size w w3:=HB2.out.trans ((hB.trans (hb3.mono hB.size)).mono HB2.out.size);exact⟨hh,rfl,cO hK3 R.1 hh,hi3.put hK3 (cJ _ _ _ _) hf3 (ch HK2.out.lt hB.size),bT hB3 hB3.size (ac _) R.1 hh,hf3.mono hB.size⟩
 obtain⟨hh,rfl,hkx,hix,hbx,hfx⟩:=hcut;obtain⟨wx,hwx⟩:∃x,x=wc:=⟨_,rfl⟩;subst hwx;have KX:=aa hkx;have IX:=aa hix;have BX:=aa hbx;have FX:=aa hfx
 have lX:=cf hkx;have HYL:=aa HK2.out.lt;have hsX:=aW hkx R.1 hh;have hsZ:=aW hkx pk0 hs0;clear hkx hix hbx hfx c0 c1 c2 en HLK HWR HH HK2 HB2 HBD HKP v1 v2 v3 b2 b3;obtain⟨P,E⟩:=R;dsimp only at HE2 KX IX BX FX lX hsX hsZ⊢
 by_cases hE:E=0
 ·have HX:Hid (mqR v s=(P,q,0)):=aa (by rw[HE2.out,if_pos hE]);subst hE
  go_wp2
  refine av (eZ rfl _ rfl (cO KX.out P hh)) rfl ?_;exact zF HX.out (IX.out.put KX.out (cJ _ _ _ _) FX.out HYL.out) (bT BX.out BX.out.size (ac _) _ _) (FX.out.mono (pf HYL.out))
 ·have HX0:Hid (mqR v s=(pk0,0,if E=3 then 5 else E)):=aa (by rw[HE2.out,ae hE]);have e0:(E==0)=false:=ar.2 hE;have hb:Below w.heap.size w (dE wx w.heap.size pk0 hs0):=bT BX.out BX.out.size (ac _) _ _;have hk:=cO KX.out pk0 hs0;have HBX:=aa hb;have HKX:=aa hk
  clear hb hk
  by_cases h3:E=3
  ·have HX:Hid (mqR v s=(pk0,0,5)):=aa (by rw[HX0.out,if_pos h3]);have e3:(E==3)=true:=aK.2 h3;clear h3 hE
   go_wp2
   refine av (eZ rfl _ rfl HKX.out) rfl ?_;exact gR HX.out HBX.out
  ·have HX:Hid (mqR v s=(pk0,0,E)):=aa (by rw[HX0.out,ae h3]);have e3:(E==3)=false:=ar.2 h3;clear h3 hE
   go_wp2
   refine av (eZ rfl _ rfl HKX.out) rfl ?_;exact gR HX.out HBX.out
end Go.Proofs.YtpcleamaieaefaaGreatDoor
namespace Go.Proofs.YtpcleamaieaefaaGreatDoor
open Go.RowKit
attribute [local go_sem ↓] bD bF bH bI bu
attribute [local go_sem] bc aD bh bg bK bJ bd aY be aO ax cI dC dB dt dj di dA dr dp dn bW co bO bZ bX cz cy cw cu ct cC cn bS bP bR
abbrev SmT:TypeId:=123
def smC (v most:Int) (K:Option Addr) (n c a k:Nat) (e:Int):Array Value:=#[.int .i64 v,.int .i64 most,.slice K n c,.int .i64 a,.int .i64 k,.int .i64 e]
def hdC (k f n:Int):Array Value:=#[.int .i64 k,.int .i64 f,.int .i64 n]
def Gs (b:Bool) (v:Value):Sem Value:=Instr.alloc 107 b v
def AY (a v:Value):Sem Unit:=Instr.storeAt 107 a v
theorem DJ (b:Bool) (v:Value):Instr.alloc 107 b v=Gs b v:=rfl
theorem DH (a v:Value):Instr.storeAt 107 a v=AY a v:=rfl
theorem Br (w:World):(Gs true (.tuple #[])).run Tryz.prog w= .ok (.pointer (some ⟨w.heap.size,0,none⟩)) (w.alloc (.cells (hdC 0 0 0) 107)):=by kernel_rfl
theorem Ez:(Tryz.prog.info? 107).map (·.size)=some 3:=by kernel_rfl
theorem AR {w:World} {g:Nat} {k f n:Int} (hb:Bk w g 107 (hdC k f n)):w.there g 0 3:=fun j hj=>by
 rw[bV,hb.cell,hb.free];refine⟨?_,rfl⟩;rw[eL (by exact hj)];rfl
def rR (w:World) (g:Nat) (k f n:Int):World:=w.setCells g 0 (hdC k f n).toList
theorem uj {w:World} {g:Nat} {k0 f0 n0:Int} (hb:Bk w g 107 (hdC k0 f0 n0)) (k f n:Int):(AY (.pointer (some ⟨g,0,none⟩)) (.agg #[.int .i64 k,.int .i64 f,.int .i64 n])).run Tryz.prog w= .ok () (rR w g k f n):=by
 unfold AY;exact run_storeAt_mid w g 0 107 (hdC k f n) (AR hb) Ez (by simp[hdC,Value.oneCell'])
theorem BF {w:World} {g:Nat} {k0 f0 n0:Int} (hb:Bk w g 107 (hdC k0 f0 n0)) (k f n:Int):Bk (rR w g k f n) g 107 (hdC k f n):=((hb.put 0 (.int .i64 k)).put 1 (.int .i64 f)).put 2 (.int .i64 n)
theorem uL (w:World) (k0 f0 n0 k f n:Int):rR (w.alloc (.cells (hdC k0 f0 n0) 107)) w.heap.size k f n=w.alloc (.cells (hdC k f n) 107):=by
 unfold rR;rw[io,qa (cs:=hdC k0 f0 n0) (ds:=hdC k f n) rfl]
theorem pR (w:World) (k f n:Int):(AY (.pointer (some ⟨w.heap.size,0,none⟩)) (.agg #[.int .i64 k,.int .i64 f,.int .i64 n])).run Tryz.prog (w.alloc (.cells (hdC 0 0 0) 107))= .ok () (w.alloc (.cells (hdC k f n) 107)):=by
 rw[uj (Bk.fresh w 107 (hdC 0 0 0)),uL]
attribute [local go_sem ↓] DJ DH
attribute [local go_sem] Br pR
def Gb (w:World) (h:Hdr) (a:Nat) (x:Int) (pz az ez:Value) (wx:World):Prop:=∃g,pz= .pointer (some ⟨g,0,none⟩)∧az= .int .i64 a∧ez= .int .i64 x∧Bk wx g 107 (hdC h.k h.f h.n)∧Below w.heap.size w wx
theorem vW {w w3:World} (h:Hdr) (a:Nat) (x:Int) (hb:Below (w.alloc (.cells (hdC 0 0 0) 107)).drew.heap.size (w.alloc (.cells (hdC 0 0 0) 107)).drew w3):
  (AY (.pointer (some ⟨w.heap.size,0,none⟩)) (.agg #[.int .i64 h.k,.int .i64 h.f,.int .i64 h.n])).run Tryz.prog w3= .ok () (rR w3 w.heap.size h.k h.f h.n)∧Gb w h a x (.pointer (some ⟨w.heap.size,0,none⟩)) (.int .i64 a) (.int .i64 x) (rR w3 w.heap.size h.k h.f h.n):=by
 have hb0:Below w.heap.size w (w.alloc (.cells (hdC 0 0 0) 107)).drew:=aV ((aq w.heap.size w).alloc (ac _) _) 1;have h1:=hb0.trans (hb.mono hb0.size);have h0:Bk (w.alloc (.cells (hdC 0 0 0) 107)).drew w.heap.size 107 (hdC 0 0 0):=(Bk.fresh w _ _).drewN 1;have hk:=h0.below hb h0.lt;exact⟨uj hk _ _ _,w.heap.size,rfl,rfl,rfl,BF hk _ _ _,((h1.setCell (ac _) _).setCell (ac _) _).setCell (ac _) _⟩
theorem yS {w w3:World} (h:Hdr) (a:Nat) (x:Int) (hb:Below w.drew.heap.size w.drew w3):
  Gb w h a x (.pointer (some ⟨w3.heap.size,0,none⟩)) (.int .i64 a) (.int .i64 x) (w3.alloc (.cells (hdC h.k h.f h.n) 107)):=
 ⟨w3.heap.size,rfl,rfl,rfl,Bk.fresh _ _ _,((aV (aq w.heap.size w) 1).trans hb).alloc hb.size _⟩
theorem pM (v most:Int) (g:Nat) (K:Option Addr) (n c a k:Nat) (e:Int) (t:ByteArray) (w0 w:World) (hb:Bk w g SmT (smC v most K n c a k e)) (hk:Kp w0 w K n c (ls t)) (ht:t.size≤1000000000000):
  Calls Tryz.prog 85 #[.pointer (some ⟨g,0,none⟩)] w fun e' w'=>e'= .returned (.tuple #[.int .i64 ((smZ v t).1:Nat),.int .i64 (smZ v t).2])∧Below w.heap.size w w':=by
 have HT:=aa ht;have HB:=aa hb;have HKP:=aa hk
 have HL:Hid (t.size=n):=aa (by rw[←aN];exact hk.len);have HE:Hid (smZ v t=if(hdR v (t.extract 0 (min t.size 5))).2.2≠0 then(0,(hdR v (t.extract 0 (min t.size 5))).2.2)
  else((hdR v (t.extract 0 (min t.size 5))).2.1+(hdR v (t.extract 0 (min t.size 5))).1.n,0)):=aa rfl
 obtain⟨m,hm⟩:∃m,min t.size 5=m:=⟨_,rfl⟩;rw[hm]at HE;have HMN:Hid (m≤n∧m≤5∧(m=n∨m=5)):=aa (by have:=HL.out;omega);have HX:Hid (∀W,Below w.heap.size w W→(convert 75 9 (.slice K m c)).run Tryz.prog W= .ok (.string (t.extract 0 m)) W):=aa (fun W hW=>by
  have h1:=((HKP.out.below hW).rd).cut_to HMN.out.1;rw[rB,lM]at h1;have h2:=ni (P:=Tryz.prog) 75 9 U8 Tryz.underlying75 Tryz.underlying5 Tryz.underlying9 c h1;rw[h2]
  congr 2
  apply eX;rw[jo];have:=db t 0 m;rw[bV,cS]at this;exact this.symm)
 have HHD:=aa (fun W=>qy v (t.extract 0 m) W (by rw[aj];have:=HMN.out;omega));clear hb hk ht hm;have HLE:Hid ((hdR v (t.extract 0 m)).2.2=0→(hdR v (t.extract 0 m)).1.n≤268435455∧(hdR v (t.extract 0 m)).2.1≤5):=aa (fun h0=>by
  obtain⟨b1,b2,b3,b4,b5⟩:=kw (v:=v) (s:=t.extract 0 m) (h:=(hdR v (t.extract 0 m)).1) (a:=(hdR v (t.extract 0 m)).2.1) (by rw[←h0]);rw[aj]at b5;have:=HMN.out;exact⟨b2,by omega⟩)
 obtain⟨⟨⟨hk,hf,hn⟩,ha,hx⟩,hr⟩:∃r,hdR v (t.extract 0 m)=r:=⟨_,rfl⟩;rw[hr]at HE HHD HLE;dsimp only at HLE;simp only[Cx]at HE HHD;clear hr;have HBD:Hid (Below w.heap.size w w.drew):=aa (aV (aq w.heap.size w) 1);have HBA:Hid (Below w.heap.size w (w.alloc (.cells (hdC 0 0 0) 107)).drew):=aa (aV ((aq w.heap.size w).alloc (ac _) _) 1);have HSB:Hid (∀W,Below w.heap.size w W→W.cell? ⟨g,0,none⟩=some (.int .i64 v)∧W.cell? ⟨g,2,none⟩=some (.slice K n c)∧(convert 75 9 (.slice K m c)).run Tryz.prog W= .ok (.string (t.extract 0 m)) W):=aa (fun W hW=>⟨(HB.out.below hW HB.out.lt).cell 0,(HB.out.below hW HB.out.lt).cell 2,HX.out W hW⟩);have hsl:=fun W=>Bi (P:=Tryz.prog) (t:=75) (e:=U8) (s:=1) Tryz.underlying75 (fun W=>by kernel_rfl) K n c m (aC HMN.out.1 HKP.out.cap) W;have hmin:min (n:Int) 5=(m:Int):=by have:=HMN.out;omega
 go_enter Tryz.func85,Tryz.ntmps85
 go_wp2_with fail
 go_cut [4,5,6] (fun pz az ez wx=>Gb w ⟨hk,hf,hn⟩ ha hx pz az ez wx)
 case first=>
  refine je (fun w'=>w'.cell? ⟨g,0,none⟩=some (.int .i64 v)∧w'.cell? ⟨g,2,none⟩=some (.slice K n c)∧(convert 75 9 (.slice K m c)).run Tryz.prog w'= .ok (.string (t.extract 0 m)) w') [] (by kernel_rfl) ?_;have HS:=HSB.out w.drew HBD.out;refine aJ (i:=0) (v:=?va0) [] rfl (by kernel_rfl) (by kernel_rfl) (by kernel_rfl) (by kernel_rfl) (by kernel_rfl) (by kernel_rfl) (fun _ _ _ h=>h) (Or.inl ⟨by rfl,?ha0⟩) HS ?ra0
  case ha0=>intro w' hSw;(try dsimp only at hSw);obtain⟨s0,s2,s3⟩:=hSw;go_simp;try with_reducible rfl
  (try simp only[Act.put]);(try simp only[af]);(try simp only[am]);(try simp only[ak])
  refine aJ (i:=1) (v:=?va1) [] rfl (by kernel_rfl) (by kernel_rfl) (by kernel_rfl) (by kernel_rfl) (by kernel_rfl) (by kernel_rfl) (fun _ _ _ h=>h) (Or.inl ⟨by rfl,?ha1⟩) HS ?ra1
  case ha1=>intro w' hSw;(try dsimp only at hSw);obtain⟨s0,s2,s3⟩:=hSw;go_simp;try with_reducible rfl
  (try simp only[Act.put]);(try simp only[af]);(try simp only[am]);(try simp only[ak])
  refine aJ (i:=2) (v:=?va2) [] rfl (by kernel_rfl) (by kernel_rfl) (by kernel_rfl) (by kernel_rfl) (by kernel_rfl) (by kernel_rfl) (fun _ _ _ h=>h) (Or.inl ⟨by rfl,?ha2⟩) HS ?ra2
  case ha2=>intro w' hSw;(try dsimp only at hSw);obtain⟨s0,s2,s3⟩:=hSw;go_simp;try with_reducible rfl
  (try simp only[Act.put]);(try simp only[af]);(try simp only[am]);(try simp only[ak])
  refine aJ (i:=3) (v:=?va3) [] rfl (by kernel_rfl) (by kernel_rfl) (by kernel_rfl) (by kernel_rfl) (by kernel_rfl) (by kernel_rfl) (fun _ _ _ h=>h) (Or.inl ⟨by rfl,?ha3⟩) HS ?ra3
  case ha3=>intro w' hSw;(try dsimp only at hSw);obtain⟨s0,s2,s3⟩:=hSw;go_simp;try with_reducible rfl
  (try simp only[Act.put]);(try simp only[af]);(try simp only[am]);(try simp only[ak])
  refine aJ (i:=4) (v:=?va4) [] rfl (by kernel_rfl) (by kernel_rfl) (by kernel_rfl) (by kernel_rfl) (by kernel_rfl) (by kernel_rfl) (fun _ _ _ h=>h) (Or.inl ⟨by rfl,?ha4⟩) HS ?ra4
  case ha4=>intro w' hSw;(try dsimp only at hSw);obtain⟨s0,s2,s3⟩:=hSw;go_simp;try with_reducible rfl
  (try simp only[Act.put]);(try simp only[af]);(try simp only[am]);(try simp only[ak])
  refine aJ (i:=5) (v:=?va5) [] rfl (by kernel_rfl) (by kernel_rfl) (by kernel_rfl) (by kernel_rfl) (by kernel_rfl) (by kernel_rfl) (fun _ _ _ h=>h) (Or.inl ⟨by rfl,?ha5⟩) HS ?ra5
  case ha5=>intro w' hSw;(try dsimp only at hSw);obtain⟨s0,s2,s3⟩:=hSw;go_simp;try with_reducible rfl
  (try simp only[Act.put]);(try simp only[af]);(try simp only[am]);(try simp only[ak])
  refine aJ (i:=6) (v:=?va6) [] rfl (by kernel_rfl) (by kernel_rfl) (by kernel_rfl) (by kernel_rfl) (by kernel_rfl) (by kernel_rfl) (fun _ _ _ h=>h) (Or.inl ⟨by rfl,?ha6⟩) HS ?ra6
  case ha6=>intro w' hSw;(try dsimp only at hSw);obtain⟨s0,s2,s3⟩:=hSw;go_simp;try with_reducible rfl
  (try simp only[Act.put]);(try simp only[af]);(try simp only[am]);(try simp only[ak])
  refine aJ (i:=7) (v:=?va7) [] rfl (by kernel_rfl) (by kernel_rfl) (by kernel_rfl) (by kernel_rfl) (by kernel_rfl) (by kernel_rfl) (fun _ _ _ h=>h) (Or.inl ⟨by rfl,?ha7⟩) HS ?ra7
  case ha7=>intro w' hSw;(try dsimp only at hSw);obtain⟨s0,s2,s3⟩:=hSw;go_simp;try with_reducible rfl
  (try simp only[Act.put]);(try simp only[af]);(try simp only[am]);(try simp only[ak])
  refine aJ (i:=8) (v:=?va8) [] rfl (by kernel_rfl) (by kernel_rfl) (by kernel_rfl) (by kernel_rfl) (by kernel_rfl) (by kernel_rfl) (fun _ _ _ h=>h) (Or.inl ⟨by rfl,?ha8⟩) HS ?ra8
  case ha8=>intro w' hSw;(try dsimp only at hSw);obtain⟨s0,s2,s3⟩:=hSw;go_simp;try with_reducible rfl
  (try simp only[Act.put]);(try simp only[af]);(try simp only[am]);(try simp only[ak])
  refine aJ (i:=9) (v:=?va9) [] rfl (by kernel_rfl) (by kernel_rfl) (by kernel_rfl) (by kernel_rfl) (by kernel_rfl) (by kernel_rfl) (fun _ _ _ h=>h) (Or.inl ⟨by rfl,?ha9⟩) HS ?ra9
  case ha9=>intro w' hSw;(try dsimp only at hSw);obtain⟨s0,s2,s3⟩:=hSw;go_simp;try with_reducible rfl
  (try simp only[Act.put]);(try simp only[af]);(try simp only[am]);(try simp only[ak])
  refine aJ (i:=10) (v:=?va10) [] rfl (by kernel_rfl) (by kernel_rfl) (by kernel_rfl) (by kernel_rfl) (by kernel_rfl) (by kernel_rfl) (fun _ _ _ h=>h) (Or.inl ⟨by rfl,?ha10⟩) HS ?ra10
  case ha10=>intro w' hSw;(try dsimp only at hSw);obtain⟨s0,s2,s3⟩:=hSw;go_simp;try with_reducible rfl
  (try simp only[Act.put]);(try simp only[af]);(try simp only[am]);(try simp only[ak])
  refine aJ (i:=11) (v:=?va11) [] rfl (by kernel_rfl) (by kernel_rfl) (by kernel_rfl) (by kernel_rfl) (by kernel_rfl) (by kernel_rfl) (fun _ _ _ h=>h) (Or.inl ⟨by rfl,?ha11⟩) HS ?ra11
  case ha11=>intro w' hSw;(try dsimp only at hSw);obtain⟨s0,s2,s3⟩:=hSw;go_simp;try with_reducible rfl
  (try simp only[Act.put]);(try simp only[af]);(try simp only[am]);(try simp only[ak])
  refine aJ (i:=12) (v:=?va12) [] rfl (by kernel_rfl) (by kernel_rfl) (by kernel_rfl) (by kernel_rfl) (by kernel_rfl) (by kernel_rfl) (fun _ _ _ h=>h) (Or.inl ⟨by rfl,?ha12⟩) HS ?ra12
  case ha12=>intro w' hSw;(try dsimp only at hSw);obtain⟨s0,s2,s3⟩:=hSw;go_simp;try with_reducible rfl
  (try simp only[Act.put]);(try simp only[af]);(try simp only[am]);(try simp only[ak])
  refine aJ (i:=13) (v:=?va13) [] rfl (by kernel_rfl) (by kernel_rfl) (by kernel_rfl) (by kernel_rfl) (by kernel_rfl) (by kernel_rfl) (fun _ _ _ h=>h) (Or.inl ⟨by rfl,?ha13⟩) HS ?ra13
  case ha13=>intro w' hSw;(try dsimp only at hSw);obtain⟨s0,s2,s3⟩:=hSw;go_simp;try with_reducible rfl
  (try simp only[Act.put]);(try simp only[af]);(try simp only[am]);(try simp only[ak])
  refine aJ (i:=14) (v:=?va14) [] rfl (by kernel_rfl) (by kernel_rfl) (by kernel_rfl) (by kernel_rfl) (by kernel_rfl) (by kernel_rfl) (fun _ _ _ h=>h) (Or.inl ⟨by rfl,?ha14⟩) HS ?ra14
  case ha14=>intro w' hSw;(try dsimp only at hSw);obtain⟨s0,s2,s3⟩:=hSw;go_simp;try with_reducible rfl
  (try simp only[Act.put]);(try simp only[af]);(try simp only[am]);(try simp only[ak])
  refine aJ (i:=15) (v:=?va15) [] rfl (by kernel_rfl) (by kernel_rfl) (by kernel_rfl) (by kernel_rfl) (by kernel_rfl) (by kernel_rfl) (fun _ _ _ h=>h) (Or.inl ⟨by rfl,?ha15⟩) HS ?ra15
  case ha15=>intro w' hSw;(try dsimp only at hSw);obtain⟨s0,s2,s3⟩:=hSw;go_simp;try with_reducible rfl
  (try simp only[Act.put]);(try simp only[af]);(try simp only[am]);(try simp only[ak])
  refine cq (rs:=[16,21]) (by kernel_rfl) (by simp) (ep.cons rfl (fun K hK=>?mx) (ep.cons rfl (fun K hK=>?my) ep.nil))
  case mx=>
   go_simp
   go_at_call 79
   refine(HHD.out _).mono ?_;rintro e' w3 ⟨rfl,hb3⟩;have B3:=aa (HBD.out.trans (hb3.mono HBD.out.size));have R3:=aa (yS ⟨hk,hf,hn⟩ ha hx hb3);clear hb3 HS;have HS:=HSB.out w3 B3.out
   go_simp
   refine hK.out _ _ (fun _=>HS) ?_;clear hK K
   (try simp only[Act.put]);(try simp only[af]);(try simp only[am]);(try simp only[ak])
   refine aJ (i:=17) (v:=?vb17) [] rfl (by kernel_rfl) (by kernel_rfl) (by kernel_rfl) (by kernel_rfl) (by kernel_rfl) (by kernel_rfl) (fun _ _ _ h=>h) (Or.inl ⟨by rfl,?hb17⟩) HS ?rb17
   case hb17=>intro w' hSw;(try dsimp only at hSw);obtain⟨s0,s2,s3⟩:=hSw;go_simp;try with_reducible rfl
   (try simp only[Act.put]);(try simp only[af]);(try simp only[am]);(try simp only[ak])
   refine aJ (i:=18) (v:=?vb18) [] rfl (by kernel_rfl) (by kernel_rfl) (by kernel_rfl) (by kernel_rfl) (by kernel_rfl) (by kernel_rfl) (fun _ _ _ h=>h) (Or.inl ⟨by rfl,?hb18⟩) HS ?rb18
   case hb18=>intro w' hSw;(try dsimp only at hSw);obtain⟨s0,s2,s3⟩:=hSw;go_simp;try with_reducible rfl
   (try simp only[Act.put]);(try simp only[af]);(try simp only[am]);(try simp only[ak])
   refine aJ (i:=19) (v:=?vb19) [] rfl (by kernel_rfl) (by kernel_rfl) (by kernel_rfl) (by kernel_rfl) (by kernel_rfl) (by kernel_rfl) (fun _ _ _ h=>h) (Or.inl ⟨by rfl,?hb19⟩) HS ?rb19
   case hb19=>intro w' hSw;(try dsimp only at hSw);obtain⟨s0,s2,s3⟩:=hSw;go_simp;try with_reducible rfl
   (try simp only[Act.put]);(try simp only[af]);(try simp only[am]);(try simp only[ak])
   refine aJ (i:=20) (v:=?vb20) [] rfl (by kernel_rfl) (by kernel_rfl) (by kernel_rfl) (by kernel_rfl) (by kernel_rfl) (by kernel_rfl) (fun _ _ _ h=>h) (Or.inl ⟨by rfl,?hb20⟩) HS ?rb20
   case hb20=>intro w' hSw;(try dsimp only at hSw);obtain⟨s0,s2,s3⟩:=hSw;go_simp;try with_reducible rfl
   (try simp only[Act.put]);(try simp only[af]);(try simp only[am]);(try simp only[ak])
   refine cq (rs:=[21]) (by kernel_rfl) (by simp) (ep.cons rfl (fun K hK=>?_) ep.nil)
   go_simp
   clear HS;have HS:=HSB.out _ (B3.out.alloc B3.out.size (.cells (hdC 0 0 0) 107));refine hK.out _ _ (fun _=>HS) ?_;clear hK K
   (try simp only[Act.put]);(try simp only[af]);(try simp only[am]);(try simp only[ak])
   refine cq (rs:=[22]) (by kernel_rfl) (by simp) (ep.cons rfl (fun K hK=>?_) ep.nil)
   go_simp
   clear HS;have HS:=HSB.out _ (B3.out.alloc B3.out.size (.cells (hdC hk hf hn) 107));refine hK.out _ _ (fun _=>HS) ?_;clear hK K
   (try simp only[Act.put]);(try simp only[af]);(try simp only[am]);(try simp only[ak])
   refine cq (rs:=[23]) (by kernel_rfl) (by simp) (ep.cons rfl (fun K hK=>?_) ep.nil)
   go_simp
   refine hK.out _ _ (fun _=>HS) ?_;clear hK K
   (try simp only[Act.put]);(try simp only[af]);(try simp only[am]);(try simp only[ak])
   refine cq (rs:=[24]) (by kernel_rfl) (by simp) (ep.cons rfl (fun K hK=>?_) ep.nil)
   go_simp
   refine hK.out _ _ (fun _=>HS) ?_;clear hK K
   (try simp only[Act.put]);(try simp only[af]);(try simp only[am]);(try simp only[ak])
   refine oh (by kernel_rfl) ?_ _
   go_wp2
   go_meet
   case rel=>exact R3.out
  case my=>
   go_simp
   clear HS;have HS:=HSB.out _ HBA.out;refine hK.out _ _ (fun _=>HS) ?_;clear hK K
   (try simp only[Act.put]);(try simp only[af]);(try simp only[am]);(try simp only[ak])
   refine cq (rs:=[16]) (by kernel_rfl) (by simp) (ep.cons rfl (fun K hK=>?_) ep.nil)
   go_simp
   go_at_call 79
   refine(HHD.out _).mono ?_;rintro e' w3 ⟨rfl,hb3⟩;have B3:=aa (HBA.out.trans (hb3.mono HBA.out.size));have R3:=aa (vW ⟨hk,hf,hn⟩ ha hx hb3);clear hb3 HS;have HS:=HSB.out w3 B3.out
   go_simp
   refine hK.out _ _ (fun _=>HS) ?_;clear hK K
   (try simp only[Act.put]);(try simp only[af]);(try simp only[am]);(try simp only[ak])
   refine aJ (i:=17) (v:=?vd17) [] rfl (by kernel_rfl) (by kernel_rfl) (by kernel_rfl) (by kernel_rfl) (by kernel_rfl) (by kernel_rfl) (fun _ _ _ h=>h) (Or.inl ⟨by rfl,?hd17⟩) HS ?rd17
   case hd17=>intro w' hSw;(try dsimp only at hSw);obtain⟨s0,s2,s3⟩:=hSw;go_simp;try with_reducible rfl
   (try simp only[Act.put]);(try simp only[af]);(try simp only[am]);(try simp only[ak])
   refine aJ (i:=18) (v:=?vd18) [] rfl (by kernel_rfl) (by kernel_rfl) (by kernel_rfl) (by kernel_rfl) (by kernel_rfl) (by kernel_rfl) (fun _ _ _ h=>h) (Or.inl ⟨by rfl,?hd18⟩) HS ?rd18
   case hd18=>intro w' hSw;(try dsimp only at hSw);obtain⟨s0,s2,s3⟩:=hSw;go_simp;try with_reducible rfl
   (try simp only[Act.put]);(try simp only[af]);(try simp only[am]);(try simp only[ak])
   refine aJ (i:=19) (v:=?vd19) [] rfl (by kernel_rfl) (by kernel_rfl) (by kernel_rfl) (by kernel_rfl) (by kernel_rfl) (by kernel_rfl) (fun _ _ _ h=>h) (Or.inl ⟨by rfl,?hd19⟩) HS ?rd19
   case hd19=>intro w' hSw;(try dsimp only at hSw);obtain⟨s0,s2,s3⟩:=hSw;go_simp;try with_reducible rfl
   (try simp only[Act.put]);(try simp only[af]);(try simp only[am]);(try simp only[ak])
   refine aJ (i:=20) (v:=?vd20) [] rfl (by kernel_rfl) (by kernel_rfl) (by kernel_rfl) (by kernel_rfl) (by kernel_rfl) (by kernel_rfl) (fun _ _ _ h=>h) (Or.inl ⟨by rfl,?hd20⟩) HS ?rd20
   case hd20=>intro w' hSw;(try dsimp only at hSw);obtain⟨s0,s2,s3⟩:=hSw;go_simp;try with_reducible rfl
   (try simp only[Act.put]);(try simp only[af]);(try simp only[am]);(try simp only[ak])
   refine cq (rs:=[22]) (by kernel_rfl) (by simp) (ep.cons rfl (fun K hK=>?_) ep.nil);have hst:=R3.out.1
   go_simp
   clear HS hst;have HS:=HSB.out _ (((B3.out.setCell (p:=⟨w.heap.size,0,none⟩) (ac _) (.int .i64 hk)).setCell (p:=⟨w.heap.size,1,none⟩) (ac _) (.int .i64 hf)).setCell (p:=⟨w.heap.size,2,none⟩) (ac _) (.int .i64 hn));refine hK.out _ _ (fun _=>HS) ?_;clear hK K
   (try simp only[Act.put]);(try simp only[af]);(try simp only[am]);(try simp only[ak])
   refine cq (rs:=[23]) (by kernel_rfl) (by simp) (ep.cons rfl (fun K hK=>?_) ep.nil)
   go_simp
   refine hK.out _ _ (fun _=>HS) ?_;clear hK K
   (try simp only[Act.put]);(try simp only[af]);(try simp only[am]);(try simp only[ak])
   refine cq (rs:=[24]) (by kernel_rfl) (by simp) (ep.cons rfl (fun K hK=>?_) ep.nil)
   go_simp
   refine hK.out _ _ (fun _=>HS) ?_;clear hK K
   (try simp only[Act.put]);(try simp only[af]);(try simp only[am]);(try simp only[ak])
   refine oh (by kernel_rfl) ?_ _
   go_wp2
   go_meet
   case rel=>exact R3.out.2
 obtain⟨gh,rfl,rfl,rfl,hkx,hbx⟩:=hcut;have KX:=aa hkx;have BX:=aa hbx
 have x2:wc.cell? ⟨gh,2,none⟩=some (.int .i64 hn):=hkx.cell 2;clear hkx hbx hsl hmin HHD HX HSB HBD HBA
 by_cases h0:hx=0
 rotate_left
 ·have HZ:Hid (smZ v t=(0,hx)):=aa (by rw[HE.out,if_pos h0]);have e0:(hx !=0)=true:=aA.2 h0;clear h0
  go_wp2
  go_ret2
  exact⟨by rw[HZ.out];rfl,BX.out⟩
 ·have HZ:Hid (smZ v t=(ha+hn,0)):=aa (by rw[HE.out,ae (fun x=>x h0)]);subst h0;have d1:(ha:Int)+(hn:Int)≤9223372036854775807:=by have:=HLE.out (by first| rfl| trivial);omega
  have d2: -9223372036854775808≤(ha:Int)+(hn:Int):=by omega
  go_wp2
  go_ret2
  refine⟨?_,BX.out⟩;rw[HZ.out];simp
end Go.Proofs.YtpcleamaieaefaaGreatDoor
namespace Go.Proofs.YtpcleamaieaefaaGreatDoor
open Go.RowKit
attribute [local go_sem ↓] bD bF bH bI bu
attribute [local go_sem] bc aD bh bg bK bJ bd aY be aO ax cI dC dB dt dj di dA dr dp dn bW co bO bZ bX cz cy cw cu ct cC cn bS bP bR
def nF (v mp md:Int):Bool:=ba v&&decide (16≤mp∧mp≤1048576∧0≤md∧md≤32)
def zW (mp md:Int):Value:=.agg #[.int .i64 mp,.int .i64 md]
def xL (v mp md:Int) (w:World) (e:Ending) (w':World):Prop:=
 Below w.heap.size w w'∧if nF v mp md=true then ∃g,e= .returned (.tuple #[.pointer (some ⟨g,0,none⟩),.int .i64 0])∧w.heap.size≤g∧Bk w' g SmT (smC v mp none 0 0 0 0 0)else e= .returned (.tuple #[.pointer none,.int .i64 2])
theorem qi {v mp md:Int} {w w':World} (h:nF v mp md=false) (hb:Below w.heap.size w w'):xL v mp md w (.returned (.tuple #[.pointer none,.int .i64 2])) w':=by
 refine⟨hb,?_⟩;rw[ae (by rw[h];decide)]
theorem zL {v mp md:Int} {w w':World} {g:Nat} (h:nF v mp md=true) (hb:Below w.heap.size w w') (hg:w.heap.size≤g) (hk:Bk w' g SmT (smC v mp none 0 0 0 0 0)):xL v mp md w (.returned (.tuple #[.pointer (some ⟨g,0,none⟩),.int .i64 0])) w':=by
 refine⟨hb,?_⟩;rw[if_pos h];exact⟨g,rfl,hg,hk⟩
theorem fm (v mp md:Int) (w:World):Calls Tryz.prog 33 #[.int .i64 v,zW mp md] w (xL v mp md w):=by
 have HE:Hid (nF v mp md=(decide (v=4∨v=5)&&decide (16≤mp∧mp≤1048576∧0≤md∧md≤32))):=aa rfl;have HB:=aa ((aq w.heap.size w).alloc (ac _) (.cells #[.int .i64 mp,.int .i64 md] 57));have HS:Hid ((w.alloc (.cells #[.int .i64 mp,.int .i64 md] 57)).heap.size=w.heap.size+1):=aa (by simp);have HK:=aa (Bk.fresh w 57 #[.int .i64 mp,.int .i64 md]);have c0:(w.alloc (.cells #[.int .i64 mp,.int .i64 md] 57)).cell? ⟨w.heap.size,0,none⟩=some (.int .i64 mp):=HK.out.cell 0;have c1:(w.alloc (.cells #[.int .i64 mp,.int .i64 md] 57)).cell? ⟨w.heap.size,1,none⟩=some (.int .i64 md):=HK.out.cell 1;unfold zW
 by_cases hv:v=4∨v=5
 rotate_left
 ·have HX:Hid (nF v mp md=false):=aa (by rw[HE.out,ah hv];rfl);have e4:(v !=4)=true:=aA.2 (by omega);have e5:(v !=5)=true:=aA.2 (by omega);clear hv HE
  go_enter Tryz.func33,Tryz.ntmps33
  go_wp2
  go_ret2
  exact qi HX.out HB.out
 have hvv:(v !=4)=false∨((v !=4)=true∧(v !=5)=false):=by
  by_cases e:v=4
  ·exact .inl (by rw[e];rfl)
  ·exact .inr ⟨aA.2 e,by rw[show v=5 by omega];rfl⟩
 by_cases hl:16≤mp∧mp≤1048576∧0≤md∧md≤32
 rotate_left
 ·have HX:Hid (nF v mp md=false):=aa (by rw[HE.out,ah hl,ru]);have h3:mp<16∨(16≤mp∧1048576<mp)∨(16≤mp∧mp≤1048576∧md<0)∨(16≤mp∧mp≤1048576∧0≤md∧32<md):=by omega
  clear hv hl HE;rcases hvv with e4| ⟨e4,e5⟩<;>rcases h3 with h3| ⟨h3,h4⟩ | ⟨h3,h4,h5⟩ | ⟨h3,h4,h5,h6⟩
  all_goals
   go_enter Tryz.func33,Tryz.ntmps33
   go_wp2
   go_ret2
   exact qi HX.out HB.out
 have HX:Hid (nF v mp md=true):=aa (by rw[HE.out,au hv,au hl];rfl);have HG:=aa (Bk.fresh (w.alloc (.cells #[.int .i64 mp,.int .i64 md] 57)) SmT (smC v mp none 0 0 0 0 0));obtain⟨h3,h4,h5,h6⟩:=hl;clear hv HE;rcases hvv with e4| ⟨e4,e5⟩
 all_goals
  go_enter Tryz.func33,Tryz.ntmps33
  go_wp2
  go_ret2
  refine zL HX.out (HB.out.alloc HB.out.size _) ?_ (by rw[HS.out]at HG;exact HG.out);omega
theorem Kp.apart {w0 w y:World} {K:Option Addr} {n c:Nat} {t:List UInt8} (h:Kp w0 w K n c t) {gp:Nat} {ty:TypeId} {cs:Array Value} (hp:Bk w gp ty cs) (hne:ty≠U8) (hm:w.grownBy y (some gp)):Kp w0 y K n c t:=by
 refine⟨h.len,h.cap,?_⟩;rcases h.lies with h1| ⟨g,o,M,h1,h2,h3,h4⟩
 ·exact .inl h1
 ·refine .inr ⟨g,o,M,h1,h2,(hm.block g h3.lt fun e=>?_).trans h3,h4⟩;cases e;unfold Bk at hp h3;rw[hp]at h3;simp only[aX,fc]at h3;exact hne h3.2.1
theorem yB {w0 w:World} {K:Option Addr} {n c z:Nat} {t:ByteArray} (h:Kp w0 w K n c (ls t)) (hz:z≤n):(convert 75 9 (.slice K z c)).run Tryz.prog w= .ok (.string (t.extract 0 z)) w:=by
 have h1:=h.rd.cut_to hz;rw[rB,lM]at h1;have h2:=ni (P:=Tryz.prog) 75 9 U8 Tryz.underlying75 Tryz.underlying5 Tryz.underlying9 c h1;rw[h2]
 congr 2
 apply eX;rw[jo];have:=db t 0 z;rw[bV,cS]at this;exact this.symm
theorem DM {v:Int} {t:ByteArray}:(smZ v t).1≤268435460:=by
 unfold smZ
 split
 ·exact ag _
 rename_i h;have h0:=il.1 h;obtain⟨b1,b2,b3,b4,b5⟩:=kw (v:=v) (s:=t.extract 0 (min t.size 5)) (h:=(hdR v (t.extract 0 (min t.size 5))).1) (a:=(hdR v (t.extract 0 (min t.size 5))).2.1) (by rw[←h0]);rw[aj]at b5;dsimp only;omega
theorem wj (v most:Int) (g:Nat) (K:Option Addr) (n c a k:Nat) (e:Int) (t:ByteArray) (w0 w:World) (hb:Bk w g SmT (smC v most K n c a k e)) (hk:Kp w0 w K n c (ls t)) (ht:t.size≤1000000000000):
  Calls Tryz.prog 83 #[.pointer (some ⟨g,0,none⟩)] w (tM (smN v most t) w):=by
 have HE:Hid (smN v most t=if(smZ v t).2≠0 then(pk0,0,(smZ v t).2)else if most<((smZ v t).1:Nat)then(pk0,0,4)else if t.size<(smZ v t).1 then(pk0,0,3)else mqR v (t.extract 0 (smZ v t).1)):=aa rfl;have HT:=aa ht;have HL:Hid (t.size=n):=aa (by rw[←aN];exact hk.len);have hb0:=(aq w.heap.size w).alloc (ac _) (.cells (pkC pk0 hs0) PkT);have HB0:=aa hb0;have HK0:=aa (Bk.fresh w PkT (pkC pk0 hs0));have HG:=aa (show g<w.heap.size from hb.lt);have HBK:=aa (hb.alloc (.cells (pkC pk0 hs0) PkT));have HKP:=aa (hk.below hb0);have HZC:=aa (pM v most g K n c a k e t w0 _ HBK.out HKP.out ht);have HZB:=aa (DM (v:=v) (t:=t));clear hb hk ht hb0;obtain⟨⟨z,x⟩,hz⟩:∃r,smZ v t=r:=⟨_,rfl⟩;rw[hz]at HE HZC HZB;dsimp only at HE HZC HZB;clear hz
 go_enter Tryz.func83,Tryz.ntmps83
 go_wp2_with fail
 refine HZC.out.mono ?_;rintro e' w1 ⟨rfl,hb⟩;have HB1:=aa (HB0.out.trans (hb.mono HB0.out.size));have HK1:=aa (HK0.out.below hb HK0.out.lt);have HBK1:=aa (HBK.out.below hb HBK.out.lt);have HKP1:=aa (HKP.out.below hb);clear hb HZC HB0 HK0 HBK HKP;have hst:=aW HK1.out pk0 hs0;have HBP:Hid (Below w.heap.size w (dE w1 w.heap.size pk0 hs0)):=aa (bT HB1.out HB1.out.size (ac _) pk0 hs0);have HKPP:=aa (cO HK1.out pk0 hs0)
 by_cases hx:x=0
 rotate_left
 ·have HX:Hid (smN v most t=(pk0,0,x)):=aa (by rw[HE.out,if_pos hx]);have e0:(x !=0)=true:=aA.2 hx;clear hx
  go_wp2
  refine av (eZ rfl _ rfl HKPP.out) rfl ?_;exact gR HX.out HBP.out
 have HE1:Hid (smN v most t=if most<(z:Nat)then(pk0,0,4)else if t.size<z then(pk0,0,3)else mqR v (t.extract 0 z)):=aa (by rw[HE.out,ae (fun y=>y hx)]);subst hx;have c1:w1.cell? ⟨g,1,none⟩=some (.int .i64 most):=HBK1.out.cell 1;have c2:w1.cell? ⟨g,2,none⟩=some (.slice K n c):=HBK1.out.cell 2
 by_cases hm:most<(z:Nat)
 ·have HX:Hid (smN v most t=(pk0,0,4)):=aa (by rw[HE1.out,if_pos hm])
  go_wp2
  refine av (eZ rfl _ rfl HKPP.out) rfl ?_;exact gR HX.out HBP.out
 have m1:decide (most<(z:Int))=false:=ah hm;have HE2:Hid (smN v most t=if t.size<z then(pk0,0,3)else mqR v (t.extract 0 z)):=aa (by rw[HE1.out,ae hm]);clear hm HE HE1
 go_upto_region 4 with fail
 go_upto_if 21 with fail
 clear m1
 go_upto_region 6 with fail
 by_cases hl:n<z
 ·have HX:Hid (smN v most t=(pk0,0,3)):=aa (by rw[HE2.out,if_pos (by rw[HL.out];exact hl)]);have m2:decide ((n:Int)<(z:Int))=true:=au (by omega);have m3:decide (n<z)=true:=au hl;clear hl
  go_wp2
  refine av (eZ rfl _ rfl HKPP.out) rfl ?_;exact gR HX.out HBP.out
 have m2:decide ((n:Int)<(z:Int))=false:=ah (by omega);have m3:decide (n<z)=false:=ah hl;have HZN:Hid (z≤n):=aa (by omega);have HX:Hid (smN v most t=mqR v (t.extract 0 z)):=aa (by rw[HE2.out,ae (by rw[HL.out];exact hl)]);clear hl HE2;clear HKPP HBP
 go_upto_region 8 with fail
 clear hst m2 m3 c1 c2;have HCV:Hid (∀W,Below w1.heap.size w1 W→(convert 75 9 (.slice K z c)).run Tryz.prog W= .ok (.string (t.extract 0 z)) W):=aa (fun W hW=>yB (HKP1.out.below hW) HZN.out);have HSB:Hid (∀W,Below w1.heap.size w1 W→W.cell? ⟨g,0,none⟩=some (.int .i64 v)∧W.cell? ⟨g,2,none⟩=some (.slice K n c)∧(convert 75 9 (.slice K z c)).run Tryz.prog W= .ok (.string (t.extract 0 z)) W):=aa (fun W hW=>⟨(HBK1.out.below hW HBK1.out.lt).cell 0,(HBK1.out.below hW HBK1.out.lt).cell 2,HCV.out W hW⟩);have HSP:Hid (∀W (p:Pk) (q:Hs),Below w1.heap.size w1 W→(dE W w.heap.size p q).cell? ⟨g,0,none⟩=some (.int .i64 v)∧(dE W w.heap.size p q).cell? ⟨g,2,none⟩=some (.slice K n c)∧(convert 75 9 (.slice K z c)).run Tryz.prog (dE W w.heap.size p q)= .ok (.string (t.extract 0 z)) (dE W w.heap.size p q)):=aa (fun W p q hW=>by
  have hk:=HK1.out.below hW HK1.out.lt;have hm:=cJ W w.heap.size p q;have hg:Bk (dE W w.heap.size p q) g SmT (smC v most K n c a k e):=(hm.block g (HBK1.out.below hW HBK1.out.lt).lt (fun e=>by cases e;exact absurd HG.out (Nat.lt_irrefl _))).trans (HBK1.out.below hW HBK1.out.lt);exact⟨hg.cell 0,hg.cell 2,yB ((HKP1.out.below hW).apart hk (by decide) hm) HZN.out⟩)
 have HBD:Hid (Below w1.heap.size w1 w1.drew):=aa (aV (aq w1.heap.size w1) 1);have hsl:=fun W=>Bi (P:=Tryz.prog) (t:=75) (e:=U8) (s:=1) Tryz.underlying75 (fun W=>by kernel_rfl) K n c z (aC HZN.out HKP1.out.cap) W;have HRD:=aa (fun W=>wS v (t.extract 0 z) W (by rw[aj];have:=HT.out;omega));obtain⟨R,hR⟩:∃R,mqR v (t.extract 0 z)=R:=⟨_,rfl⟩;rw[hR]at HX HRD;clear hR HCV;refine je (fun w'=>w'.cell? ⟨g,0,none⟩=some (.int .i64 v)∧w'.cell? ⟨g,2,none⟩=some (.slice K n c)∧(convert 75 9 (.slice K z c)).run Tryz.prog w'= .ok (.string (t.extract 0 z)) w') [] (by kernel_rfl) ?_;have HS:=HSB.out w1.drew HBD.out;refine aJ (i:=0) (v:=?va0) [] rfl (by kernel_rfl) (by kernel_rfl) (by kernel_rfl) (by kernel_rfl) (by kernel_rfl) (by kernel_rfl) (fun _ _ _ h=>h) (Or.inl ⟨by rfl,?ha0⟩) HS ?ra0
 case ha0=>intro w' hSw;(try dsimp only at hSw);obtain⟨s0,s2,s3⟩:=hSw;go_simp;try with_reducible rfl
 (try simp only[Act.put]);(try simp only[af]);(try simp only[am]);(try simp only[ak])
 refine aJ (i:=1) (v:=?va1) [] rfl (by kernel_rfl) (by kernel_rfl) (by kernel_rfl) (by kernel_rfl) (by kernel_rfl) (by kernel_rfl) (fun _ _ _ h=>h) (Or.inl ⟨by rfl,?ha1⟩) HS ?ra1
 case ha1=>intro w' hSw;(try dsimp only at hSw);obtain⟨s0,s2,s3⟩:=hSw;go_simp;try with_reducible rfl
 (try simp only[Act.put]);(try simp only[af]);(try simp only[am]);(try simp only[ak])
 refine aJ (i:=2) (v:=?va2) [] rfl (by kernel_rfl) (by kernel_rfl) (by kernel_rfl) (by kernel_rfl) (by kernel_rfl) (by kernel_rfl) (fun _ _ _ h=>h) (Or.inl ⟨by rfl,?ha2⟩) HS ?ra2
 case ha2=>intro w' hSw;(try dsimp only at hSw);obtain⟨s0,s2,s3⟩:=hSw;go_simp;try with_reducible rfl
 (try simp only[Act.put]);(try simp only[af]);(try simp only[am]);(try simp only[ak])
 refine aJ (i:=3) (v:=?va3) [] rfl (by kernel_rfl) (by kernel_rfl) (by kernel_rfl) (by kernel_rfl) (by kernel_rfl) (by kernel_rfl) (fun _ _ _ h=>h) (Or.inl ⟨by rfl,?ha3⟩) HS ?ra3
 case ha3=>intro w' hSw;(try dsimp only at hSw);obtain⟨s0,s2,s3⟩:=hSw;go_simp;try with_reducible rfl
 (try simp only[Act.put]);(try simp only[af]);(try simp only[am]);(try simp only[ak])
 refine aJ (i:=4) (v:=?va4) [] rfl (by kernel_rfl) (by kernel_rfl) (by kernel_rfl) (by kernel_rfl) (by kernel_rfl) (by kernel_rfl) (fun _ _ _ h=>h) (Or.inl ⟨by rfl,?ha4⟩) HS ?ra4
 case ha4=>intro w' hSw;(try dsimp only at hSw);obtain⟨s0,s2,s3⟩:=hSw;go_simp;try with_reducible rfl
 (try simp only[Act.put]);(try simp only[af]);(try simp only[am]);(try simp only[ak])
 refine aJ (i:=5) (v:=?va5) [] rfl (by kernel_rfl) (by kernel_rfl) (by kernel_rfl) (by kernel_rfl) (by kernel_rfl) (by kernel_rfl) (fun _ _ _ h=>h) (Or.inl ⟨by rfl,?ha5⟩) HS ?ra5
 case ha5=>intro w' hSw;(try dsimp only at hSw);obtain⟨s0,s2,s3⟩:=hSw;go_simp;try with_reducible rfl
 (try simp only[Act.put]);(try simp only[af]);(try simp only[am]);(try simp only[ak])
 refine aJ (i:=6) (v:=?va6) [] rfl (by kernel_rfl) (by kernel_rfl) (by kernel_rfl) (by kernel_rfl) (by kernel_rfl) (by kernel_rfl) (fun _ _ _ h=>h) (Or.inl ⟨by rfl,?ha6⟩) HS ?ra6
 case ha6=>intro w' hSw;(try dsimp only at hSw);obtain⟨s0,s2,s3⟩:=hSw;go_simp;try with_reducible rfl
 (try simp only[Act.put]);(try simp only[af]);(try simp only[am]);(try simp only[ak])
 refine aJ (i:=7) (v:=?va7) [] rfl (by kernel_rfl) (by kernel_rfl) (by kernel_rfl) (by kernel_rfl) (by kernel_rfl) (by kernel_rfl) (fun _ _ _ h=>h) (Or.inl ⟨by rfl,?ha7⟩) HS ?ra7
 case ha7=>intro w' hSw;(try dsimp only at hSw);obtain⟨s0,s2,s3⟩:=hSw;go_simp;try with_reducible rfl
 (try simp only[Act.put]);(try simp only[af]);(try simp only[am]);(try simp only[ak])
 refine aJ (i:=8) (v:=?va8) [] rfl (by kernel_rfl) (by kernel_rfl) (by kernel_rfl) (by kernel_rfl) (by kernel_rfl) (by kernel_rfl) (fun _ _ _ h=>h) (Or.inl ⟨by rfl,?ha8⟩) HS ?ra8
 case ha8=>intro w' hSw;(try dsimp only at hSw);obtain⟨s0,s2,s3⟩:=hSw;go_simp;try with_reducible rfl
 (try simp only[Act.put]);(try simp only[af]);(try simp only[am]);(try simp only[ak])
 refine aJ (i:=9) (v:=?va9) [] rfl (by kernel_rfl) (by kernel_rfl) (by kernel_rfl) (by kernel_rfl) (by kernel_rfl) (by kernel_rfl) (fun _ _ _ h=>h) (Or.inl ⟨by rfl,?ha9⟩) HS ?ra9
 case ha9=>intro w' hSw;(try dsimp only at hSw);obtain⟨s0,s2,s3⟩:=hSw;go_simp;try with_reducible rfl
 (try simp only[Act.put]);(try simp only[af]);(try simp only[am]);(try simp only[ak])
 refine aJ (i:=10) (v:=?va10) [] rfl (by kernel_rfl) (by kernel_rfl) (by kernel_rfl) (by kernel_rfl) (by kernel_rfl) (by kernel_rfl) (fun _ _ _ h=>h) (Or.inl ⟨by rfl,?ha10⟩) HS ?ra10
 case ha10=>intro w' hSw;(try dsimp only at hSw);obtain⟨s0,s2,s3⟩:=hSw;go_simp;try with_reducible rfl
 (try simp only[Act.put]);(try simp only[af]);(try simp only[am]);(try simp only[ak])
 refine cq (rs:=[11]) (by kernel_rfl) (by simp) (ep.cons rfl (fun K hK=>?_) ep.nil)
 go_simp
 go_at_call 25
 refine(HRD.out _).mono ?_;rintro e' w3 ⟨hh,rfl,hi3,hb3,hf3⟩;have B3:=aa (HBD.out.trans (hb3.mono HBD.out.size));have K3:=aa (HK1.out.below B3.out HK1.out.lt);have I3:=aa hi3;have F3:=aa hf3;have Z3:=aa hb3.size
 clear hi3 hb3 hf3 HS;have HS:=HSB.out w3 B3.out
 go_simp
 refine hK.out _ _ (fun _=>HS) ?_;clear hK K
 (try simp only[Act.put]);(try simp only[af]);(try simp only[am]);(try simp only[ak])
 refine aJ (i:=12) (v:=?vb12) [] rfl (by kernel_rfl) (by kernel_rfl) (by kernel_rfl) (by kernel_rfl) (by kernel_rfl) (by kernel_rfl) (fun _ _ _ h=>h) (Or.inl ⟨by rfl,?hb12⟩) HS ?rb12
 case hb12=>intro w' hSw;(try dsimp only at hSw);obtain⟨s0,s2,s3⟩:=hSw;go_simp;try with_reducible rfl
 (try simp only[Act.put]);(try simp only[af]);(try simp only[am]);(try simp only[ak])
 refine aJ (i:=13) (v:=?vb13) [] rfl (by kernel_rfl) (by kernel_rfl) (by kernel_rfl) (by kernel_rfl) (by kernel_rfl) (by kernel_rfl) (fun _ _ _ h=>h) (Or.inl ⟨by rfl,?hb13⟩) HS ?rb13
 case hb13=>intro w' hSw;(try dsimp only at hSw);obtain⟨s0,s2,s3⟩:=hSw;go_simp;try with_reducible rfl
 (try simp only[Act.put]);(try simp only[af]);(try simp only[am]);(try simp only[ak])
 refine aJ (i:=14) (v:=?vb14) [] rfl (by kernel_rfl) (by kernel_rfl) (by kernel_rfl) (by kernel_rfl) (by kernel_rfl) (by kernel_rfl) (fun _ _ _ h=>h) (Or.inl ⟨by rfl,?hb14⟩) HS ?rb14
 case hb14=>intro w' hSw;(try dsimp only at hSw);obtain⟨s0,s2,s3⟩:=hSw;go_simp;try with_reducible rfl
 (try simp only[Act.put]);(try simp only[af]);(try simp only[am]);(try simp only[ak])
 refine cq (rs:=[15]) (by kernel_rfl) (by simp) (ep.cons rfl (fun K hK=>?_) ep.nil);have hst:=aW K3.out R.1 hh
 go_simp
 clear hst HS;have HS:=HSP.out w3 R.1 hh B3.out;refine hK.out _ _ (fun _=>HS) ?_;clear hK K
 (try simp only[Act.put]);(try simp only[af]);(try simp only[am]);(try simp only[ak])
 refine cq (rs:=[16]) (by kernel_rfl) (by simp) (ep.cons rfl (fun K hK=>?_) ep.nil)
 go_simp
 refine hK.out _ _ (fun _=>HS) ?_;clear hK K
 (try simp only[Act.put]);(try simp only[af]);(try simp only[am]);(try simp only[ak])
 refine cq (rs:=[17]) (by kernel_rfl) (by simp) (ep.cons rfl (fun K hK=>?_) ep.nil)
 go_simp
 refine hK.out _ _ (fun _=>HS) ?_;clear hK K
 (try simp only[Act.put]);(try simp only[af]);(try simp only[am]);(try simp only[ak])
 refine oh (by kernel_rfl) ?_ _
 go_wp2
 refine av (eZ rfl _ rfl (cO K3.out R.1 hh)) rfl ?_;have BB:=HB1.out.trans (B3.out.mono HB1.out.size);exact⟨hh,by rw[HX.out];rfl,by rw[HX.out];exact I3.out.put K3.out (cJ _ _ _ _) F3.out (ch HK1.out.lt HBD.out.size),bT BB BB.size (ac _) R.1 hh,by rw[HX.out];exact F3.out.mono (aC HB1.out.size HBD.out.size)⟩
theorem wn (v most:Int) (g:Nat) (K:Option Addr) (n c a k z:Nat) (e:Int) (w:World) (hb:Bk w g SmT (smC v most K n c a k e)) (hz:z≤n) (hc:n≤c) (ha:a≤1000000000000) (hk:k≤1000000000000) (hn:n≤1000000000000):
  Calls Tryz.prog 84 #[.pointer (some ⟨g,0,none⟩),.int .i64 z] w fun e' w'=>e'= .returned (.tuple #[])∧Bk w' g SmT (smC v most (xt K n z 1) (n- z) (n- z) (a+z) (k+1) e)∧w.grownBy w' (some g):=by
 have HB:=aa hb;have hsl:=fun W=>Bl (P:=Tryz.prog) (t:=75) (e:=U8) (s:=1) Tryz.underlying75 (fun W=>by kernel_rfl) K n c z hz hc W;have h1:wrap64 ((a:Int)+(z:Int))=((a+z:Nat):Int):=by unfold wrap64;omega
 have h2:wrap64 ((k:Int)+1)=((k+1:Nat):Int):=by unfold wrap64;omega
 have d1:(a:Int)+(z:Int)≤9223372036854775807:=by omega
 have d2:(k:Int)+1≤9223372036854775807:=by omega
 have c2:w.cell? ⟨g,2,none⟩=some (.slice K n c):=HB.out.cell 2;have c3:w.cell? ⟨g,3,none⟩=some (.int .i64 a):=HB.out.cell 3;have c4:w.cell? ⟨g,4,none⟩=some (.int .i64 k):=HB.out.cell 4;have f2:=HB.out.free 2;have f3:=HB.out.free 3;have f4:=HB.out.free 4
 clear hb hz hc ha hk hn;obtain⟨K',hK'⟩:∃K',xt K n z 1=K':=⟨_,rfl⟩;obtain⟨n',hn'⟩:∃n',n- z=n':=⟨_,rfl⟩;rw[hK',hn']at hsl;rw[hK',hn'];clear hK' hn'
 go_enter Tryz.func84,Tryz.ntmps84
 go_wp2
 go_end0
 exact⟨rfl,((HB.out.put 2 (.slice K' n' n')).put 3 (.int .i64 ((a+z:Nat):Int))).put 4 (.int .i64 ((k+1:Nat):Int)),((cP w g 2 _).trans (cP _ g 3 _)).trans (cP _ g 4 _)⟩
theorem gQ (v most:Int) (g:Nat) (K:Option Addr) (n c a k:Nat) (e:Int) (w:World) (hb:Bk w g SmT (smC v most K n c a k e)):
  Calls Tryz.prog 37 #[.pointer (some ⟨g,0,none⟩)] w fun e' w'=>e'= .returned (.int .i64 n)∧w=w':=by
 have c2:w.cell? ⟨g,2,none⟩=some (.slice K n c):=hb.cell 2;clear hb
 go_enter Tryz.func37,Tryz.ntmps37
 go_wp2
 go_ret
 exact⟨rfl,rfl⟩
theorem iQ (v most:Int) (g:Nat) (K:Option Addr) (n c a k:Nat) (e:Int) (w:World) (hb:Bk w g SmT (smC v most K n c a k e)):
  Calls Tryz.prog 36 #[.pointer (some ⟨g,0,none⟩)] w fun e' w'=>e'= .returned (.int .i64 k)∧w=w':=by
 have c4:w.cell? ⟨g,4,none⟩=some (.int .i64 k):=hb.cell 4;clear hb
 go_enter Tryz.func36,Tryz.ntmps36
 go_wp2
 go_ret
 exact⟨rfl,rfl⟩
theorem mV (v most:Int) (g:Nat) (K:Option Addr) (n c a k:Nat) (e:Int) (w:World) (hb:Bk w g SmT (smC v most K n c a k e)):
  Calls Tryz.prog 40 #[.pointer (some ⟨g,0,none⟩)] w fun e' w'=>e'= .returned (.int .i64 a)∧w=w':=by
 have c3:w.cell? ⟨g,3,none⟩=some (.int .i64 a):=hb.cell 3;clear hb
 go_enter Tryz.func40,Tryz.ntmps40
 go_wp2
 go_ret
 exact⟨rfl,rfl⟩
theorem lS (v most:Int) (g:Nat) (K:Option Addr) (n c a k:Nat) (e:Int) (w:World) (hb:Bk w g SmT (smC v most K n c a k e)):
  Calls Tryz.prog 38 #[.pointer (some ⟨g,0,none⟩)] w fun e' w'=>e'= .returned (.int .i64 e)∧w=w':=by
 have c5:w.cell? ⟨g,5,none⟩=some (.int .i64 e):=hb.cell 5;clear hb
 go_enter Tryz.func38,Tryz.ntmps38
 go_wp2
 go_ret
 exact⟨rfl,rfl⟩
def fC (v:Int) (t:ByteArray) (e:Int):Int:=if e≠0 then 0 else if(smZ v t).2≠0 then 1 else((smZ v t).1:Int) - (t.size:Int)
theorem iR (v most:Int) (g:Nat) (K:Option Addr) (n c a k:Nat) (e:Int) (t:ByteArray) (w0 w:World) (hb:Bk w g SmT (smC v most K n c a k e)) (hk:Kp w0 w K n c (ls t)) (ht:t.size≤1000000000000):
  Calls Tryz.prog 35 #[.pointer (some ⟨g,0,none⟩)] w fun e' w'=>e'= .returned (.int .i64 (fC v t e))∧Below w.heap.size w w':=by
 have HE:Hid (fC v t e=if e≠0 then 0 else if(smZ v t).2≠0 then 1 else((smZ v t).1:Int) - (t.size:Int)):=aa rfl;have HB:=aa hb;have HL:Hid (t.size=n):=aa (by rw[←aN];exact hk.len);have HZC:=aa (pM v most g K n c a k e t w0 w hb hk ht);have HB0:=aa (aq w.heap.size w);have c5:w.cell? ⟨g,5,none⟩=some (.int .i64 e):=hb.cell 5;have HN:Hid (n≤1000000000000):=aa (by have:=HL.out;omega);have HZB:Hid ((smZ v t).1≤1000000000):=aa (by
  unfold smZ
  split
  ·exact ag _
  rename_i h;have h0:=il.1 h;obtain⟨b1,b2,b3,b4,b5⟩:=kw (v:=v) (s:=t.extract 0 (min t.size 5)) (h:=(hdR v (t.extract 0 (min t.size 5))).1) (a:=(hdR v (t.extract 0 (min t.size 5))).2.1) (by rw[←h0]);rw[aj]at b5;dsimp only;omega)
 clear hb hk ht
 go_enter Tryz.func35,Tryz.ntmps35
 by_cases he:e=0
 rotate_left
 ·have HX:Hid (fC v t e=0):=aa (by rw[HE.out,if_pos he]);have e0:(e !=0)=true:=aA.2 he;clear he
  go_wp2
  go_ret
  exact⟨by rw[HX.out];rfl,HB0.out⟩
 have HE1:Hid (fC v t e=if(smZ v t).2≠0 then 1 else((smZ v t).1:Int) - (t.size:Int)):=aa (by rw[HE.out,ae (fun x=>x he)]);subst he;obtain⟨⟨z,x⟩,hz⟩:∃r,smZ v t=r:=⟨_,rfl⟩;rw[hz]at HE1 HZC HZB;dsimp only at HE1 HZC HZB;clear hz HE
 go_wp2_with fail
 refine HZC.out.mono ?_;rintro e' w1 ⟨rfl,hb⟩;have HB1:=aa hb;have c2:w1.cell? ⟨g,2,none⟩=some (.slice K n c):=(HB.out.below hb HB.out.lt).cell 2;clear hb c5 HZC
 by_cases hx:x=0
 rotate_left
 ·have HX:Hid (fC v t 0=1):=aa (by rw[HE1.out,if_pos hx]);have e0:(x !=0)=true:=aA.2 hx;clear hx
  go_wp2
  go_ret
  exact⟨by rw[HX.out];rfl,HB1.out⟩
 ·have HX:Hid (fC v t 0=(z:Int) - (n:Int)):=aa (by rw[HE1.out,ae (fun y=>y hx),HL.out]);subst hx;have d1:(z:Int) - (n:Int)≤9223372036854775807:=by have:=HZB.out;omega
  have d2: -9223372036854775808≤(z:Int) - (n:Int):=by have:=HN.out;omega
  go_wp2
  go_ret
  exact⟨by rw[HX.out];rfl,HB1.out⟩
end Go.Proofs.YtpcleamaieaefaaGreatDoor
