/- A part of what the laws stand on: MqF, MsB, MsP, MsE, LimP, LmA, MsC, OpenK, MqH, MqK, MqL, MsF, MsG, LmB. -/
import Derived.Test.YtbdgkkmbnahgiaaGreatDoorMxG0MqB
import Derived.OwnWalk
set_option maxRecDepth 10000
set_option maxHeartbeats 8000000
namespace Go.Proofs.YtbdgkkmbnahgiaaGreatDoor
open Go.RowKit Go.Proofs.Tryz
section
attribute [local go_sem ↓] bD bF bH bI bu
attribute [local go_sem] bc aD bh bg bK bJ bd aY be aO ax cI dC dB dt dj di dA dr dp dn bW co bO bZ bX cz cy cw cu ct cC cn bS bP bR
def Gp(v:Array (Nat×Value)):Sem Value:=Instr.build WrT v
theorem DI(v:Array (Nat×Value)):Instr.build WrT v=Gp v:=rfl
theorem Bm(v k f:Int)(n:Nat)(t:ByteArray)(w:World):(Gp #[(0,.int .i64 v),(1,.agg #[.int .i64 k,.int .i64 f,.int .i64 n]),(2,.string t)]).run prog w= .ok (wrV v ⟨k,f,n⟩ t) w:=by kernel_rfl
theorem DT(a b:FuncId)(w:World):(Instr.field ChT (.agg #[.func (.func a) #[] #[],.func (.func b) #[] #[]]) 1).run prog w= .ok (.func (.func b) #[] #[]) w:=by kernel_rfl
attribute [local go_sem ↓] DI DT
attribute [local go_sem] Bm
theorem eZ{fn:Func}{p u u':Tmp}(hr:fn.results= #[.cell p PkT,.tmp u,.tmp u'])(tmps:Array Value){w:World}{g:Nat}{q:Pk}{h:Hs}(hp:tmps.getD p undef= .pointer (some ⟨g,0,none⟩))(hb:Bk w g PkT (pkC q h)):
  (results fn tmps).run prog w= .ok (.tuple #[pkV q h,tmps.getD u undef,tmps.getD u' undef]) w:=by
 rw[ml hr,hp];have hl:=Cn hb;generalize pkV q h=V at hl⊢;exact kG _ (⟨g,0,none⟩:Addr) w _ rfl |>.trans (kG _ V w _ hl)
def tM(r:Pk×Nat×Int)(w:World)(e:Ending)(w':World):Prop:=∃h,e= .returned (.tuple #[pkV r.1 h,.int .i64 (r.2.1:Nat),.int .i64 r.2.2])/\PkIn w' w'.heap.size r.1 h/\Below w.heap.size w w'/\ja w r.1 h
theorem gR{r:Pk×Nat×Int}{x:Int}{w w':World}(h:r=(pk0,0,x))(hb:Below w.heap.size w w'):tM r w (.returned (.tuple #[pkV pk0 hs0,.int .i64 0,.int .i64 x])) w':=by
 subst h;exact⟨hs0,rfl,wM _ _,hb,.inl rfl⟩
theorem zF{r:Pk×Nat×Int}{p:Pk}{n:Nat}{h:Hs}{w w':World}(hr:r=(p,n,0))(hi:PkIn w' w'.heap.size p h)(hb:Below w.heap.size w w')(hf:ja w p h):tM r w (.returned (.tuple #[pkV p h,.int .i64 n,.int .i64 0])) w':=by
 subst hr;exact⟨h,rfl,hi,hb,hf⟩
theorem wS(v:Int)(s:ByteArray)(w:World)(hs:s.size<=1000000000000):Calls prog 25 #[.int .i64 v,.string s] w (tM (mqR v s) w):=by
 have HE:Hid (mqR v s=if(hdR v s).2.2≠0 then(pk0,0,(hdR v s).2.2)
  else if s.size<(hdR v s).2.1+(hdR v s).1.n then(pk0,0,3)
  else if(chR v (hdR v s).1 (s.extract (hdR v s).2.1 ((hdR v s).2.1+(hdR v s).1.n))).2=0 then((chR v (hdR v s).1 (s.extract (hdR v s).2.1 ((hdR v s).2.1+(hdR v s).1.n))).1,(hdR v s).2.1+(hdR v s).1.n,0)
  else(pk0,0,if(chR v (hdR v s).1 (s.extract (hdR v s).2.1 ((hdR v s).2.1+(hdR v s).1.n))).2=3 then 5 else(chR v (hdR v s).1 (s.extract (hdR v s).2.1 ((hdR v s).2.1+(hdR v s).1.n))).2)):=aa rfl
 have HS:=aa hs;have HB:=aa ((aq w.heap.size w).alloc (ac _) (.cells (pkC pk0 hs0) PkT));have HK:=aa (Bk.fresh w PkT (pkC pk0 hs0));have HHD:=aa (fun W=>qy v s W (by omega));have HBK:Hid ((hdR v s).2.2=0->dS v (hdR v s).1.k=true/\(hdR v s).1.n<=268435455/\(hdR v s).2.1<=s.size):=aa (fun h0=>by
  obtain⟨b1,b2,b3,b4,b5⟩:=kw (v:=v) (s:=s) (h:=(hdR v s).1) (a:=(hdR v s).2.1) (by rw[<-h0]);exact⟨(nf.1 b1).2.1,b2,b5⟩)
 clear hs;obtain⟨⟨⟨k,f,n⟩,a,x⟩,hr⟩:∃r,hdR v s=r:=⟨_,rfl⟩;rw[hr]at HE HHD HBK;simp only[Cx]at HE HHD HBK;clear hr;go_enter func25,ntmps25
 go_wp2_with fail
 refine(HHD.o _).mono ?_;rintro e w1 ⟨rfl,hb⟩;have HB1:=aa (HB.o.trans (hb.mono HB.o.size));have HK1:=aa (HK.o.below hb HK.o.lt);clear hb HHD HB HK;obtain⟨y,hy⟩:∃y,w1.alloc (.cells #[.int .i64 k,.int .i64 f,.int .i64 n] 112)=y:=⟨_,rfl⟩;have HB2:Hid (Below w.heap.size w y):=aa (by rw[<-hy];exact HB1.o.alloc HB1.o.size _);have HK2:Hid (Bk y w.heap.size PkT (pkC pk0 hs0)):=aa (by rw[<-hy];exact HK1.o.alloc _);obtain⟨gh,hgh⟩:∃gh,w1.heap.size=gh:=⟨_,rfl⟩;have HH:Hid (Bk y gh 112 #[.int .i64 k,.int .i64 f,.int .i64 n]):=aa (by rw[<-hy,<-hgh];exact Bk.fresh w1 _ _)
 go_upto_region 2 with fail
 have HGH:Hid (w.heap.size<gh):=aa (by rw[<-hgh];exact HK1.o.lt);clear hy hgh HB1 HK1;clear w1;have hst:=aW HK2.o pk0 hs0;have HBD:Hid (Below w.heap.size w (dE y w.heap.size pk0 hs0)):=aa (bT HB2.o HB2.o.size (ac _) pk0 hs0);have HKP:=aa (cO HK2.o pk0 hs0)
 by_cases hx:x=0
 rotate_left
 ·have HX:Hid (mqR v s=(pk0,0,x)):=aa (by rw[HE.o,if_pos hx]);have e0:(x !=0)=true:=aA.2 hx;clear hx;go_wp2;refine av (eZ rfl _ rfl HKP.o) rfl ?_;exact gR HX.o HBD.o
 obtain⟨b1,b2,b3⟩:=HBK.o hx;have HKD:=aa b1;have HE1:Hid (mqR v s=if s.size<a+n then(pk0,0,3)else if(chR v ⟨k,f,n⟩ (s.extract a (a+n))).2=0 then((chR v ⟨k,f,n⟩ (s.extract a (a+n))).1,a+n,0)
  else(pk0,0,if(chR v ⟨k,f,n⟩ (s.extract a (a+n))).2=3 then 5 else(chR v ⟨k,f,n⟩ (s.extract a (a+n))).2)):=aa (by rw[HE.o,ae (fun z=>z hx)])
 subst hx;have HN:=aa b2;have HA:=aa b3
 have hsz:=HS.o;have c0:=HH.o.cell 0;have c1:=HH.o.cell 1;have c2:=HH.o.cell 2
 simp only[ay,aE,aB]at c0 c1 c2;clear HE HBK b1
 by_cases hlt:s.size<a+n
 ·have HX:Hid (mqR v s=(pk0,0,3)):=aa (by rw[HE1.o,if_pos hlt]);have d1:(s.size:Int) - (a:Int)<(n:Int):=by omega
  have d2: -9223372036854775808<=(s.size:Int) - (a:Int):=by omega
  have d3:(s.size:Int) - (a:Int)<=9223372036854775807:=by omega
  clear hlt;go_wp2;refine av (eZ rfl _ rfl HKP.o) rfl ?_;exact gR HX.o HBD.o
 have HE2:Hid (mqR v s=if(chR v ⟨k,f,n⟩ (s.extract a (a+n))).2=0 then((chR v ⟨k,f,n⟩ (s.extract a (a+n))).1,a+n,0)
  else(pk0,0,if(chR v ⟨k,f,n⟩ (s.extract a (a+n))).2=3 then 5 else(chR v ⟨k,f,n⟩ (s.extract a (a+n))).2)):=aa (by rw[HE1.o,ae hlt])
 have d1:(n:Int)<=(s.size:Int) - (a:Int):=by omega
 have HEND:Hid (a+n<=s.size):=aa (by omega);have d2: -9223372036854775808<=(s.size:Int) - (a:Int):=by omega
 have d3:(s.size:Int) - (a:Int)<=9223372036854775807:=by omega
 have hsu:wrap64 ((s.size:Int) - (a:Int))=(s.size:Int) - (a:Int):=by unfold wrap64;omega
 have had:wrap64 ((a:Int)+(n:Int))=((a+n:Nat):Int):=by unfold wrap64;omega
 have dle:decide ((s.size:Int) - (a:Int)<(n:Int))=false:=ah (by omega);have v1:(0:Int)<=(a:Int):=by omega
 have v2:(a:Int)<=((a+n:Nat):Int):=by omega
 have v3:((a+n:Nat):Int)<=(s.size:Int):=by omega
 clear hlt HE1
 go_upto_region 7 with fail
 obtain⟨q,hq⟩:∃q,a+n=q:=⟨_,rfl⟩;rw[show(a:Int)+(n:Int)=(q:Int) by omega];rw[hq]at HE2 HEND v2 v3;clear d1 d2 d3 hsu had dle hsz hst hq;obtain⟨T,hT⟩:∃T,s.extract a q=T:=⟨_,rfl⟩;rw[hT]at HE2;have HTS:Hid (T.size<=1000000000000):=aa (by rw[<-hT,aj];have:=HS.o;omega);have HWR:=aa (fun W=>Fj v ⟨k,f,n⟩ T W HTS.o);obtain⟨R,hR⟩:∃R,chR v ⟨k,f,n⟩ T=R:=⟨_,rfl⟩;rw[hR]at HE2 HWR;obtain⟨ca,cb,hl1,hl2,hl3,hl4,hl5⟩:=Et k;have hin:Dr k=true:=by
  have:=aR (show decide (1<=k/\(k<=14\/(k=15/\v=5)))=true from HKD.o);exact au (by omega)
 obtain⟨rfl,rfl⟩:=hl3 hin;have HLK:=aa (fun(W:World) (r:Nat) (hT:fQ .i64 W r ns)=>(El hT k hl1 hl2).2);have en:=fun args W=>CW (k:=k) args W;simp only[FC]at HLK;clear hl1 hl2 hl3 hl4 hl5 hin hR;generalize rF k=RF at*
 go_cut [6] (fun z wx=>∃hh,z= .int .i64 R.2/\Bk wx w.heap.size PkT (pkC R.1 hh)/\PkIn wx wx.heap.size R.1 hh/\Below w.heap.size w wx/\ja y R.1 hh)
 case first=>
  go_region_law ((first| (go_simp;go_at_call 89;refine(tC y.drew).mono ?_;rintro e w2 ⟨r,rfl,hMT,hb⟩;have hlk:=HLK.o w2 r hMT;have hB:Below y.heap.size y w2:=(aV (aq y.heap.size y) 1).trans hb;have hH2:=HH.o.below hB HH.o.lt;have hK2:=HK2.o.below hB HK2.o.lt;have k0:=hH2.cell 0;have k1:=hH2.cell 1;have k2:=hH2.cell 2;(simp only[ay,aE,aB]at k0 k1 k2)) | (go_simp;refine(HWR.o _).mono ?_;rintro e w3 ⟨hh,rfl,hi3,hb3,hf3⟩;have hK3:=hK2.below hb3 hK2.lt;have hst3:=aW hK3 R.1 hh)))
  all_goals
   go_wp2
   go_meet
   case rel=>
    have hB3:Below w.heap.size w w3:=HB2.o.trans ((hB.trans (hb3.mono hB.size)).mono HB2.o.size);exact⟨hh,rfl,cO hK3 R.1 hh,hi3.put hK3 (cJ _ _ _ _) hf3 (ch HK2.o.lt hB.size),bT hB3 hB3.size (ac _) R.1 hh,hf3.mono hB.size⟩
 obtain⟨hh,rfl,hkx,hix,hbx,hfx⟩:=hcut;obtain⟨wx,hwx⟩:∃x,x=wc:=⟨_,rfl⟩;subst hwx;have KX:=aa hkx;have IX:=aa hix;have BX:=aa hbx;have FX:=aa hfx
 have lX:=cf hkx;have HYL:=aa HK2.o.lt;have hsX:=aW hkx R.1 hh;have hsZ:=aW hkx pk0 hs0;clear hkx hix hbx hfx c0 c1 c2 en HLK HWR HH HK2 HB2 HBD HKP v1 v2 v3 b2 b3;obtain⟨P,E⟩:=R;dsimp only at HE2 KX IX BX FX lX hsX hsZ⊢
 by_cases hE:E=0
 ·have HX:Hid (mqR v s=(P,q,0)):=aa (by rw[HE2.o,if_pos hE]);subst hE;go_wp2;refine av (eZ rfl _ rfl (cO KX.o P hh)) rfl ?_;exact zF HX.o (IX.o.put KX.o (cJ _ _ _ _) FX.o HYL.o) (bT BX.o BX.o.size (ac _) _ _) (FX.o.mono (pf HYL.o))
 ·have HX0:Hid (mqR v s=(pk0,0,if E=3 then 5 else E)):=aa (by rw[HE2.o,ae hE]);have e0:(E==0)=false:=ar.2 hE;have hb:Below w.heap.size w (dE wx w.heap.size pk0 hs0):=bT BX.o BX.o.size (ac _) _ _;have hk:=cO KX.o pk0 hs0;have HBX:=aa hb;have HKX:=aa hk
  clear hb hk
  by_cases h3:E=3
  ·have HX:Hid (mqR v s=(pk0,0,5)):=aa (by rw[HX0.o,if_pos h3]);have e3:(E==3)=true:=aK.2 h3;clear h3 hE;go_wp2;refine av (eZ rfl _ rfl HKX.o) rfl ?_;exact gR HX.o HBX.o
  ·have HX:Hid (mqR v s=(pk0,0,E)):=aa (by rw[HX0.o,ae h3]);have e3:(E==3)=false:=ar.2 h3;clear h3 hE;go_wp2;refine av (eZ rfl _ rfl HKX.o) rfl ?_;exact gR HX.o HBX.o
end
section
attribute [local go_sem ↓] bD bF bH bI bu
attribute [local go_sem] bc aD bh bg bK bJ bd aY be aO ax cI dC dB dt dj di dA dr dp dn bW co bO bZ bX cz cy cw cu ct cC cn bS bP bR
abbrev SmT:TypeId:=127
def smC(v most:Int)(K:Option Addr)(n c a k:Nat)(e:Int):Array Value:=#[.int .i64 v,.int .i64 most,.slice K n c,.int .i64 a,.int .i64 k,.int .i64 e]
def hdC(k f n:Int):Array Value:=#[.int .i64 k,.int .i64 f,.int .i64 n]
def Gs(b:Bool)(v:Value):Sem Value:=Instr.alloc 112 b v
def AY(a v:Value):Sem Unit:=Instr.storeAt 112 a v
theorem DJ(b:Bool)(v:Value):Instr.alloc 112 b v=Gs b v:=rfl
theorem DH(a v:Value):Instr.storeAt 112 a v=AY a v:=rfl
theorem Br(w:World):(Gs true (.tuple #[])).run prog w= .ok (.pointer (some ⟨w.heap.size,0,none⟩)) (w.alloc (.cells (hdC 0 0 0) 112)):=by kernel_rfl
theorem Ez:(prog.info? 112).map (·.size)=some 3:=by kernel_rfl
theorem AR{w:World}{g:Nat}{k f n:Int}(hb:Bk w g 112 (hdC k f n)):w.there g 0 3:=fun j hj=>by
 rw[bV,hb.cell,hb.free];refine⟨?_,rfl⟩;rw[eL (by exact hj)];rfl
def rR(w:World)(g:Nat)(k f n:Int):World:=w.setCells g 0 (hdC k f n).toList
theorem uj{w:World}{g:Nat}{k0 f0 n0:Int}(hb:Bk w g 112 (hdC k0 f0 n0))(k f n:Int):(AY (.pointer (some ⟨g,0,none⟩)) (.agg #[.int .i64 k,.int .i64 f,.int .i64 n])).run prog w= .ok () (rR w g k f n):=by
 unfold AY;exact run_storeAt_mid w g 0 112 (hdC k f n) (AR hb) Ez (by simp[hdC,Value.oneCell'])
theorem uL(w:World)(k0 f0 n0 k f n:Int):rR (w.alloc (.cells (hdC k0 f0 n0) 112)) w.heap.size k f n=w.alloc (.cells (hdC k f n) 112):=by
 unfold rR;rw[io,qa (cs:=hdC k0 f0 n0) (ds:=hdC k f n) rfl]
theorem pR(w:World)(k f n:Int):(AY (.pointer (some ⟨w.heap.size,0,none⟩)) (.agg #[.int .i64 k,.int .i64 f,.int .i64 n])).run prog (w.alloc (.cells (hdC 0 0 0) 112))= .ok () (w.alloc (.cells (hdC k f n) 112)):=by
 rw[uj (Bk.fresh w 112 (hdC 0 0 0)),uL]
attribute [local go_sem ↓] DJ DH
attribute [local go_sem] Br pR
end
theorem yb:∀(l m:List UInt8) (n k:Nat),(rv l n k).2.2≠3->rv (l++m) n k=rv l n k
 | [],m,n,k,h=>absurd rfl h
 | b :: l,m,n,k,h=>by
   rw[IJ,rv,rv];rw[rv]at h;split
   ·rename_i hb;rw[if_pos hb]at h;split
    ·rfl
    ·rename_i hk;rw[ae hk]at h;exact yb l m _ _ h
   ·rfl
theorem ui:∀(l:List UInt8) (n k:Nat),k<=3->(rv l n k).2.2=3->l.length+k<=3
 | [],n,k,hk,_=>by simpa using hk
 | b :: l,n,k,hk,h=>by
   rw[rv]at h;split at h
   ·split at h
    ·simp at h
    ·have:=ui l _ (k+1) (by omega) h;rw[bM];omega
   ·split at h
    ·simp at h
    ·simp at h
theorem nd{v:Int}{s u:ByteArray}(h:(hdR v s).2.2≠3):hdR v (s++u)=hdR v s:=by
 unfold hdR at h⊢
 by_cases hk:ba v=false
 ·simp only[if_pos hk]
 by_cases hz:s.size=0
 ·rw[ae hk,if_pos hz]at h;exact absurd rfl h
 have hz':(s++u).size≠0:=by rw[cK];omega
 have hb:cU (s++u)=cU s:=by
  unfold cU;rw[fe];cases hl:ls s with
  | nil=>exact absurd (by rw[<-aN,hl];rfl) hz
  | cons x l=>rfl
 have hr:ls ((s++u).extract 1 (s++u).size)=ls (s.extract 1 s.size)++ls u:=by
  rw[jP,jP,fe,List.drop_append_of_le_length (by rw[aN];omega)]
 rw[ae hk,ae hz]at h;rw[ae hk,ae hz',ae hk,ae hz,hb,hr]
 by_cases hc:ff v (cU s/ 16:Nat) (cU s% 16:Nat)≠0
 ·rw[if_pos hc,if_pos hc]
 rw[ae hc]at h;rw[ae hc,ae hc];have hrv:(bm (ls (s.extract 1 s.size))).2.2≠3:=by
  intro e;rw[if_pos (by rw[e];decide)]at h;exact h e
 rw[show bm (ls (s.extract 1 s.size)++ls u)=bm (ls (s.extract 1 s.size))from yb _ (ls u) 0 0 hrv]
theorem Ad(v k f:Int):ff v k f≠3:=by
 unfold ff;cases ba v<;>cases dS v k<;>cases eu k f<;>simp
theorem sf{v:Int}{s:ByteArray}(h:(hdR v s).2.2=3):s.size<=4:=by
 unfold hdR at h;split at h
 ·simp at h
 split at h
 ·omega
 split at h
 ·exact absurd h (Ad _ _ _)
 split at h
 ·have:=ui _ 0 0 (by omega) h;rw[jP,bU,aN]at this;omega
 ·simp at h
theorem Cy(v:Int)(t:ByteArray):hdR v (t.extract 0 (min t.size 5))=hdR v t:=by
 by_cases h:t.size<=5
 ·congr 1
  apply eX;rw[ix,bt (by rw[aN];omega)]
 ·have e3:(hdR v (t.extract 0 5)).2.2≠3:=fun e=>by
   have:=sf e;rw[aj]at this;omega
  have hs:t.extract 0 5++t.extract 5 t.size=t:=eX (by rw[fe,ix,m9,cg]);have:=nd (u:=t.extract 5 t.size) e3;rw[hs]at this;rw[show min t.size 5=5 by omega,this]
theorem ED{v:Int}{t:ByteArray}(h:(hdR v t).2.2=0){z:Nat}(hz:(hdR v t).2.1<=z):hdR v (t.extract 0 z)=hdR v t:=by
 obtain⟨b1,b2,b3,b4,b5⟩:=kw (v:=v) (s:=t) (h:=(hdR v t).1) (a:=(hdR v t).2.1) (by rw[<-h]);have:=Ab b1 b2 (s:=t.extract 0 z) (R:=((ls t).drop (hdR v t).2.1).take (z- (hdR v t).2.1)) (by
  rw[ix]
  conv=>lhs;rw[b3]
  rw[ot,bt (by omega),<-b4])
 rw[this,<-b4,<-h]
def hdZ(v:Int)(t:ByteArray):Nat:=(hdR v t).2.1+(hdR v t).1.n
theorem AZ(v:Int)(t:ByteArray):smZ v t=if(hdR v t).2.2≠0 then(0,(hdR v t).2.2)else(hdZ v t,0):=by
 unfold smZ;rw[Cy];rfl
theorem nI(v most:Int)(t:ByteArray):smN v most t=if(hdR v t).2.2≠0 then(pk0,0,(hdR v t).2.2)else if most<(hdZ v t:Nat)then(pk0,0,4)else if t.size<hdZ v t then(pk0,0,3)else mqR v (t.extract 0 (hdZ v t)):=by
 unfold smN;rw[AZ]
 by_cases h:(hdR v t).2.2≠0
 ·rw[if_pos h,if_pos h];exact(if_pos h).symm
 ·rw[ae h,ae h];exact ae (fun x=>x rfl)
theorem nG{v most:Int}{t:ByteArray}(h:(hdR v t).2.2=3\/((hdR v t).2.2=0/\(hdZ v t:Int)<=most/\t.size<hdZ v t)):(smN v most t).2.2=3:=by
 rw[nI];rcases h with h| ⟨h1,h2,h3⟩
 ·rw[if_pos (by rw[h];decide)];exact h
 ·rw[ae (fun x=>x h1),ae (by omega),if_pos h3]
theorem Ba(v most:Int):∀(f f':Nat) (t:ByteArray) (a k:Nat) (l:List Pk),t.size<f->t.size<f'->smF v most f t a k l=smF v most f' t a k l
 | 0,_,_,_,_,_,h,_=>absurd h (by omega)
 | _+1,0,_,_,_,_,_,h=>absurd h (by omega)
 | f+1,f'+1,t,a,k,l,h,h'=>by
   rw[mU,mU];split
   ·rename_i h0;have:=jD h0;exact Ba v most f f' _ _ _ _ (by rw[aj];omega) (by rw[aj];omega)
   ·rfl
def smG(v most:Int)(t:ByteArray)(a k:Nat)(l:List Pk):List Pk×ByteArray×Nat×Nat×Int:=smF v most (t.size+1) t a k l
theorem fK(v most:Int)(t:ByteArray)(a k:Nat)(l:List Pk):smG v most t a k l=
  if(smN v most t).2.2=0 then smG v most (t.extract (smN v most t).2.1 t.size) (a+(smN v most t).2.1) (k+1) (l++[(smN v most t).1])
  else if(smN v most t).2.2=3 then(l,t,a,k,0)
  else(l,⟨#[]⟩,a,k,(smN v most t).2.2):=by
 unfold smG;rw[mU];split
 ·rename_i h0;have:=jD h0;exact Ba v most _ _ _ _ _ _ (by rw[aj];omega) (ed _)
 ·rfl
theorem t6{v most:Int}{t:ByteArray}(h:(smN v most t).2.2=3)(a k:Nat)(l:List Pk):smG v most t a k l=(l,t,a,k,0):=by
 rw[fK,ae (by rw[h];decide),if_pos h]
theorem t7{v most:Int}(hv:ba v=true)(a k:Nat)(l:List Pk):smG v most ⟨#[]⟩ a k l=(l,⟨#[]⟩,a,k,0):=by
 refine t6 (nG (.inl ?_)) a k l;unfold hdR;rw[ae (by rw[hv];decide),if_pos (show(⟨#[]⟩:ByteArray).size=0 from rfl)]
theorem M7{v most:Int}{p:Pk}(h:mqE v p=0)(hn:∀q∈p.props,q.n<4294967296)(hw:∀q∈p.will.props,q.n<4294967296)(hm:((mqS v p).size:Int)<=most):smN v most (mqS v p)=(p,(mqS v p).size,0):=by
 have hf:mqR v (mqS v p)=(p,(mqS v p).size,0):=Lb h hn hw (R:=[]) (cW _).symm;have h1:(hdR v (mqS v p)).2.2=0:=by
  have:=hf;unfold mqR at this;split at this
  ·rename_i h1;simp only[bG]at this;exact absurd this.2.2 h1
  ·rename_i h1;exact il.1 h1
 have hz:hdZ v (mqS v p)=(mqS v p).size:=by
  have:=hf;unfold mqR at this;rw[ae (fun x=>x h1)]at this;split at this
  ·simp at this
  split at this
  ·simp only[bG]at this;exact this.2.1
  ·rename_i h2 h3;simp only[bG]at this;have h4:=this.2.2;split at h4
   ·cases h4
   ·exact absurd h4 h3
 have he:(mqS v p).extract 0 (mqS v p).size=mqS v p:=eX (by rw[ix,bt (by rw[aN];exact ac _)]);rw[nI,ae (fun x=>x h1),hz,ae (by omega),ae (WQ _),he,hf]
section
attribute [local go_sem ↓] bD bF bH bI bu
attribute [local go_sem] bc aD bh bg bK bJ bd aY be aO ax cI dC dB dt dj di dA dr dp dn bW co bO bZ bX cz cy cw cu ct cC cn bS bP bR
def nF(v mp md:Int):Bool:=ba v&&decide (16<=mp/\mp<=1048576/\0<=md/\md<=32)
def zW(mp md:Int):Value:=.agg #[.int .i64 mp,.int .i64 md]
def WK(n:Nat)(z:Int):Bool:=decide (0<=z)&&decide (z<=(n:Int))
def plL(n:Nat)(l:List Int):List Int:=(l.filter (WK n)).mergeSort fun x y=>decide (x<=y)
theorem Yd:∀a b c:Int,decide (a<=b)=true->decide (b<=c)=true->decide (a<=c)=true:=fun a b c h1 h2=>by
 simp only[Fx]at*;omega
theorem Ye:∀a b:Int,(decide (a<=b) || decide (b<=a))=true:=fun a b=>by
 simp only[Bool.or_eq_true,Fx];omega
theorem Xu(n:Nat)(l:List Int):(plL n l).Pairwise fun a b=>decide (a<=b)=true:=List.pairwise_mergeSort Yd Ye _
theorem XF{n:Nat}{l m:List Int}(h:(l.filter (WK n)).Perm m)(hm:m.Pairwise fun a b=>decide (a<=b)=true):plL n l=m:=by
 refine List.Perm.eq_of_pairwise (le:=fun a b=>decide (a<=b)=true) (fun a b _ _ h1 h2=>?_) (Xu n l) hm ((List.mergeSort_perm _ _).trans h);simp only[Fx]at h1 h2;omega
theorem XO{n:Nat}{l:List Int}{z:Int}(h:z∈plL n l):z∈l/\0<=z/\z<=(n:Int):=by
 have h1:=(List.mergeSort_perm _ _).mem_iff.1 h;obtain⟨h2,h3⟩:=WV.1 h1;simp only[WK,eh,Fx]at h3;exact⟨h2,h3⟩
theorem Xc(n:Nat)(l:List Int):(plL n l).length=(l.filter (WK n)).length:=(List.mergeSort_perm _ _).length_eq
theorem XA(n:Nat)(l:List Int):(plL n l).length<=l.length:=by
 rw[Xc];exact WJ _ _
structure PlOk (n:Nat) (L:List Int):Prop where
 rng:∀z∈L,0<=z/\z<=(n:Int)
 asc:L.Pairwise fun a b=>decide (a<=b)=true
theorem Ya(n:Nat)(l:List Int):PlOk n (plL n l):=⟨fun _ h=>(XO h).2,Xu n l⟩
def lkA(L:List Int)(i:Nat):Nat:=if i=0 then 0 else(L.getD (i- 1) 0).toNat
def lkZ(L:List Int)(n i:Nat):Nat:=if i<L.length then(L.getD i 0).toNat else n
theorem vc(L:List Int):lkA L 0=0:=if_pos rfl
theorem vd(L:List Int)(i:Nat):lkA L (i+1)=(L.getD i 0).toNat:=by
 unfold lkA;rw[ae (by omega),Nat.add_sub_cancel]
theorem FH{L:List Int}{n i:Nat}(h:i<L.length):lkZ L n i=lkA L (i+1):=by
 unfold lkZ;rw[if_pos h,vd]
theorem Eu{L:List Int}{n i:Nat}(h:¬i<L.length):lkZ L n i=n:=ae h
theorem EF{L:List Int}{i:Nat}(h:i<L.length):L.getD i 0=L[i]:=by
 simp[List.getD,List.getElem?_eq_getElem h]
theorem PlOk.at{n:Nat}{L:List Int}(x:PlOk n L){i:Nat}(h:i<L.length):((lkA L (i+1):Nat):Int)=L[i]/\lkA L (i+1)<=n:=by
 have:=x.rng _ (iY h);rw[vd,EF h];omega
theorem PlOk.le{n:Nat}{L:List Int}(x:PlOk n L){i:Nat}(h:i<=L.length):lkA L i<=lkZ L n i/\lkZ L n i<=n:=by
 rcases fj i L.length with hi| hi
 ·rw[FH hi];refine⟨?_,(x.at hi).2⟩;rcases dh i with rfl| hp
  ·rw[vc];exact ag _
  ·obtain⟨k,rfl⟩:∃k,i=k+1:=⟨i- 1,by omega⟩;have h1:=(x.at (show k<L.length by omega)).1;have h2:=(x.at hi).1;have h3:L[k]'(by omega)<=L[k+1]:=by
    have:=List.pairwise_iff_getElem.1 x.asc k (k+1) (by omega) hi (by omega)
    simpa using this
   omega
 ·rw[Eu (by omega)];refine⟨?_,ac _⟩;rcases dh i with rfl| hp
  ·rw[vc];exact ag _
  ·obtain⟨k,rfl⟩:∃k,i=k+1:=⟨i- 1,by omega⟩;exact(x.at (show k<L.length by omega)).2
def lkS(s:ByteArray)(L:List Int)(i:Nat):ByteArray:=s.extract (lkA L i) (lkZ L s.size i)
def lkL(s:ByteArray)(L:List Int):List ByteArray:=(List.range (L.length+1)).map (lkS s L)
theorem XR(s:ByteArray)(L:List Int):(lkL s L).length=L.length+1:=by simp[lkL]
theorem Xh(s:ByteArray)(L:List Int)(i:Nat):(List.range (i+1)).map (lkS s L)=(List.range i).map (lkS s L)++[lkS s L i]:=by
 rw[List.range_succ,Ii];rfl
theorem Xm:lkL ⟨#[97,98,99]⟩ (plL 3 [2,0])=[⟨#[]⟩,⟨#[97,98]⟩,⟨#[99]⟩]:=by
 rw[show plL 3 [2,0]=[0,2]from XF (List.Perm.swap _ _ _) (by decide)]
 decide+kernel
def txv(l:List ByteArray):List Value:=l.map Value.string
theorem Xf(l:List ByteArray)(x:ByteArray):txv (l++[x])=txv l++[.string x]:=by simp[txv]
theorem Xt(l:List ByteArray):∀u∈txv l,u.oneCell'=true:=by
 intro u hu;obtain⟨c,_,rfl⟩:=jX.1 hu;rfl
theorem Rd.atT{w:World}{B n:Nat}{A:Option Addr}{l:List ByteArray}(h:Rd w B 1 A n (txv l)){i:Nat}(hi:i<n):∃b o z,A=some ⟨b,o,none⟩/\b<B/\l[i]? =some z/\w.cell? ⟨b,o+i,none⟩=some (.string z):=by
 obtain⟨b,o,u,e,hb,hu,hc⟩:=h.at1 hi;have hl:i<l.length:=by have:=h.len;simp[txv]at this;omega
 refine⟨b,o,l[i],e,hb,List.getElem?_eq_getElem hl,?_⟩;have:u= .string l[i]:=by simpa [txv,hl]using hu.symm
 rw[<-this];exact hc
theorem XW(t:ByteArray)(a n:Nat):(t.extract 0 (a+n)).extract a (a+n)=t.extract a (a+n):=eX (by
 rw[db,db,ix,List.drop_take,Nat.add_sub_cancel_left,List.take_take,Nat.min_self])
theorem XC(s:ByteArray)(a q:Nat):(s.extract a s.size).extract q (s.extract a s.size).size=s.extract (a+q) s.size:=eX (by
 rw[m9,m9,m9,et])
theorem XP{v:Int}{t:ByteArray}(h0:(hdR v t).2.2=0)(hz:hdZ v t<=t.size):mqR v (t.extract 0 (hdZ v t))=mqR v t:=by
 have e:=ED h0 (z:=hdZ v t) (iX _ _);have hs:(t.extract 0 (hdZ v t)).size=hdZ v t:=by rw[aj];omega
 have h1:¬((t.extract 0 (hdZ v t)).size<(hdR v t).2.1+(hdR v t).1.n):=by rw[hs];exact WQ _
 have h2:¬(t.size<(hdR v t).2.1+(hdR v t).1.n):=Nat.not_lt.2 hz;have h3:(t.extract 0 (hdZ v t)).extract (hdR v t).2.1 ((hdR v t).2.1+(hdR v t).1.n)=t.extract (hdR v t).2.1 ((hdR v t).2.1+(hdR v t).1.n):=XW t _ _;have l1:mqR v (t.extract 0 (hdZ v t))=if(chR v (hdR v t).1 (t.extract (hdR v t).2.1 ((hdR v t).2.1+(hdR v t).1.n))).2=0 then((chR v (hdR v t).1 (t.extract (hdR v t).2.1 ((hdR v t).2.1+(hdR v t).1.n))).1,(hdR v t).2.1+(hdR v t).1.n,0)
   else(pk0,0,if(chR v (hdR v t).1 (t.extract (hdR v t).2.1 ((hdR v t).2.1+(hdR v t).1.n))).2=3 then 5 else(chR v (hdR v t).1 (t.extract (hdR v t).2.1 ((hdR v t).2.1+(hdR v t).1.n))).2):=by
  unfold mqR;rw[e,ae (fun x=>x h0),ae h1,h3]
 rw[l1];unfold mqR;rw[ae (fun x=>x h0:¬(hdR v t).2.2≠0),ae h2]
theorem W7(v most:Int)(t:ByteArray):smN v most t=if(hdR v t).2.2≠0 then(pk0,0,(hdR v t).2.2)else if most<(hdZ v t:Nat)then(pk0,0,4)else mqR v t:=by
 rw[nI]
 by_cases h0:(hdR v t).2.2≠0
 ·rw[if_pos h0,if_pos h0]
 rw[ae h0,ae h0]
 by_cases h1:most<(hdZ v t:Nat)
 ·rw[if_pos h1,if_pos h1]
 rw[ae h1,ae h1]
 by_cases h2:t.size<hdZ v t
 ·rw[if_pos h2];unfold mqR;rw[ae h0];exact(if_pos h2).symm
 ·rw[ae h2,XP (il.1 h0) (by omega)]
def WZ(mp md:Int):Bool:=decide (16<=mp/\mp<=1048576/\0<=md/\md<=32)
theorem WM(v mp md:Int):nF v mp md=(ba v&&WZ mp md):=rfl
def lmC(mp md:Int):Int:=if WZ mp md=true then 0 else 2
theorem Xp{mp md:Int}(h:WZ mp md=true):lmC mp md=0:=if_pos h
theorem Xd{mp md:Int}(h:¬WZ mp md=true):lmC mp md=2:=ae h
def lmS(v mp md:Int)(s:ByteArray):List Pk×Nat×Int:=if nF v mp md=true then((smG v mp s 0 0 []).1,(smG v mp s 0 0 []).2.2.1,(smG v mp s 0 0 []).2.2.2.2)else([],0,2)
def WL(v mp md:Int)(p:Pk):Bool:=WZ mp md&&(decide ((mqB v p).2=0)&&decide (((mqB v p).1.size:Int)<=mp))
theorem XN{v mp:Int}{s:ByteArray}{a n:Nat}{l:List Pk}{RES:List Pk×Nat×Int}(hF:RES=((smG v mp (s.extract a s.size) a n l).1,(smG v mp (s.extract a s.size) a n l).2.2.1,(smG v mp (s.extract a s.size) a n l).2.2.2.2)){P:Pk}{q:Nat}{E:Int}(hR:smN v mp (s.extract a s.size)=(P,q,E)):
  (E=3->RES=(l,a,0))/\(E≠0->E≠3->RES=(l,a,E))/\(E=0->(2<=q/\a+q<=s.size\/s.size<a)/\RES=((smG v mp (s.extract (a+q) s.size) (a+q) (n+1) (l++[P])).1,(smG v mp (s.extract (a+q) s.size) (a+q) (n+1) (l++[P])).2.2.1,(smG v mp (s.extract (a+q) s.size) (a+q) (n+1) (l++[P])).2.2.2.2)):=by
 have hs:=jD (v:=v) (most:=mp) (t:=s.extract a s.size);rw[fK,hR]at hF;rw[hR]at hs;dsimp only at hF hs;rw[XC]at hF;refine⟨fun h=>?_,fun h0 h3=>?_,fun h=>?_⟩
 ·rw[ae (by rw[h];decide),if_pos h]at hF;exact hF
 ·rw[ae h0,ae h3]at hF;exact hF
 ·have:=hs h;rw[aj]at this;rw[if_pos h]at hF;exact⟨by omega,hF⟩
theorem XH{v:Int}{p:Pk}(h:mqE v p=0)(hn:∀q∈p.props,q.n<4294967296)(hw:∀q∈p.will.props,q.n<4294967296):(hdR v (mqS v p)).2.2=0/\hdZ v (mqS v p)=(mqS v p).size:=by
 have hf:mqR v (mqS v p)=(p,(mqS v p).size,0):=Lb h hn hw (R:=[]) (cW _).symm;have h1:(hdR v (mqS v p)).2.2=0:=by
  have:=hf;unfold mqR at this;split at this
  ·rename_i h1;simp only[bG]at this;exact absurd this.2.2 h1
  ·rename_i h1;exact il.1 h1
 refine⟨h1,?_⟩;have:=hf;unfold mqR at this;rw[ae (fun x=>x h1)]at this;split at this
 ·simp at this
 split at this
 ·simp only[bG]at this;exact this.2.1
 ·rename_i h2 h3;simp only[bG]at this;have h4:=this.2.2;split at h4
  ·cases h4
  ·exact absurd h4 h3
theorem Xa{v:Int}{p:Pk}(h:mqE v p=0):ba v=true:=by
 cases hk:ba v with
 | true=>rfl
 | false=>
   unfold mqE at h;rw[if_pos hk]at h;cases h
theorem W6{v:Int}(hv:ba v=true){z:Int}(h1:16<=z)(h2:z<=1048576):nF v z 0=true:=by
 rw[WM,hv,aL];exact au ⟨h1,h2,by decide,by decide⟩
theorem XJ{v:Int}{p:Pk}(h:mqE v p=0)(hn:∀q∈p.props,q.n<4294967296)(hw:∀q∈p.will.props,q.n<4294967296)(h1:16<=(mqS v p).size)(h2:(mqS v p).size<=1048576):lmS v ((mqS v p).size:Nat) 0 (mqS v p)=([p],(mqS v p).size,0):=by
 have hv:=Xa h;have hx:(mqS v p).extract (mqS v p).size (mqS v p).size=⟨#[]⟩:=eX (by rw[m9,gD (by rw[aN];exact ac _)];rfl);have hg:smG v ((mqS v p).size:Nat) (mqS v p) 0 0 []=([p],⟨#[]⟩,(mqS v p).size,1,0):=by
  rw[fK,M7 h hn hw (Int.le_refl _),if_pos rfl];dsimp only;rw[hx,t7 hv];simp
 unfold lmS;rw[if_pos (W6 hv (by omega) (by omega)),hg]
theorem XI{v:Int}{p:Pk}(h:mqE v p=0)(hn:∀q∈p.props,q.n<4294967296)(hw:∀q∈p.will.props,q.n<4294967296)(h1:17<=(mqS v p).size)(h2:(mqS v p).size<=1048576):lmS v (((mqS v p).size:Nat) - 1:Int) 0 ((mqS v p).extract 0 5)=([],0,4):=by
 have hv:=Xa h;obtain⟨e1,e2⟩:=XH h hn hw;have e3:=Cy v (mqS v p);rw[show min (mqS v p).size 5=5 by omega]at e3;have e4:hdZ v ((mqS v p).extract 0 5)=(mqS v p).size:=by
  unfold hdZ at e2⊢;rw[e3];exact e2
 have hg:smG v (((mqS v p).size:Nat) - 1:Int) ((mqS v p).extract 0 5) 0 0 []=([],⟨#[]⟩,0,0,4):=by
  have hN:smN v (((mqS v p).size:Nat) - 1:Int) ((mqS v p).extract 0 5)=(pk0,0,4):=by
   rw[W7,e3,ae (fun x=>x e1),if_pos (by rw[e4];omega)]
  rw[fK,hN,ae (by decide),ae (by decide)]
 unfold lmS;rw[if_pos (W6 hv (by omega) (by omega)),hg]
theorem XU{v:Int}{p:Pk}(h:mqE v p=0){z:Int}(hv:16<=z)(h2:z<=1048576)(h3:((mqS v p).size:Int)<=z):WL v z 0 p=true:=by
 have hb:mqB v p=(mqS v p,0):=if_pos h;unfold WL WZ;rw[hb,au (show 16<=z/\z<=1048576/\(0:Int)<=0/\(0:Int)<=32 from⟨hv,h2,by decide,by decide⟩)]
 simpa using h3
theorem Yc{v:Int}{p:Pk}(h:mqE v p=0){z:Int}(h3:z<((mqS v p).size:Int)):WL v z 0 p=false:=by
 have hb:mqB v p=(mqS v p,0):=if_pos h;unfold WL;rw[hb];dsimp only;rw[ah (show ¬((mqS v p).size:Int)<=z by omega),ru,ru]
theorem XV{v mp md:Int}{p:Pk}(h:mqE v p≠0):WL v mp md p=false:=by
 have hb:(mqB v p).2=mqE v p:=by
  unfold mqB;rw[ae h]
 unfold WL;rw[hb,ah h,bj,ru]
theorem Kp.apart{w0 w y:World}{K:Option Addr}{n c:Nat}{t:List UInt8}(h:Kp w0 w K n c t){gp:Nat}{ty:TypeId}{cs:Array Value}(hp:Bk w gp ty cs)(hne:ty≠U8)(hm:w.grownBy y (some gp)):Kp w0 y K n c t:=by
 refine⟨h.len,h.cap,?_⟩;rcases h.lies with h1| ⟨g,o,M,h1,h2,h3,h4⟩
 ·exact .inl h1
 ·refine .inr ⟨g,o,M,h1,h2,(hm.block g h3.lt fun e=>?_).trans h3,h4⟩;cases e;unfold Bk at hp h3;rw[hp]at h3;simp only[aX,fc]at h3;exact hne h3.2.1
end
end Go.Proofs.YtbdgkkmbnahgiaaGreatDoor
namespace Go.Proofs.YtbdgkkmbnahgiaaGreatDoor
open Go.ChangeShapes Go.WideShapes Go.ChangeAt Go.RowKit Go.Deep
open Go.Proofs.Tryz
set_option maxRecDepth 100000
section
variable {H:Type} {enc:TypeId×Value->H} {P:Program} {w:World} {base:Nat} {spare:Nat->Bool} {held:Bool}
theorem vz{fs:Array Field}{n:Nat}{cs:List Value}{xs:List (DataW H×List MemPlace)}
  (hf:∀(i:Nat) (f:Field),fs[i]? =some f->DataW.trod enc P w base spare held n f.type ((cs.drop f.offset).take (P.cellsOf f.type))=xs[i]?)
  (i:Nat){t:TypeId}{o k:Nat}(hi:(fs[i]?.map fun f=>(f.type,f.offset,P.cellsOf f.type))=some (t,o,k)):DataW.trod enc P w base spare held n t ((cs.drop o).take k)=xs[i]? :=by
 obtain⟨f,hfi,he⟩:=Option.map_eq_some_iff.1 hi;simp only[bG]at he;obtain⟨rfl,rfl,rfl⟩:=he;exact hf i f hfi
theorem fu.field{t:TypeId}{fs:Array Field}{ds:List (DataW H)}(ht:P.underlying t=some (.struct fs))(h:fu P t (.agg ds)){i:Nat}{u:TypeId}{d:DataW H}(hu:(fs.toList.map (·.type))[i]? =some u)(hd:ds[i]? =some d):fu P u d:=fun z hz=>h z (by
 simp only[DataW.weights,ht];exact DataW.weights_mem_each hu hd z hz)
theorem fu.text{t:TypeId}{s:ByteArray}(h:fu P t (.lit (.string s.data.toList):DataW H)):s.size<=140737488351232:=by
 have:=h.str
 simpa [reachBytes]using this
end
section
variable {H:Type} {enc:TypeId×Value->H} {w:World} {base:Nat} {spare:Nat->Bool} {held:Bool}
theorem Pc{n:Nat}{cs:List Value}{D:DataW H}{Pl:List MemPlace}(h:DataW.trod enc prog w base spare held n 32 cs=some (D,Pl))(hs:fu prog 32 D):∃f,cs=fiC f/\f.topic.size<=140737488351232:=by
 obtain⟨xs,n',rfl,hx,hlen,hxl,hf⟩:=Iy underlying32 h;simp only[bG]at hx;obtain⟨rfl,rfl⟩:=hx;have hc4:prog.cellsOf 32=5:=by kernel_rfl
 rw[hc4]at hlen
 match cs,hlen with
 | [c0,c1,c2,c3,c4],_=>
   match xs,hxl with
   | [y0,y1,y2,y3,y4],_=>
     have h0:=vz hf 0 (t:=9) (o:=0) (k:=1) (by kernel_rfl);have h1:=vz hf 1 (t:=3) (o:=1) (k:=1) (by kernel_rfl);have h2:=vz hf 2 (t:=4) (o:=2) (k:=1) (by kernel_rfl);have h3:=vz hf 3 (t:=4) (o:=3) (k:=1) (by kernel_rfl);have h4:=vz hf 4 (t:=3) (o:=4) (k:=1) (by kernel_rfl);obtain⟨z0,e0,rfl,_⟩:=GH underlying9 h0;obtain⟨z1,e1,rfl,_⟩:=GB underlying3 h1;obtain⟨z2,e2,rfl⟩:=GN underlying4 h2;obtain⟨z3,e3,rfl⟩:=GN underlying4 h3;obtain⟨z4,e4,rfl,_⟩:=GB underlying3 h4;simp only[cS,ji,GG,GZ,gY,Hj]at e0 e1 e2 e3 e4;subst e0 e1 e2 e3 e4;exact⟨⟨z0,z1,z2,z3,z4⟩,rfl,(hs.field underlying32 (i:=0) rfl rfl).text⟩
theorem PH(l:List Int):l.flatMap (fun z=>[Value.int .i64 z])=iv l:=by
 induction l with
 | nil=>rfl
 | cons z l ih=>simp only[cF,ih];rfl
theorem Mr{fuel:Nat}{cs:List Value}{d:DataW H}{ps:List MemPlace}(h:DataW.trod enc prog w base spare held fuel 26 cs=some (d,ps))(hs:fu prog 26 d)(hlt:∀x∈ps,x.block<w.heap.size):
  ∃(A:Option Addr) (l:List Int) (c:Nat),cs=[.slice A l.length c]/\Rd w w.heap.size 1 A l.length (iv l)/\l.length<=140737488351232/\l.length<=c:=by
 obtain⟨A,l,c,h1,h2,h3,h4,h5,h6⟩:=rX (X:=Int) (k:=1) (fun z=>[Value.int .i64 z]) (fun _=>rfl) (by omega) underlying26 (by kernel_rfl) (fun _=>True)
  (fun n cs D Pl h hs _=>by obtain⟨z,rfl,_⟩:=GB underlying3 h;exact⟨z,rfl,trivial⟩) h hs hlt
 rw[PH]at h2;refine⟨A,l,c,h1,h2,?_,h5⟩;have hb:prog.bytesOf 3=8:=by kernel_rfl
 rw[hb,reachBytes]at h4;omega
theorem LB{fuel:Nat}{cs:List Value}{d:DataW H}{ps:List MemPlace}(h:DataW.trod enc prog w base spare held fuel 27 cs=some (d,ps))(hs:fu prog 27 d)(hlt:∀x∈ps,x.block<w.heap.size):
  ∃(A:Option Addr) (l:List Fi) (c:Nat),cs=[.slice A l.length c]/\Rd w w.heap.size 5 A l.length (fis l)/\(∀f∈l,f.topic.size<=140737488351232)/\l.length<=140737488351232/\l.length<=c:=by
 obtain⟨A,l,c,h1,h2,h3,h4,h5,h6⟩:=rX fiC yH (by omega) underlying27 (by kernel_rfl) (fun f=>f.topic.size<=140737488351232) (fun n cs D Pl h hs _=>Pc h hs) h hs hlt;refine⟨A,l,c,h1,h2,h3,?_,h5⟩;have hb:prog.bytesOf 32=40:=by kernel_rfl
 rw[hb,reachBytes]at h4;omega
theorem Nr{n:Nat}{cs:List Value}{D:DataW H}{Pl:List MemPlace}(h:DataW.trod enc prog w base spare held n 25 cs=some (D,Pl))(hs:fu prog 25 D)(hlt:∀x∈Pl,x.block<w.heap.size):
  ∃(x:Wl) (k:Hd),cs=[.string x.topic,.string x.payload,.int .i64 x.qos,.bool x.retain,.slice k.a x.props.length k.c]/\Rd w w.heap.size 4 k.a x.props.length (prs x.props)/\(∀p∈x.props,ea p)/\x.props.length<=2932031007317/\x.props.length<=k.c/\x.topic.size<=140737488351232/\x.payload.size<=140737488351232:=by
 obtain⟨xs,n',rfl,hx,hlen,hxl,hf⟩:=Iy underlying25 h;simp only[bG]at hx;obtain⟨rfl,rfl⟩:=hx;have hc4:prog.cellsOf 25=5:=by kernel_rfl
 rw[hc4]at hlen
 match cs,hlen with
 | [c0,c1,c2,c3,c4],_=>
   match xs,hxl with
   | [y0,y1,y2,y3,y4],_=>
     have h0:=vz hf 0 (t:=9) (o:=0) (k:=1) (by kernel_rfl);have h1:=vz hf 1 (t:=9) (o:=1) (k:=1) (by kernel_rfl);have h2:=vz hf 2 (t:=3) (o:=2) (k:=1) (by kernel_rfl);have h3:=vz hf 3 (t:=4) (o:=3) (k:=1) (by kernel_rfl);have h4:=vz hf 4 (t:=23) (o:=4) (k:=1) (by kernel_rfl);obtain⟨z0,e0,rfl,_⟩:=GH underlying9 h0;obtain⟨z1,e1,rfl,_⟩:=GH underlying9 h1;obtain⟨z2,e2,rfl,_⟩:=GB underlying3 h2;obtain⟨z3,e3,rfl⟩:=GN underlying4 h3;obtain⟨y4d,y4p⟩:=y4;obtain⟨A,l,c,e4,g1,g2,g3,g4,_⟩:=Ki h4 (hs.field underlying25 (i:=4) rfl rfl) (fun x hx=>hlt x (by simp[hx]));simp only[cS,ji,GG,GZ,gY,Hj]at e0 e1 e2 e3 e4;subst e0 e1 e2 e3 e4;exact⟨⟨z0,z1,z2,z3,l⟩,⟨A,c⟩,rfl,g1,g2,g3,g4,(hs.field underlying25 (i:=0) rfl rfl).text,(hs.field underlying25 (i:=1) rfl rfl).text⟩
theorem Oj{n:Nat}{cs:List Value}{D:DataW H}{Pl:List MemPlace}(h:DataW.trod enc prog w base spare held n PkT cs=some (D,Pl))(hs:fu prog PkT D)(hlt:∀x∈Pl,x.block<w.heap.size):
  ∃(p:Pk) (k:Hs),cs=(pkC p k).toList/\PkIn w w.heap.size p k/\PkOk p:=by
 obtain⟨xs,n',rfl,hx,hlen,hxl,hf⟩:=Iy underlying29 h;simp only[bG]at hx;obtain⟨rfl,rfl⟩:=hx;have hc4:prog.cellsOf PkT=25:=by kernel_rfl
 rw[hc4]at hlen
 match cs,hlen with
 | [c0,c1,c2,c3,c4,c5,c6,c7,c8,c9,c10,c11,c12,c13,c14,c15,c16,c17,c18,c19,c20,c21,c22,c23,c24],_=>
   match xs,hxl with
   | [y0,y1,y2,y3,y4,y5,y6,y7,y8,y9,y10,y11,y12,y13,y14,y15,y16,y17,y18,y19,y20],_=>
     have h0:=vz hf 0 (t:=3) (o:=0) (k:=1) (by kernel_rfl);have h1:=vz hf 1 (t:=4) (o:=1) (k:=1) (by kernel_rfl);have h2:=vz hf 2 (t:=4) (o:=2) (k:=1) (by kernel_rfl);have h3:=vz hf 3 (t:=3) (o:=3) (k:=1) (by kernel_rfl);have h4:=vz hf 4 (t:=3) (o:=4) (k:=1) (by kernel_rfl);have h5:=vz hf 5 (t:=9) (o:=5) (k:=1) (by kernel_rfl);have h6:=vz hf 6 (t:=9) (o:=6) (k:=1) (by kernel_rfl);have h7:=vz hf 7 (t:=4) (o:=7) (k:=1) (by kernel_rfl);have h8:=vz hf 8 (t:=3) (o:=8) (k:=1) (by kernel_rfl);have h9:=vz hf 9 (t:=9) (o:=9) (k:=1) (by kernel_rfl);have h10:=vz hf 10 (t:=4) (o:=10) (k:=1) (by kernel_rfl);have h11:=vz hf 11 (t:=9) (o:=11) (k:=1) (by kernel_rfl);have h12:=vz hf 12 (t:=4) (o:=12) (k:=1) (by kernel_rfl);have h13:=vz hf 13 (t:=9) (o:=13) (k:=1) (by kernel_rfl);have h14:=vz hf 14 (t:=4) (o:=14) (k:=1) (by kernel_rfl);have h15:=vz hf 15 (t:=25) (o:=15) (k:=5) (by kernel_rfl);have h16:=vz hf 16 (t:=4) (o:=20) (k:=1) (by kernel_rfl);have h17:=vz hf 17 (t:=3) (o:=21) (k:=1) (by kernel_rfl);have h18:=vz hf 18 (t:=26) (o:=22) (k:=1) (by kernel_rfl);have h19:=vz hf 19 (t:=27) (o:=23) (k:=1) (by kernel_rfl);have h20:=vz hf 20 (t:=23) (o:=24) (k:=1) (by kernel_rfl);obtain⟨z0,e0,rfl,_⟩:=GB underlying3 h0;obtain⟨z1,e1,rfl⟩:=GN underlying4 h1;obtain⟨z2,e2,rfl⟩:=GN underlying4 h2;obtain⟨z3,e3,rfl,_⟩:=GB underlying3 h3;obtain⟨z4,e4,rfl,_⟩:=GB underlying3 h4;obtain⟨z5,e5,rfl,_⟩:=GH underlying9 h5;obtain⟨z6,e6,rfl,_⟩:=GH underlying9 h6;obtain⟨z7,e7,rfl⟩:=GN underlying4 h7;obtain⟨z8,e8,rfl,_⟩:=GB underlying3 h8;obtain⟨z9,e9,rfl,_⟩:=GH underlying9 h9;obtain⟨z10,e10,rfl⟩:=GN underlying4 h10;obtain⟨z11,e11,rfl,_⟩:=GH underlying9 h11;obtain⟨z12,e12,rfl⟩:=GN underlying4 h12;obtain⟨z13,e13,rfl,_⟩:=GH underlying9 h13;obtain⟨z14,e14,rfl⟩:=GN underlying4 h14;obtain⟨d15,p15⟩:=y15;obtain⟨x15,k15,e15,a1,a2,a3,a4,a5,a6⟩:=Nr h15 (hs.field underlying29 (i:=15) rfl rfl) (fun x hx=>hlt x (by simp[hx]));obtain⟨z16,e16,rfl⟩:=GN underlying4 h16;obtain⟨z17,e17,rfl,_⟩:=GB underlying3 h17;obtain⟨d18,p18⟩:=y18;obtain⟨A18,l18,k18,e18,b1,b2,b3⟩:=Mr h18 (hs.field underlying29 (i:=18) rfl rfl) (fun x hx=>hlt x (by simp[hx]));obtain⟨d19,p19⟩:=y19;obtain⟨A19,l19,k19,e19,f1,f2,f3,f4⟩:=LB h19 (hs.field underlying29 (i:=19) rfl rfl) (fun x hx=>hlt x (by simp[hx]));obtain⟨d20,p20⟩:=y20;obtain⟨A20,l20,k20,e20,r1,r2,r3,r4,_⟩:=Ki h20 (hs.field underlying29 (i:=20) rfl rfl) (fun x hx=>hlt x (by simp[hx]));simp only[cS,ji,GG,GZ,gY,Hj]at e0 e1 e2 e3 e4 e5 e6 e7 e8 e9 e10 e11 e12 e13 e14 e15 e16 e17 e18 e19 e20;obtain⟨q0,q1,q2,q3,q4⟩:=e15;subst e0 e1 e2 e3 e4 e5 e6 e7 e8 e9 e10 e11 e12 e13 e14 e16 e17 e18 e19 e20 q0 q1 q2 q3 q4;refine⟨⟨z0,z1,z2,z3,z4,z5,z6,z7,z8,z9,z10,z11,z12,z13,z14,x15,z16,z17,l18,l19,l20⟩,⟨k15,⟨A18,k18⟩,⟨A19,k19⟩,⟨A20,k20⟩⟩,rfl,⟨a1,b1,f1,r1,a4,b3,f4,r4⟩,⟨a2,r2,f2,⟨(hs.field underlying29 (i:=5) rfl rfl).text,(hs.field underlying29 (i:=6) rfl rfl).text,(hs.field underlying29 (i:=9) rfl rfl).text,(hs.field underlying29 (i:=11) rfl rfl).text,(hs.field underlying29 (i:=13) rfl rfl).text,a5,a6⟩,⟨aC a3 (by decide),b2,f3,aC r3 (by decide)⟩⟩⟩
theorem Vc{r:Reach}{b0:Nat}{v:Value}{d:DataW H}{ps:List MemPlace}(hval:Value.okWide prog w r b0 PkT v)(hd:DataW.Trod enc prog w base spare held PkT v d ps)(hs:fu prog PkT d)(hlt:∀x∈ps,x.block<w.heap.size):
  ∃(p:Pk) (k:Hs),v=pkV p k/\PkIn w w.heap.size p k/\PkOk p:=by
 have hv:∃cs,v= .agg cs:=by
  simp only[Value.okWide,show prog.underlying PkT=_ from underlying29]at hval;obtain⟨cs,h,_⟩:=hval;exact⟨cs,h⟩
 obtain⟨cs,rfl⟩:=hv;obtain⟨fuel,hf⟩:=hd;obtain⟨p,k,h1,h2⟩:=Oj hf hs hlt;refine⟨p,k,?_,h2⟩;have h1:cs.toList=(pkC p k).toList:=h1;rw[pkV,oz.1 h1]
end
end Go.Proofs.YtbdgkkmbnahgiaaGreatDoor
namespace Go.Proofs.YtbdgkkmbnahgiaaGreatDoor
open Go.RowKit Go.Proofs.Tryz
section
attribute [local go_sem ↓] bD bF bH bI bu
attribute [local go_sem] bc aD bh bg bK bJ bd aY be aO ax cI dC dB dt dj di dA dr dp dn bW co bO bZ bX cz cy cw cu ct cC cn bS bP bR
theorem Qo(v:Int)(p:Pk):(mqB v p).2=mqE v p:=by
 unfold mqB;split
 ·rename_i h;exact h.symm
 ·rfl
end
section
attribute [local go_sem ↓] bD bF bH bI bu
attribute [local go_sem] bc aD bh bg bK bJ bd aY be aO ax cI dC dB dt dj di dA dr dp dn bW co bO bZ bX cz cy cw cu ct cC cn bS bP bR
attribute [local go_sem ↓] xS
attribute [local go_sem] um
def Vs(r:List Pk×Nat×Int)(w:World)(e:Ending)(w':World):Prop:=∃A n c L,e= .returned (.tuple #[.slice A n c,.int .i64 (r.2.1:Nat),.int .i64 r.2.2])/\RdK w' A n L/\L.map Prod.fst=r.1/\Below w.heap.size w w'/\n<=c/\n<=10000000000
theorem UE{w0 w:World}{A:Option Addr}{n c a:Nat}{x:Int}{L:List (Pk×Hs)}{r:List Pk×Nat×Int}(hI:RowI w0 w A n c L)(hB:Below w0.heap.size w0 w)(hr:(L.map Prod.fst,a,x)=r)(hn:n<=10000000000):Vs r w0 (.returned (.tuple #[.slice A n c,.int .i64 a,.int .i64 x])) w:=by
 subst hr;exact⟨A,n,c,L,rfl,hI.read,rfl,hB,hI.row.cap,hn⟩
end
section
attribute [local go_sem ↓] bD bF bH bI bu
attribute [local go_sem] bc aD bh bg bK bJ bd aY be aO ax cI dC dB dt dj di dA dr dp dn bW co bO bZ bX cz cy cw cu ct cC cn bS bP bR
attribute [local go_sem ↓] xS
attribute [local go_sem] um
def Gv(l:List Nat):List Int:=l.map fun(k:Nat)=>(k:Int)
structure LA (v:Int) (w:World) (L:List (Pk×Hs)) (i:Nat) (G:List (Pk×Hs)) (AG:Option Addr) (cG:Nat) (ve:Value) (x:World):Prop where
 row:RowK w x AG G.length cG G
 ends:x.ownsRow w.heap.size 3 1 ve G.length (iv (Gv (Ff v 0 (G.map Prod.fst))))
 good:G.map Prod.fst=Fe v ((L.take i).map Prod.fst)
 mem:∀y∈G,y∈L
 low:Below w.heap.size w x
section
variable {v:Int} {w x y:World} {L G:List (Pk×Hs)} {i:Nat} {AG:Option Addr} {cG:Nat} {ve:Value} {p:Pk} {h:Hs}
theorem LA.start(v:Int)(L:List (Pk×Hs))(hb:Below w.heap.size w x):LA v w L 0 [] none 0 (.slice none 0 0) x:=
 ⟨RowK.start _ _,dD _ _ _ _,rfl,by simp,hb⟩
theorem LA.below(s:LA v w L i G AG cG ve x)(hb:Below x.heap.size x y):LA v w L i G AG cG ve y:=
 ⟨s.row.below hb,dV s.ends hb,s.good,s.mem,s.low.trans (hb.mono s.low.size)⟩
theorem LA.le(s:LA v w L i G AG cG ve x)(hi:i<=L.length):G.length<=i:=by
 have h1:=congrArg List.length s.good;rw[eD]at h1;have h2:(Fe v ((L.take i).map Prod.fst)).length<=((L.take i).map Prod.fst).length:=WJ _ _;rw[eD,cY]at h2;omega
theorem LA.valid(s:LA v w L i G AG cG ve x):∀p∈G.map Prod.fst,mqE v p=0:=by
 intro p hp;rw[s.good]at hp;exact aR (WV.1 hp).2
theorem LA.ok(s:LA v w L i G AG cG ve x)(hL:∀y∈L,PkOk y.1):∀p∈G.map Prod.fst,PkOk p:=by
 intro p hp;obtain⟨y,hy,rfl⟩:=jX.1 hp;exact hL y (s.mem y hy)
end
theorem RdK.take{w:World}{A:Option Addr}{n:Nat}{L:List (Pk×Hs)}(h:RdK w A n L){k:Nat}(hk:k<=n):RdK w A k (L.take k):=
 ⟨by rw[<-ln];exact h.rd.cut_to hk,fun x hx=>h.ins x (IU hx)⟩
theorem RowK.ne{w0 w:World}{A:Option Addr}{n c:Nat}{L:List (Pk×Hs)}(h:RowK w0 w A n c L){base m:Nat}{v:Value}{xs:List Value}(ho:w.ownsRow base 3 1 v m xs):v.ownBlock=none\/v.ownBlock≠(Value.slice A n c).ownBlock:=by
 rcases h.lies with ⟨rfl,-⟩ | ⟨g,M,rfl,-,h3,-⟩
 ·by_cases e:v.ownBlock=none
  ·exact .inl e
  ·exact .inr e
 ·exact .inr (nS ho h3 (by decide))
theorem RowK.other{w0 w y:World}{A:Option Addr}{n c:Nat}{L:List (Pk×Hs)}(h:RowK w0 w A n c L){row:Option Nat}(hm:w.grownBy y row)(hne:∀g,A=some ⟨g,0,none⟩->row≠some g):RowK w0 y A n c L:=by
 refine⟨h.len,?_⟩;rcases h.lies with h1| ⟨g,M,h1,h2,h3,h4⟩
 ·exact .inl h1
 ·exact .inr ⟨g,M,h1,h2,(hm.block g h3.lt (fun e=>hne g h1 e.symm)).trans h3,h4⟩
end
section
attribute [local go_sem ↓] bD bF bH bI bu
attribute [local go_sem] bc aD bh bg bK bJ bd aY be aO ax cI dC dB dt dj di dA dr dp dn bW co bO bZ bX cz cy cw cu ct cC cn bS bP bR
attribute [local go_sem ↓] xS
attribute [local go_sem] um
def FS(g:Nat)(o:Option Nat)(i:Nat):Prop:=i=g\/o=some i
theorem Mods.app{S:Nat->Prop}{w0 w w':World}{o:Option Nat}(h:Mods S w0 w)(hg:w.grownBy w' o)(ho:∀i,o=some i->S i\/w0.heap.size<=i):Mods S w0 w':=
 ⟨hg.os.trans h.os,hg.tape.trans h.tape,hg.output.trans h.output,aC h.size hg.size,fun i hi hs=>(hg.block i (ch hi h.size) (fun e=>by
  rcases ho i e.symm with h1| h1
  ·exact hs h1
  ·omega)).trans (h.block i hi hs)⟩
structure SF (w0 wf:World) (g:Nat) (o:Option Nat) (v most:Int) (t:ByteArray) (a k:Nat) (A:Option Addr) (m cm:Nat) (L:List (Pk×Hs)) (x:World):Prop where
 st:∃K n c,Bk x g SmT (smC v most K n c a k 0)/\Kp w0 x K n c (ls t)
 row:RowI wf x A m cm L
 fresh:∀y∈L,∀i,i<wf.heap.size->gG i y
 lt:g<wf.heap.size
 base:w0.heap.size<=wf.heap.size
 mods:Mods (FS g o) wf x
theorem SF.size{w0 wf:World}{g:Nat}{o:Option Nat}{v most:Int}{t:ByteArray}{a k:Nat}{A:Option Addr}{m cm:Nat}{L:List (Pk×Hs)}{x:World}(s:SF w0 wf g o v most t a k A m cm L x):wf.heap.size<=x.heap.size:=s.mods.size
theorem SF.below{w0 wf:World}{g:Nat}{o:Option Nat}{v most:Int}{t:ByteArray}{a k:Nat}{A:Option Addr}{m cm:Nat}{L:List (Pk×Hs)}{x y:World}(s:SF w0 wf g o v most t a k A m cm L x)(hb:Below x.heap.size x y):SF w0 wf g o v most t a k A m cm L y:=by
 obtain⟨K,n,c,h1,h2⟩:=s.st;exact⟨⟨K,n,c,h1.below hb h1.lt,h2.below hb⟩,s.row.below hb,s.fresh,s.lt,s.base,s.mods.trans (Mods.of_below hb)⟩
theorem RowK.bk{w0 w y:World}{A:Option Addr}{n c:Nat}{L:List (Pk×Hs)}(h:RowK w0 w A n c L)(hm:w.grownBy y (Value.slice A n c).ownBlock){g:Nat}{ty:TypeId}{cs:Array Value}(hb:Bk w g ty cs)(hne:ty≠PkT):Bk y g ty cs:=by
 refine(hm.block g hb.lt fun e=>?_).trans hb;rcases h.lies with ⟨rfl,-⟩ | ⟨g',M,rfl,-,h3,-⟩
 ·cases e
 ·simp only[Value.ownBlock,aX]at e;subst e;unfold Bk at hb h3;rw[hb]at h3;simp only[aX,fc]at h3;exact hne h3.2.1
theorem Kp.row{w0 wf w y:World}{K:Option Addr}{m d:Nat}{t:List UInt8}(h:Kp w0 w K m d t){A:Option Addr}{n c:Nat}{L:List (Pk×Hs)}(hr:RowK wf w A n c L)(hm:w.grownBy y (Value.slice A n c).ownBlock):Kp w0 y K m d t:=by
 refine⟨h.len,h.cap,?_⟩;rcases h.lies with h1| ⟨g,o,M,h1,h2,h3,h4⟩
 ·exact .inl h1
 ·exact .inr ⟨g,o,M,h1,h2,hr.bk hm h3 (by decide),h4⟩
structure FO (w0 w:World) (g:Nat) (o:Option Nat) (v most:Int) (r:List Pk×ByteArray×Nat×Nat×Int) (w':World) (A:Option Addr) (m cm:Nat) (L:List (Pk×Hs)) (K:Option Addr) (n c:Nat):Prop where
 row:RowI w w' A m cm L
 map:L.map Prod.fst=r.1
 bk:Bk w' g SmT (smC v most K n c r.2.2.1 r.2.2.2.1 r.2.2.2.2)
 kp:Kp w0 w' K n c (ls r.2.1)
 mods:Mods (FS g o) w w'
 fresh:∀y∈L,∀i,i<w.heap.size->gG i y
end
section
attribute [local go_sem ↓] bD bF bH bI bu
attribute [local go_sem] bc aD bh bg bK bJ bd aY be aO ax cI dC dB dt dj di dA dr dp dn bW co bO bZ bX cz cy cw cu ct cC cn bS bP bR
theorem Mods.split{g:Nat}{o:Option Nat}{w w':World}(h:Mods (FS g o) w w')(hg:g<w.heap.size):∃z,w.grownBy z (some g)/\z.grownBy w' o:=by
 have hg':g<w'.heap.size:=ch hg h.size;refine⟨{w with heap:=w.heap.set g (w'.heap[g]) hg},⟨rfl,rfl,rfl,?_,fun i hi e=>?_⟩,⟨h.os,h.tape,h.output,?_,fun i hi e=>?_⟩⟩
 ·show w.heap.size<=(w.heap.set g (w'.heap[g]) hg).size;rw[Array.size_set];exact ac _
 ·show(w.heap.set g (w'.heap[g]) hg)[i]? =w.heap[i]?;rw[Array.getElem?_set_ne hg (fun x=>e (by rw[x]))]
 ·show(w.heap.set g (w'.heap[g]) hg).size<=w'.heap.size;rw[Array.size_set];exact h.size
 ·show w'.heap[i]? =(w.heap.set g (w'.heap[g]) hg)[i]?;have hi':i<w.heap.size:=by
   have:i<(w.heap.set g (w'.heap[g]) hg).size:=hi;rwa[Array.size_set]at this
  by_cases x:g=i
  ·subst x;rw[Array.getElem?_set_self hg,eL hg']
  ·rw[Array.getElem?_set_ne hg x];exact h.block i hi' (fun y=>y.elim (fun a=>x a.symm) (fun b=>e b.symm))
theorem Kp.not{w0 w:World}{K:Option Addr}{n c:Nat}{t:List UInt8}(h:Kp w0 w K n c t){g:Nat}{ty:TypeId}{cs:Array Value}(hb:Bk w g ty cs)(hne:ty≠U8):(Value.slice K n c).ownBlock≠some g:=by
 intro e;rcases h.lies with ⟨rfl,-⟩ | ⟨g',o,M,rfl,-,h3,-⟩
 ·cases e
 ·simp only[Value.ownBlock,aX]at e;subst e;unfold Bk at hb h3;rw[hb]at h3;simp only[aX,fc]at h3;exact hne h3.2.1
theorem RowI.kept{wf w0 w y:World}{A:Option Addr}{n c:Nat}{L:List (Pk×Hs)}(h:RowI wf w A n c L){K:Option Addr}{m d:Nat}{t:List UInt8}(hk:Kp w0 w K m d t)(hm:w.grownBy y (Value.slice K m d).ownBlock):RowI wf y A n c L:=by
 refine⟨h.row.other hm fun q hq e=>?_,fun x hx=>hk.keep hm (h.ins x hx),h.apart⟩;rcases h.row.lies with ⟨h1,-⟩ | ⟨g2,M2,h1,-,h4,-⟩
 ·rw[h1]at hq;cases hq
 ·rw[h1]at hq;cases hq
  exact hk.not h4 (by decide) e
theorem RowK.first{w0 w:World}{A:Option Addr}{n c:Nat}{p:Pk}{h:Hs}{L:List (Pk×Hs)}(hr:RowK w0 w A n c ((p,h) :: L)):∃g M,A=some ⟨g,0,none⟩/\Bk w g PkT (pks ((p,h) :: M)).toArray:=by
 rcases hr.lies with ⟨-,h1,-⟩ | ⟨g,M,h1,-,h3,h4,h5,-,h7⟩
 ·have:=hr.len;simp at this;omega
 ·match M,n,h3,h7 with
  | [],_,_,h7=>simp at h7
  | _ :: _,0,_,h7=>simp at h7
  | x :: M,n+1,h3,h7=>
    rw[GG,gY]at h7;rw[h7.1]at h3;exact⟨g,M,h1,h3⟩
theorem Bk.first{w:World}{g:Nat}{p:Pk}{h:Hs}{M:List (Pk×Hs)}(hb:Bk w g PkT (pks ((p,h) :: M)).toArray){r:Nat}(hr:r<25):w.cell? ⟨g,r,none⟩=(pkC p h)[r]? :=by
 rw[hb.cell,ay];have:=mG ((p,h) :: M) 0 r (Nat.succ_pos _) hr;rwa[jU,bV]at this
theorem Bk.ne{w:World}{q g:Nat}{ty tz:TypeId}{cs ds:Array Value}(h:Bk w q ty cs)(h':Bk w g tz ds)(hne:ty≠tz):q≠g:=by
 rintro rfl;unfold Bk at h h';rw[h]at h';simp only[aX,fc]at h';exact hne h'.2.1
theorem uo{fn:Func}{p:Tmp}(hr:fn.results= #[.cell p 54])(tmps:Array Value){w:World}{g:Nat}{a b:Value}(hp:tmps.getD p undef= .pointer (some ⟨g,0,none⟩))(hb:Bk w g 54 #[a,b]):(results fn tmps).run prog w= .ok (.agg #[a,b]) w:=by
 obtain⟨⟨c0,c1⟩,-⟩:=hb.two;rw[Jf]at hp;simp only[results,hr];simp[hp,go_sem,c0,c1]
theorem FO.len{w0 w w':World}{g:Nat}{o:Option Nat}{v most:Int}{r:List Pk×ByteArray×Nat×Nat×Int}{A:Option Addr}{m cm:Nat}{L:List (Pk×Hs)}{K:Option Addr}{n c:Nat}(h:FO w0 w g o v most r w' A m cm L K n c):m=r.1.length:=by
 rw[<-h.map,eD,h.row.row.len]
theorem tg{L:List (Pk×Hs)}{p:Pk}(h:L.map Prod.fst=[p]):∃k,L=[(p,k)]:=by
 match L,h with
 | [],h=>cases h
 | [(q,k)],h=>
   simp only[fI,gC,gY,Hj]at h;exact⟨k,by rw[h]⟩
 | _ :: _ :: _,h=>simp at h
end
section
attribute [local go_sem ↓] bD bF bH bI bu
attribute [local go_sem] bc aD bh bg bK bJ bd aY be aO ax cI dC dB dt dj di dA dr dp dn bW co bO bZ bX cz cy cw cu ct cC cn bS bP bR
attribute [local go_sem ↓] xS
attribute [local go_sem] um
theorem WU(mp md:Int)(w:World):Calls prog 45 #[zW mp md] w fun e w'=>e= .returned (.int .i64 (lmC mp md))/\Below w.heap.size w w':=by
 have HE:Hid (WZ mp md=decide (16<=mp/\mp<=1048576/\0<=md/\md<=32)):=aa rfl;have HB:=aa ((aq w.heap.size w).alloc (ac _) (.cells #[.int .i64 mp,.int .i64 md] 54));have HK:=aa (Bk.fresh w 54 #[.int .i64 mp,.int .i64 md]);have c0:(w.alloc (.cells #[.int .i64 mp,.int .i64 md] 54)).cell? ⟨w.heap.size,0,none⟩=some (.int .i64 mp):=HK.o.cell 0;have c1:(w.alloc (.cells #[.int .i64 mp,.int .i64 md] 54)).cell? ⟨w.heap.size,1,none⟩=some (.int .i64 md):=HK.o.cell 1;unfold zW
 by_cases hl:16<=mp/\mp<=1048576/\0<=md/\md<=32
 ·have HX:Hid (lmC mp md=0):=aa (Xp (by rw[HE.o,au hl]));obtain⟨h3,h4,h5,h6⟩:=hl;clear HE;go_enter func45,ntmps45;go_wp2;go_ret;exact⟨by rw[HX.o];rfl,HB.o⟩
 ·have HX:Hid (lmC mp md=2):=aa (Xd (by rw[HE.o,ah hl];decide));have h3:(mp<16\/(16<=mp/\1048576<mp)\/(16<=mp/\mp<=1048576)):=by omega
  have h4:(md<0\/(0<=md/\32<md)\/(0<=md/\md<=32)):=by omega
  rcases h3 with h3| ⟨h3,h3'⟩ | ⟨h3,h3'⟩<;>rcases h4 with h4| ⟨h4,h4'⟩ | ⟨h4,h4'⟩
  all_goals first
   | exact absurd (And.intro h3 (And.intro h3' (And.intro h4 h4'))) hl
   | (clear hl HE
      try have e4:decide (md<=32)=false:=ah (by omega)
      try have e3:decide (mp<=1048576)=false:=ah (by omega)
      go_enter func45,ntmps45;go_wp2;go_ret;exact⟨by rw[HX.o];rfl,HB.o⟩)
theorem WX(w:World):Calls prog 46 #[] w fun e w'=>e= .returned (zW 1048576 32)/\Below w.heap.size w w':=by
 have HB:=aa ((aq w.heap.size w).alloc (ac _) (.cells #[.int .i64 1048576,.int .i64 32] 54));have HK:=aa (Bk.fresh w 54 #[.int .i64 1048576,.int .i64 32]);go_enter func46,ntmps46;go_wp2;refine av (uo rfl _ rfl HK.o) rfl ?_;exact⟨rfl,HB.o⟩
theorem XB{v:Int}{s:ByteArray}(h:(hdR v s).2.2=0):(hdR v s).1.n<=268435455/\(hdR v s).2.1<=s.size:=by
 obtain⟨b1,b2,b3,b4,b5⟩:=kw (v:=v) (s:=s) (h:=(hdR v s).1) (a:=(hdR v s).2.1) (by rw[<-h]);exact⟨b2,b5⟩
theorem Xg(v mp:Int)(s:ByteArray)(w:World)(hm:16<=mp/\mp<=1048576)(hs:s.size<=1000000000000):Calls prog 99 #[.int .i64 v,.int .i64 mp,.string s] w (tM (smN v mp s) w):=by
 have HE:Hid (smN v mp s=if(hdR v s).2.2≠0 then(pk0,0,(hdR v s).2.2)else if mp<((hdR v s).2.1+(hdR v s).1.n:Nat)then(pk0,0,4)else mqR v s):=aa (W7 v mp s);have HS:=aa hs;have HM:=aa hm
 have HB:=aa ((aq w.heap.size w).alloc (ac _) (.cells (pkC pk0 hs0) PkT));have HK:=aa (Bk.fresh w PkT (pkC pk0 hs0));have HHD:=aa (fun W=>qy v s W (by omega));have HBK:=aa (XB (v:=v) (s:=s));have HRD:=aa (fun W=>wS v s W hs);clear hs hm;obtain⟨R,hR⟩:∃R,mqR v s=R:=⟨_,rfl⟩;rw[hR]at HE HRD;clear hR;obtain⟨⟨⟨k,f,n⟩,a,x⟩,hr⟩:∃r,hdR v s=r:=⟨_,rfl⟩;rw[hr]at HE HHD HBK;simp only[Cx]at HE HHD HBK;clear hr;go_enter func99,ntmps99
 go_wp2_with fail
 refine(HHD.o _).mono ?_;rintro e w1 ⟨rfl,hb⟩;have HB1:=aa (HB.o.trans (hb.mono HB.o.size));have HK1:=aa (HK.o.below hb HK.o.lt);clear hb HHD HB HK;obtain⟨y,hy⟩:∃y,w1.alloc (.cells #[.int .i64 k,.int .i64 f,.int .i64 n] 112)=y:=⟨_,rfl⟩;have HB2:Hid (Below w.heap.size w y):=aa (by rw[<-hy];exact HB1.o.alloc HB1.o.size _);have HK2:Hid (Bk y w.heap.size PkT (pkC pk0 hs0)):=aa (by rw[<-hy];exact HK1.o.alloc _);obtain⟨gh,hgh⟩:∃gh,w1.heap.size=gh:=⟨_,rfl⟩;have HH:Hid (Bk y gh 112 #[.int .i64 k,.int .i64 f,.int .i64 n]):=aa (by rw[<-hy,<-hgh];exact Bk.fresh w1 _ _)
 go_upto_region 2 with fail
 clear hy hgh HB1 HK1;clear w1;have hst:=aW HK2.o pk0 hs0;have HBD:Hid (Below w.heap.size w (dE y w.heap.size pk0 hs0)):=aa (bT HB2.o HB2.o.size (ac _) pk0 hs0);have HKP:=aa (cO HK2.o pk0 hs0)
 by_cases hx:x=0
 rotate_left
 ·have HX:Hid (smN v mp s=(pk0,0,x)):=aa (by rw[HE.o,if_pos hx]);have e0:(x !=0)=true:=aA.2 hx;clear hx;go_wp2;refine av (eZ rfl _ rfl HKP.o) rfl ?_;exact gR HX.o HBD.o
 obtain⟨b2,b3⟩:=HBK.o hx;have HE1:Hid (smN v mp s=if mp<(a+n:Nat)then(pk0,0,4)else R):=aa (by rw[HE.o,ae (fun z=>z hx)]);subst hx;have hsz:=HS.o;have hmm:=HM.o
 have c0:=HH.o.cell 0;have c1:=HH.o.cell 1;have c2:=HH.o.cell 2
 simp only[ay,aE,aB]at c0 c1 c2;have hsu:wrap64 (mp- (a:Int))=mp- (a:Int):=by unfold wrap64;omega
 clear HE HBK
 by_cases hlt:mp<((a+n:Nat):Int)
 ·have HX:Hid (smN v mp s=(pk0,0,4)):=aa (by rw[HE1.o,if_pos hlt]);have d1:decide (mp- (a:Int)<(n:Int))=true:=au (by omega);have d2:mp- (a:Int)<(n:Int):=by omega
  have d3: -9223372036854775808<=mp- (a:Int):=by omega
  have d4:mp- (a:Int)<=9223372036854775807:=by omega
  clear hlt;go_wp2;refine av (eZ rfl _ rfl HKP.o) rfl ?_;exact gR HX.o HBD.o
 have HX:Hid (smN v mp s=R):=aa (by rw[HE1.o,ae hlt]);have d1:decide (mp- (a:Int)<(n:Int))=false:=ah (by omega);have d2:(n:Int)<=mp- (a:Int):=by omega
 have d3: -9223372036854775808<=mp- (a:Int):=by omega
 have d4:mp- (a:Int)<=9223372036854775807:=by omega
 clear hlt HE1 hst HKP HBD
 go_wp2_with fail
 refine(HRD.o _).mono ?_;rintro e w3 ⟨hh,rfl,hi3,hb3,hf3⟩;have HB3:=aa (HB2.o.trans (hb3.mono HB2.o.size));have HK3:=aa (HK2.o.below hb3 HK2.o.lt);have hst:=aW HK3.o R.1 hh;have I3:=aa hi3;have F3:=aa hf3;have HYL:=aa HK2.o.lt
 clear hi3 hf3 hb3 c0 c1 c2 hsu d1 d2 d3 d4 hsz hmm b2 b3;go_wp2;refine av (eZ rfl _ rfl (cO HK3.o R.1 hh)) rfl ?_;rw[HX.o];exact⟨hh,rfl,I3.o.put HK3.o (cJ _ _ _ _) F3.o HYL.o,bT HB3.o HB3.o.size (ac _) R.1 hh,F3.o.mono (pf HYL.o)⟩
end
end Go.Proofs.YtbdgkkmbnahgiaaGreatDoor
