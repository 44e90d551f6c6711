/- A part of what the laws stand on: MqB, PkR, MsR, MqJ, MsA, MqC, MqD, MqE. -/
import Derived.Test.YtbdgkkmbnahgiaaGreatDoorMxG0MqA
set_option maxRecDepth 10000
set_option maxHeartbeats 8000000
namespace Go.Proofs.YtbdgkkmbnahgiaaGreatDoor
open Go.RowKit Go.Proofs.Tryz
section
attribute [local go_sem ↓] bD bF bH bI bu
attribute [local go_sem] bc aD bh bg bK bJ bd aY be aO ax cI dC dB dt dj di dA dr dp dn bW co bO bZ bX cz cy cw cu ct cC cn bS bP bR
abbrev DfT:TypeId:=163
abbrev WrT:TypeId:=124
abbrev ChT:TypeId:=120
def dfC(v:Int)(p:Pk)(h:Hs):Array Value:=#[.int .i64 v]++pkC p h
def dfV(v:Int)(p:Pk)(h:Hs):Value:=.agg (dfC v p h)
def Gq(v:Array (Nat×Value)):Sem Value:=Instr.build DfT v
def Gm(v:Value):Sem Value:=Instr.box DfT v
theorem xT(v:Array (Nat×Value)):Instr.build DfT v=Gq v:=rfl
theorem xR(v:Value):Instr.box DfT v=Gm v:=rfl
theorem un(v:Int)(p:Pk)(h:Hs)(w:World):(Gq #[(0,.int .i64 v),(1,pkV p h)]).run prog w= .ok (dfV v p h) w:=by kernel_rfl
theorem ul(v:Int)(p:Pk)(h:Hs)(w:World):(Gm (dfV v p h)).run prog w= .ok (.pointer (some ⟨w.heap.size,0,none⟩)) (w.alloc (.cells (dfC v p h) DfT)):=rfl
theorem VI{w:World}{g:Nat}{v:Int}{p:Pk}{h:Hs}(hb:Bk w g DfT (dfC v p h)):w.cell? ⟨g,0,none⟩=some (.int .i64 v):=by
 rw[hb.cell];unfold dfC;rw[Array.getElem?_append_left (by simp)];rfl
theorem Vh{w:World}{g:Nat}{v:Int}{p:Pk}{h:Hs}(hb:Bk w g DfT (dfC v p h)):(kZ (.pointer (some ⟨g,1,none⟩))).run prog w= .ok (pkV p h) w:=by
 unfold kZ;have hc:w.rangeAt g 1 (pkC p h).toList:=fun j u hu=>by
  rw[hb.cell];unfold dfC;rw[Array.getElem?_append_right (by simp)]
  simpa using hu
 exact run_loadAt_mid w g 1 PkT (pkC p h).toList _ hc underlying29 rfl (by rw[fT,bo];exact tk)
attribute [local go_sem ↓] xT xR
attribute [local go_sem] un ul
theorem Rd.otherF{w w':World}{B g:Nat}{A:Option Addr}{l:List Fi}{p:Pk}{k:Hs}(h:Rd w B 5 A l.length (fis l))(hbk:Bk w g PkT (pkC p k))(hm:w.grownBy w' (some g))(hB:B<=w.heap.size):Rd w' B 5 A l.length (fis l):=by
 refine h.grown hm hB ?_;rintro b o rfl hx rfl;cases l with
 | nil=>exact hx rfl
 | cons f l=>
   obtain⟨b',o',e,-,h0,h1,h2,h3,-⟩:=h.atF (i:=0) (by simp);simp only[aX,Addr.mk.injEq]at e;obtain⟨rfl,rfl,-⟩:=e;rw[hbk.cell]at h0 h1 h2 h3;simp only[jU,jV,List.getElem_cons_zero]at h0 h1 h2 h3;have ho:o<25:=by
    rcases fj o 25 with h| h
    ·exact h
    ·rw[Array.getElem?_eq_none (by rw[bo];exact h)]at h0;cases h0
   rcases o with _| _| _| _| _| _| _| _| _| _| _| _| _| _| _| _| _| _| _| _| _| _| _| _| _| o
   all_goals first| (simp[pkC]at h0;done) | (simp[pkC]at h1;done) | (simp[pkC]at h2;done) | (simp[pkC]at h3;done) | omega
def ja(w:World)(p:Pk)(h:Hs):Prop:=p.codes=[]\/∀b o,h.codes.a=some ⟨b,o,none⟩->w.heap.size<=b
theorem ja.mono{w x:World}{p:Pk}{h:Hs}(hf:ja x p h)(hx:w.heap.size<=x.heap.size):ja w p h:=hf.imp id fun g b o e=>aC hx (g b o e)
theorem PkIn.put{w x y:World}{g:Nat}{p p0:Pk}{h h0:Hs}(hi:PkIn x x.heap.size p h)(hbk:Bk x g PkT (pkC p0 h0))(hm:x.grownBy y (some g))(hf:ja w p h)(hg:g<w.heap.size):PkIn y y.heap.size p h:=by
 refine⟨(hi.wp.other hbk (dY _ _) hm (ac _)).wider hm.size,?_,(hi.filters.otherF hbk hm (ac _)).wider hm.size,(hi.props.other hbk (dY _ _) hm (ac _)).wider hm.size,hi.caps⟩;refine(hi.codes.grown hm (ac _) ?_).wider hm.size;intro b o e hx;rcases hf with h| h
 ·rw[h]at hx;exact absurd rfl hx
 ·have:=h b o e;omega
def lQ(r:Pk×Int)(w:World)(e:Ending)(w':World):Prop:=∃h,e= .returned (.tuple #[pkV r.1 h,.int .i64 r.2])/\PkIn w' w'.heap.size r.1 h/\Below w.heap.size w w'/\ja w r.1 h
theorem mu.plain{r:Pk×Int}{w w':World}{e:Ending}(x:mu r w e w')(hc:r.1.codes=[]):lQ r w e w':=by
 obtain⟨h,he,hi,hb⟩:=x;exact⟨h,he,hi,hb,.inl hc⟩
theorem qT.plain{r:Pk×Int}{w w':World}{e:Ending}(x:qT r w e w'):lQ r w e w':=by
 obtain⟨h,he,hi,hb,hf⟩:=x;exact⟨h,he,hi,hb,.inr hf⟩
theorem xy(v k:Int)(s:ByteArray):(iB v k s).1.codes=[]:=by
 rcases oe (v:=v) (k:=k) (s:=s)with ⟨-,h1⟩ | ⟨-,-,-,-,h5,h6⟩
 ·rw[h1];rfl
 ·rw[h6];rcases Dk h5 with h| h
  ·rw[(su h5 h).same];unfold kS;split<;>rfl
  ·rw[(Az h5 h).same];rfl
theorem wJ(v f:Int)(s:ByteArray):(km v f s).1.codes=[]:=by
 unfold km
 repeat' split
 all_goals rfl
theorem xJ(v k:Int)(s:ByteArray):(iW v k s).1.codes=[]:=by
 unfold iW
 repeat' split
 all_goals rfl
theorem xw(v k:Int)(s:ByteArray):(gX v k s).1.codes=[]:=by
 unfold gX
 repeat' split
 all_goals rfl
def FC(f:FuncId):Value:=.func (.func f) #[] #[]
def wrV(v:Int)(x:Hdr)(s:ByteArray):Value:=.agg #[.int .i64 v,.int .i64 x.k,.int .i64 x.f,.int .i64 x.n,.string s]
theorem UV(v:Int)(p:Pk)(h:Hs)(w:World)(ip:PkIn w w.heap.size p h)(ok:PkOk p):
  Calls prog 136 #[dfV v p h] w fun e w'=>e= .returned (.tuple #[.string (Dm v p).1,.int .i64 (Dm v p).2])/\Below w.heap.size w w':=by
 have HK:=aa (Bk.fresh w DfT (dfC v p h));have hb0:=(aq w.heap.size w).alloc (ac _) (.cells (dfC v p h) DfT);have HB:=aa hb0;have HIP:=aa (ip.next hb0);have HOK:=aa ok;have c0:=VI HK.o;have l1:=Vh HK.o;clear ip ok hb0;go_enter func136,ntmps136
 go_wp2_with fail
 refine(Vl v p h _ HIP.o HOK.o).mono ?_;rintro e w1 ⟨rfl,hb⟩;have HB1:=aa (HB.o.trans (hb.mono HB.o.size));clear hb c0 l1;go_wp2;go_ret2;exact⟨rfl,HB1.o⟩
theorem UT(v:Int)(p:Pk)(h:Hs)(w:World)(ip:PkIn w w.heap.size p h)(ok:PkOk p):
  Calls prog 144 #[dfV v p h] w fun e w'=>e= .returned (.tuple #[.string (Gf v p).1,.int .i64 (Gf v p).2])/\Below w.heap.size w w':=by
 have HK:=aa (Bk.fresh w DfT (dfC v p h));have hb0:=(aq w.heap.size w).alloc (ac _) (.cells (dfC v p h) DfT);have HB:=aa hb0;have HIP:=aa (ip.next hb0);have HOK:=aa ok;have c0:=VI HK.o;have l1:=Vh HK.o;clear ip ok hb0;go_enter func144,ntmps144
 go_wp2_with fail
 refine(Va v p h _ HIP.o HOK.o).mono ?_;rintro e w1 ⟨rfl,hb⟩;have HB1:=aa (HB.o.trans (hb.mono HB.o.size));clear hb c0 l1;go_wp2;go_ret2;exact⟨rfl,HB1.o⟩
theorem VA(v:Int)(p:Pk)(h:Hs)(w:World)(ip:PkIn w w.heap.size p h)(ok:PkOk p):
  Calls prog 138 #[dfV v p h] w fun e w'=>e= .returned (.tuple #[.string ⟨(Ga v p).1.toArray⟩,.int .i64 (Ga v p).2])/\Below w.heap.size w w':=by
 have HK:=aa (Bk.fresh w DfT (dfC v p h));have hb0:=(aq w.heap.size w).alloc (ac _) (.cells (dfC v p h) DfT);have HB:=aa hb0;have HIP:=aa (ip.next hb0);have HOK:=aa ok;have c0:=VI HK.o;have l1:=Vh HK.o;clear ip ok hb0;go_enter func138,ntmps138
 go_wp2_with fail
 refine(Vn v p h _ HIP.o HOK.o).mono ?_;rintro e w1 ⟨rfl,hb⟩;have HB1:=aa (HB.o.trans (hb.mono HB.o.size));clear hb c0 l1;go_wp2;go_ret2;exact⟨rfl,HB1.o⟩
theorem UK(v:Int)(p:Pk)(h:Hs)(w:World)(ip:PkIn w w.heap.size p h)(ok:PkOk p)(hz:(sbS v p).length<=140737488351232):
  Calls prog 140 #[dfV v p h] w fun e w'=>e= .returned (.tuple #[.string (sbB v p).1,.int .i64 (sbB v p).2])/\Below w.heap.size w w':=by
 have HK:=aa (Bk.fresh w DfT (dfC v p h));have hb0:=(aq w.heap.size w).alloc (ac _) (.cells (dfC v p h) DfT);have HB:=aa hb0;have HIP:=aa (ip.next hb0);have HOK:=aa ok;have c0:=VI HK.o;have l1:=Vh HK.o;clear ip ok hb0;go_enter func140,ntmps140
 go_wp2_with fail
 refine(Vp v p h _ HIP.o HOK.o hz).mono ?_;rintro e w1 ⟨rfl,hb⟩;have HB1:=aa (HB.o.trans (hb.mono HB.o.size));clear hb c0 l1;go_wp2;go_ret2;exact⟨rfl,HB1.o⟩
theorem UU(v:Int)(p:Pk)(h:Hs)(w:World)(ip:PkIn w w.heap.size p h)(ok:PkOk p):
  Calls prog 142 #[dfV v p h] w fun e w'=>e= .returned (.tuple #[.string ⟨(FY v p).1.toArray⟩,.int .i64 (FY v p).2])/\Below w.heap.size w w':=by
 have HK:=aa (Bk.fresh w DfT (dfC v p h));have hb0:=(aq w.heap.size w).alloc (ac _) (.cells (dfC v p h) DfT);have HB:=aa hb0;have HIP:=aa (ip.next hb0);have HOK:=aa ok;have c0:=VI HK.o;have l1:=Vh HK.o;clear ip ok hb0;go_enter func142,ntmps142
 go_wp2_with fail
 refine(Vk v p h _ HIP.o HOK.o).mono ?_;rintro e w1 ⟨rfl,hb⟩;have HB1:=aa (HB.o.trans (hb.mono HB.o.size));clear hb c0 l1;go_wp2;go_ret2;exact⟨rfl,HB1.o⟩
theorem rb(v:Int)(x:Hdr)(s:ByteArray)(w:World)(hs:s.size<=1000000000000):
  Calls prog 137 #[wrV v x s] w (lQ (iB v x.k s) w):=by
 have HS:=aa hs;have HB:=aa (((aq w.heap.size w).alloc (ac _) (.cells #[.int .i64 v,.int .i64 x.k,.int .i64 x.f,.int .i64 x.n,.string s] WrT)).alloc (by simp) (.cells (pkC pk0 hs0) PkT));have K0:=aa ((Bk.fresh w WrT #[.int .i64 v,.int .i64 x.k,.int .i64 x.f,.int .i64 x.n,.string s]).alloc (.cells (pkC pk0 hs0) PkT));have K1:=aa (Bk.fresh (w.alloc (.cells #[.int .i64 v,.int .i64 x.k,.int .i64 x.f,.int .i64 x.n,.string s] WrT)) PkT (pkC pk0 hs0));have c0:=K0.o.cell 0;have c1:=K0.o.cell 1;have c2:=K0.o.cell 2;have c4:=K0.o.cell 4
 simp only[ay,aE,aB]at c0 c1 c2 c4;clear hs;unfold wrV;go_enter func137,ntmps137
 go_wp2_with fail
 refine(vI v x.k s _ (by have:=HS.o;omega)).mono ?_;rintro e w1 hO;obtain⟨hh,rfl,hi,hb,hf⟩:=hO.plain (xy _ _ _);have HF:=aa hf;have HB1:=aa (HB.o.trans (hb.mono HB.o.size));have HI1:=aa hi;have K2:=aa (K1.o.below hb K1.o.lt);clear c0 c1 c2 c4;have hsz:(w.alloc (.cells #[.int .i64 v,.int .i64 x.k,.int .i64 x.f,.int .i64 x.n,.string s] WrT)).heap.size=w.heap.size+1:=by simp
 rw[hsz]at K2;clear hsz;have hst:=aW K2.o (iB v x.k s).1 hh;have HG:Hid (w.heap.size<=w.heap.size+1):=aa (by omega);clear hi hb hf hO;generalize iB v x.k s=R at*;go_wp2;refine av (aI rfl _ rfl (cO K2.o R.1 hh)) rfl ?_;have hb2:=bT HB1.o HB1.o.size HG.o R.1 hh;exact⟨hh,rfl,HI1.o.put K2.o (cJ _ _ _ _) HF.o (by simp),hb2,HF.o.mono (by simp;omega)⟩
theorem qY(v:Int)(x:Hdr)(s:ByteArray)(w:World)(hs:s.size<=1000000000000):
  Calls prog 145 #[wrV v x s] w (lQ (km v x.f s) w):=by
 have HS:=aa hs;have HB:=aa (((aq w.heap.size w).alloc (ac _) (.cells #[.int .i64 v,.int .i64 x.k,.int .i64 x.f,.int .i64 x.n,.string s] WrT)).alloc (by simp) (.cells (pkC pk0 hs0) PkT));have K0:=aa ((Bk.fresh w WrT #[.int .i64 v,.int .i64 x.k,.int .i64 x.f,.int .i64 x.n,.string s]).alloc (.cells (pkC pk0 hs0) PkT));have K1:=aa (Bk.fresh (w.alloc (.cells #[.int .i64 v,.int .i64 x.k,.int .i64 x.f,.int .i64 x.n,.string s] WrT)) PkT (pkC pk0 hs0));have c0:=K0.o.cell 0;have c1:=K0.o.cell 1;have c2:=K0.o.cell 2;have c4:=K0.o.cell 4
 simp only[ay,aE,aB]at c0 c1 c2 c4;clear hs;unfold wrV;go_enter func145,ntmps145
 go_wp2_with fail
 refine(uO v x.f s _ (by have:=HS.o;omega)).mono ?_;rintro e w1 hO;obtain⟨hh,rfl,hi,hb,hf⟩:=hO.plain (wJ _ _ _);have HF:=aa hf;have HB1:=aa (HB.o.trans (hb.mono HB.o.size));have HI1:=aa hi;have K2:=aa (K1.o.below hb K1.o.lt);clear c0 c1 c2 c4;have hsz:(w.alloc (.cells #[.int .i64 v,.int .i64 x.k,.int .i64 x.f,.int .i64 x.n,.string s] WrT)).heap.size=w.heap.size+1:=by simp
 rw[hsz]at K2;clear hsz;have hst:=aW K2.o (km v x.f s).1 hh;have HG:Hid (w.heap.size<=w.heap.size+1):=aa (by omega);clear hi hb hf hO;generalize km v x.f s=R at*;go_wp2;refine av (aI rfl _ rfl (cO K2.o R.1 hh)) rfl ?_;have hb2:=bT HB1.o HB1.o.size HG.o R.1 hh;exact⟨hh,rfl,HI1.o.put K2.o (cJ _ _ _ _) HF.o (by simp),hb2,HF.o.mono (by simp;omega)⟩
theorem yV(v:Int)(x:Hdr)(s:ByteArray)(w:World)(hs:s.size<=1000000000000):
  Calls prog 139 #[wrV v x s] w (lQ (iW v x.k s) w):=by
 have HS:=aa hs;have HB:=aa (((aq w.heap.size w).alloc (ac _) (.cells #[.int .i64 v,.int .i64 x.k,.int .i64 x.f,.int .i64 x.n,.string s] WrT)).alloc (by simp) (.cells (pkC pk0 hs0) PkT));have K0:=aa ((Bk.fresh w WrT #[.int .i64 v,.int .i64 x.k,.int .i64 x.f,.int .i64 x.n,.string s]).alloc (.cells (pkC pk0 hs0) PkT));have K1:=aa (Bk.fresh (w.alloc (.cells #[.int .i64 v,.int .i64 x.k,.int .i64 x.f,.int .i64 x.n,.string s] WrT)) PkT (pkC pk0 hs0));have c0:=K0.o.cell 0;have c1:=K0.o.cell 1;have c2:=K0.o.cell 2;have c4:=K0.o.cell 4
 simp only[ay,aE,aB]at c0 c1 c2 c4;clear hs;unfold wrV;go_enter func139,ntmps139
 go_wp2_with fail
 refine(vR v x.k s _ (by have:=HS.o;omega)).mono ?_;rintro e w1 hO;obtain⟨hh,rfl,hi,hb,hf⟩:=hO.plain (xJ _ _ _);have HF:=aa hf;have HB1:=aa (HB.o.trans (hb.mono HB.o.size));have HI1:=aa hi;have K2:=aa (K1.o.below hb K1.o.lt);clear c0 c1 c2 c4;have hsz:(w.alloc (.cells #[.int .i64 v,.int .i64 x.k,.int .i64 x.f,.int .i64 x.n,.string s] WrT)).heap.size=w.heap.size+1:=by simp
 rw[hsz]at K2;clear hsz;have hst:=aW K2.o (iW v x.k s).1 hh;have HG:Hid (w.heap.size<=w.heap.size+1):=aa (by omega);clear hi hb hf hO;generalize iW v x.k s=R at*;go_wp2;refine av (aI rfl _ rfl (cO K2.o R.1 hh)) rfl ?_;have hb2:=bT HB1.o HB1.o.size HG.o R.1 hh;exact⟨hh,rfl,HI1.o.put K2.o (cJ _ _ _ _) HF.o (by simp),hb2,HF.o.mono (by simp;omega)⟩
theorem oX(v:Int)(x:Hdr)(s:ByteArray)(w:World)(hs:s.size<=1000000000000):
  Calls prog 141 #[wrV v x s] w (lQ (sbR v x.k s) w):=by
 have HS:=aa hs;have HB:=aa (((aq w.heap.size w).alloc (ac _) (.cells #[.int .i64 v,.int .i64 x.k,.int .i64 x.f,.int .i64 x.n,.string s] WrT)).alloc (by simp) (.cells (pkC pk0 hs0) PkT));have K0:=aa ((Bk.fresh w WrT #[.int .i64 v,.int .i64 x.k,.int .i64 x.f,.int .i64 x.n,.string s]).alloc (.cells (pkC pk0 hs0) PkT));have K1:=aa (Bk.fresh (w.alloc (.cells #[.int .i64 v,.int .i64 x.k,.int .i64 x.f,.int .i64 x.n,.string s] WrT)) PkT (pkC pk0 hs0));have c0:=K0.o.cell 0;have c1:=K0.o.cell 1;have c2:=K0.o.cell 2;have c4:=K0.o.cell 4
 simp only[ay,aE,aB]at c0 c1 c2 c4;clear hs;unfold wrV;go_enter func141,ntmps141
 go_wp2_with fail
 refine(ud v x.k s _ HS.o).mono ?_;rintro e w1 hO;obtain⟨hh,rfl,hi,hb,hf⟩:=hO.plain;have HF:=aa hf;have HB1:=aa (HB.o.trans (hb.mono HB.o.size));have HI1:=aa hi;have K2:=aa (K1.o.below hb K1.o.lt);clear c0 c1 c2 c4;have hsz:(w.alloc (.cells #[.int .i64 v,.int .i64 x.k,.int .i64 x.f,.int .i64 x.n,.string s] WrT)).heap.size=w.heap.size+1:=by simp
 rw[hsz]at K2;clear hsz;have hst:=aW K2.o (sbR v x.k s).1 hh;have HG:Hid (w.heap.size<=w.heap.size+1):=aa (by omega);clear hi hb hf hO;generalize sbR v x.k s=R at*;go_wp2;refine av (aI rfl _ rfl (cO K2.o R.1 hh)) rfl ?_;have hb2:=bT HB1.o HB1.o.size HG.o R.1 hh;exact⟨hh,rfl,HI1.o.put K2.o (cJ _ _ _ _) HF.o (by simp),hb2,HF.o.mono (by simp;omega)⟩
theorem qZ(v:Int)(x:Hdr)(s:ByteArray)(w:World)(hs:s.size<=1000000000000):
  Calls prog 143 #[wrV v x s] w (lQ (gX v x.k s) w):=by
 have HS:=aa hs;have HB:=aa (((aq w.heap.size w).alloc (ac _) (.cells #[.int .i64 v,.int .i64 x.k,.int .i64 x.f,.int .i64 x.n,.string s] WrT)).alloc (by simp) (.cells (pkC pk0 hs0) PkT));have K0:=aa ((Bk.fresh w WrT #[.int .i64 v,.int .i64 x.k,.int .i64 x.f,.int .i64 x.n,.string s]).alloc (.cells (pkC pk0 hs0) PkT));have K1:=aa (Bk.fresh (w.alloc (.cells #[.int .i64 v,.int .i64 x.k,.int .i64 x.f,.int .i64 x.n,.string s] WrT)) PkT (pkC pk0 hs0));have c0:=K0.o.cell 0;have c1:=K0.o.cell 1;have c2:=K0.o.cell 2;have c4:=K0.o.cell 4
 simp only[ay,aE,aB]at c0 c1 c2 c4;clear hs;unfold wrV;go_enter func143,ntmps143
 go_wp2_with fail
 refine(vG v x.k s _ (by have:=HS.o;omega)).mono ?_;rintro e w1 hO;obtain⟨hh,rfl,hi,hb,hf⟩:=hO.plain (xw _ _ _);have HF:=aa hf;have HB1:=aa (HB.o.trans (hb.mono HB.o.size));have HI1:=aa hi;have K2:=aa (K1.o.below hb K1.o.lt);clear c0 c1 c2 c4;have hsz:(w.alloc (.cells #[.int .i64 v,.int .i64 x.k,.int .i64 x.f,.int .i64 x.n,.string s] WrT)).heap.size=w.heap.size+1:=by simp
 rw[hsz]at K2;clear hsz;have hst:=aW K2.o (gX v x.k s).1 hh;have HG:Hid (w.heap.size<=w.heap.size+1):=aa (by omega);clear hi hb hf hO;generalize gX v x.k s=R at*;go_wp2;refine av (aI rfl _ rfl (cO K2.o R.1 hh)) rfl ?_;have hb2:=bT HB1.o HB1.o.size HG.o R.1 hh;exact⟨hh,rfl,HI1.o.put K2.o (cJ _ _ _ _) HF.o (by simp),hb2,HF.o.mono (by simp;omega)⟩
end
section
def pks(L:List (Pk×Hs)):List Value:=L.flatMap fun x=>(pkC x.1 x.2).toList
theorem kM(x:Pk×Hs):((pkC x.1 x.2).toList).length=25:=rfl
theorem gJ(L:List (Pk×Hs)):(pks L).length=L.length*25:=iA kM L
theorem Ef:pks []=[]:=rfl
theorem m6(x:Pk×Hs)(L:List (Pk×Hs)):pks (x :: L)=(pkC x.1 x.2).toList++pks L:=rfl
theorem pE(L M:List (Pk×Hs)):pks (L++M)=pks L++pks M:=by
 unfold pks;rw[fR]
theorem mG(L:List (Pk×Hs))(i r:Nat)(h:i<L.length)(hr:r<25):(pks L)[i*25+r]? =(pkC L[i].1 L[i].2)[r]? :=by
 have:=kQ kM L i r h hr;rw[show pks L=L.flatMap fun x=>(pkC x.1 x.2).toList from rfl,this];simp
theorem ln:∀(L:List (Pk×Hs)) (n:Nat),(pks L).take (n*25)=pks (L.take n)
 | L,0=>by simp[pks]
 | [],n+1=>by simp[pks]
 | x :: L,n+1=>by
   rw[GG,m6,m6,ot,bt (by rw[kM x];omega),kM x,show(n+1)*25- 25=n*25 by omega,ln L n]
theorem uR:∀(L:List (Pk×Hs)) (n:Nat),(pks L).drop (n*25)=pks (L.drop n)
 | L,0=>by simp
 | [],n+1=>by simp[pks]
 | x :: L,n+1=>by
   rw[ji,m6,List.drop_append,gD (by rw[kM x];omega),kM x,show(n+1)*25- 25=n*25 by omega,uR L n,dX]
theorem Ee(L:List (Pk×Hs)):∀u∈pks L,u.oneCell'=true:=by
 intro u hu;obtain⟨x,-,hx⟩:=ou.1 hu;have h:=yy x.1 x.2;rw[Array.all_eq_true_iff_forall_mem]at h;exact h u (by simpa using hx)
theorem yx{L:List (Pk×Hs)}{o:Nat}{v:Value}(h:(pks L)[o]? =some v):∃i r,o=i*25+r/\r<25/\i<L.length:=by
 have hlt:=(cR.1 h).1;rw[gJ]at hlt;exact⟨o/ 25,o% 25,by omega,by omega,by omega⟩
theorem uQ(L:List (Pk×Hs)):∀(i:Nat) (n:Int),(pks L).toArray[i]? ≠some (Value.int IntKind.u32 n):=by
 intro o n h;rw[ay]at h;obtain⟨i,r,rfl,hr,hi⟩:=yx h;rw[mG L i r hi hr]at h;exact dY _ _ _ _ h
theorem BN(L:List (Pk×Hs))(o:Nat)(a:ByteArray)(b:Int)(_c d:Bool)(h0:(pks L).toArray[o]? =some (.string a))(h1:(pks L).toArray[o+1]? =some (.int .i64 b))(h3:(pks L).toArray[o+3]? =some (.bool d)):False:=by
 rw[ay]at h0 h1 h3;obtain⟨i,r,rfl,hr,hi⟩:=yx h0;rw[mG L i r hi hr]at h0;have g1:r+1<25->(pkC L[i].1 L[i].2)[r+1]? =some (.int .i64 b):=fun h=>by rw[<-mG L i (r+1) hi h,<-Nat.add_assoc];exact h1
 have g3:r+3<25->(pkC L[i].1 L[i].2)[r+3]? =some (.bool d):=fun h=>by rw[<-mG L i (r+3) hi h,<-Nat.add_assoc];exact h3
 clear h1 h3;generalize L[i]=x at*;rcases r with _| _| _| _| _| _| _| _| _| _| _| _| _| _| _| _| _| _| _| _| _| _| _| _| _| r
 all_goals first| (simp[pkC]at h0;done) | (simp[pkC]at g1;done) | (simp[pkC]at g3;done) | omega
theorem BM(n:Nat):(Builtin.zeroCells (pkC pk0 hs0) n).toList=pks (List.replicate n (pk0,hs0)):=by
 apply dM;intro j
 by_cases hj:j<n*25
 ·have h:=mG (List.replicate n (pk0,hs0)) (j/ 25) (j% 25) (by simp;omega) (by omega);rw[show j/ 25*25+j% 25=j by omega]at h;have h2:(pkC pk0 hs0)[j% 25]? =some ((pkC pk0 hs0)[j% 25]!):=by
   have hlt:j% 25<(pkC pk0 hs0).size:=by rw[bo];omega
   rw[eL hlt,getElem!_pos (pkC pk0 hs0) (j% 25) hlt]
  rw[h,List.getElem_replicate,h2];simp[Builtin.zeroCells,bo,hj]
 ·rw[aG (by rw[fT,size_zeroCells,bo];omega),aG (by rw[gJ,List.length_replicate];omega)]
theorem Rd.otherN{w w':World}{B g:Nat}{A:Option Addr}{l:List Fi}{t:TypeId}{cs:Array Value}(h:Rd w B 5 A l.length (fis l))(hbk:Bk w g t cs)
  (hcs:∀(o:Nat) (a:ByteArray) (b:Int) (_c d:Bool),cs[o]? =some (.string a)->cs[o+1]? =some (.int .i64 b)->cs[o+3]? =some (.bool d)->False)(hm:w.grownBy w' (some g))(hB:B<=w.heap.size):Rd w' B 5 A l.length (fis l):=by
 refine h.grown hm hB ?_;rintro b o rfl hx rfl;cases l with
 | nil=>exact hx rfl
 | cons f l=>
   obtain⟨b',o',e,-,h0,h1,h2,h3,-⟩:=h.atF (i:=0) (by simp);simp only[aX,Addr.mk.injEq]at e;obtain⟨rfl,rfl,-⟩:=e;rw[hbk.cell]at h0 h1 h2 h3;simp only[jU,jV,List.getElem_cons_zero]at h0 h1 h2 h3;exact hcs o _ _ false _ h0 h1 h3
def gG(g:Nat)(x:Pk×Hs):Prop:=x.1.codes=[]\/∀b o,x.2.codes.a=some ⟨b,o,none⟩->b≠g
theorem FI{l:List Int}(h:iv l=[]):l=[]:=by
 cases l with
 | nil=>rfl
 | cons z l=>simp[iv]at h
theorem PkIn.apart{w:World}{p:Pk}{h:Hs}{B:Nat}(hi:PkIn w B p h){g:Nat}(hg:B<=g):gG g (p,h):=by
 rcases hi.codes.2 with h0| ⟨b,o,hA,hb,-⟩
 ·exact .inl (FI h0)
 ·refine .inr fun b' o' e=>?_;dsimp only at e;rw[hA]at e;cases e;omega
theorem ja.apart{w:World}{p:Pk}{h:Hs}(hf:ja w p h){g:Nat}(hg:g<w.heap.size):gG g (p,h):=by
 rcases hf with h0| h0
 ·exact .inl h0
 ·exact .inr fun b o e=>by have:=h0 b o e;omega
theorem PkIn.row{x y:World}{g:Nat}{p:Pk}{h:Hs}{L:List (Pk×Hs)}(hi:PkIn x x.heap.size p h)(hbk:Bk x g PkT (pks L).toArray)(hm:x.grownBy y (some g))(hf:gG g (p,h)):PkIn y y.heap.size p h:=by
 refine⟨(hi.wp.other hbk (uQ L) hm (ac _)).wider hm.size,?_,(hi.filters.otherN hbk (BN L) hm (ac _)).wider hm.size,(hi.props.other hbk (uQ L) hm (ac _)).wider hm.size,hi.caps⟩;refine(hi.codes.grown hm (ac _) ?_).wider hm.size;intro b o e hx;rcases hf with h| h
 ·dsimp only at h;rw[h]at hx;exact absurd rfl hx
 ·exact h b o e
structure RowK (w0 w:World) (A:Option Addr) (n c:Nat) (L:List (Pk×Hs)):Prop where
 len:L.length=n
 lies:(A=none/\n=0/\c=0)\/∃g M,A=some ⟨g,0,none⟩/\w0.heap.size<=g/\Bk w g PkT (pks M).toArray/\M.length=c/\n<=c/\c<=maxLen/\M.take n=L
section
variable {w0 w y:World} {A:Option Addr} {n c:Nat} {L:List (Pk×Hs)}
theorem RowK.start(w0 w:World):RowK w0 w none 0 0 []:=⟨rfl,.inl ⟨rfl,rfl,rfl⟩⟩
theorem RowK.below(h:RowK w0 w A n c L)(hb:Below w.heap.size w y):RowK w0 y A n c L:=by
 refine⟨h.len,?_⟩;rcases h.lies with h1| ⟨g,M,h1,h2,h3,h4⟩
 ·exact .inl h1
 ·exact .inr ⟨g,M,h1,h2,h3.below hb h3.lt,h4⟩
theorem RowK.block(h:RowK w0 w A n c L){g o:Nat}(e:A=some ⟨g,o,none⟩):w0.heap.size<=g/\g<w.heap.size:=by
 rcases h.lies with ⟨h1,-⟩ | ⟨g',M,h1,h2,h3,-⟩
 ·rw[h1]at e;cases e
 ·rw[h1]at e;cases e
  exact⟨h2,h3.lt⟩
theorem RowK.own(h:RowK w0 w A n c L){g:Nat}(e:(Value.slice A n c).ownBlock=some g):w0.heap.size<=g/\g<w.heap.size:=by
 cases A with
 | none=>cases e
 | some a=>
   obtain⟨b,o,s⟩:=a;rcases h.lies with ⟨h1,-⟩ | ⟨g',M,h1,h2,h3,-⟩
   ·cases h1
   ·cases h1;simp only[Value.ownBlock,aX]at e;subst e;exact⟨h2,h3.lt⟩
theorem RowK.cap(h:RowK w0 w A n c L):n<=c:=by
 rcases h.lies with ⟨-,h1,-⟩ | ⟨g,M,h1,h2,h3,h4,h5,h6,h7⟩<;>omega
theorem RowK.rd(h:RowK w0 w A n c L):Rd w w.heap.size 25 A n (pks L):=by
 refine⟨by rw[gJ,h.len],?_⟩;rcases h.lies with ⟨-,h1,-⟩ | ⟨g,M,h1,h2,h3,h4,h5,h6,h7⟩
 ·refine .inl ?_;have:=h.len;rw[aF (by omega:L.length=0)];rfl
 ·refine .inr ⟨g,0,h1,h3.lt,fun j u hu=>?_⟩;rw[bV,h3.cell,ay];rw[<-h7,<-ln,List.getElem?_take]at hu;split at hu
  ·exact hu
  ·cases hu
theorem RowK.keep(h:RowK w0 w A n c L)(hm:w.grownBy y (Value.slice A n c).ownBlock){p:Pk}{k:Hs}(hi:PkIn w w.heap.size p k)(ha:∀g o,A=some ⟨g,o,none⟩->gG g (p,k)):PkIn y y.heap.size p k:=by
 rcases h.lies with ⟨rfl,-⟩ | ⟨g,M,rfl,-,h3,-⟩
 ·exact hi.next ⟨hm.os,hm.tape,hm.output,hm.size,fun i hi=>hm.block i hi (by simp[Value.ownBlock])⟩
 ·exact hi.row h3 hm (ha g 0 rfl)
end
theorem vm:(prog.info? PkT).map (fun i=>(i.zero,i.size,i.bytes))=some (some (pkV pk0 hs0),25,312):=by kernel_rfl
theorem Bo{w0 w:World}{A:Option Addr}{n c:Nat}{L:List (Pk×Hs)}(hr:RowK w0 w A n c L)(h0:w0.heap.size<=w.heap.size)(ty:TypeId)(X:Addr)(N:List (Pk×Hs))(m cx B:Nat)(hN:N.length=m)(hm:0<m)(hs:Rd w B 25 (some X) m (pks N))(hb:n+m<=100000000000):
  ∃g c' w',(Builtin.append_ #[48,48] ty #[.slice A n c,.slice (some X) m cx]).run prog w= .ok (.slice (some ⟨g,0,none⟩) (n+m) c') w'/\
   RowK w0 w' (some ⟨g,0,none⟩) (n+m) c' (L++N)/\w.grownBy w' (Value.slice A n c).ownBlock/\((Value.slice A n c).ownBlock=some g\/g=w.heap.size)/\g<w'.heap.size:=by
 obtain⟨i,hi,hz,hsize,hby⟩:=o8 vm;have ht:=underlying48;have hzc:(pkV pk0 hs0).cells=pkC pk0 hs0:=rfl;have hlen:(pks N).length=m*i.size:=by rw[gJ,hN,hsize]
 have hlenA:(L++N).length=n+m:=by rw[List.length_append,hr.len,hN]
 have hsrc:∀j u,(pks N)[j]? =some u->w.cell? (X.add j)=some u:=by
  obtain⟨ad,e,-,hc⟩:=hs.addr (by
   intro e;have:=gJ N;rw[e]at this;simp at this;omega)
  cases e;exact hc
 have grown:∀(need old:Nat),need=n+m->old<need->RowK w0 (w.drew.alloc (.cells ((pks L).toArray++(pks N).toArray++Builtin.zeroCells (pkV pk0 hs0).cells (grownCap w need old PkT- need)) PkT)) (some ⟨w.heap.size,0,none⟩) need (grownCap w need old PkT) (L++N)/\
   (∀row,w.grownBy (w.drew.alloc (.cells ((pks L).toArray++(pks N).toArray++Builtin.zeroCells (pkV pk0 hs0).cells (grownCap w need old PkT- need)) PkT)) row)/\w.heap.size<(w.drew.alloc (.cells ((pks L).toArray++(pks N).toArray++Builtin.zeroCells (pkV pk0 hs0).cells (grownCap w need old PkT- need)) PkT)).heap.size:=by
  intro need old hneed hold;have hge:=grownCap_ge w need old PkT;have hcm:grownCap w need old PkT<=maxLen:=grownCap_le_maxLen w need old PkT (by unfold maxLen;omega);refine⟨⟨by rw[hlenA,hneed],.inr ⟨w.heap.size,L++N++List.replicate (grownCap w need old PkT- need) (pk0,hs0),rfl,h0,?_,?_,hge,hcm,?_⟩⟩,fun row=>⟨rfl,rfl,rfl,by simp,fun k hk _=>heap_alloc_old w.drew _ hk⟩,by simp⟩
  ·have:(pks L).toArray++(pks N).toArray++Builtin.zeroCells (pkV pk0 hs0).cells (grownCap w need old PkT- need)=(pks (L++N++List.replicate (grownCap w need old PkT- need) (pk0,hs0))).toArray:=by
    apply oz.1;rw[hzc,Array.toList_append,Array.toList_append,BM,pE,pE]
   rw[this];exact Bk.fresh w.drew _ _
  ·rw[List.length_append,hlenA,List.length_replicate];omega
  ·rw[eW (by rw[hlenA];omega),bt (by rw[hlenA];omega)]
 rcases hr.lies with ⟨rfl,rfl,rfl⟩ | ⟨g,M,rfl,h2,h3,h4,h5,h6,h7⟩
 ·have hL:L=[]:=aF hr.len;subst hL;have hrun:=run_append_nil (P:=prog) w 48 ty PkT i (pkV pk0 hs0) ht hi hz X m cx (pks N) hlen hsrc hm (by omega) (by rw[hby];omega);obtain⟨g1,g2,g3⟩:=grown m 0 (by omega) hm;rw[show(pks []).toArray= #[]from rfl]at g1 g2 g3;simp only[Array.empty_append]at g1 g2 g3;rw[bV];exact⟨_,_,_,hrun,g1,g2 _,.inr rfl,g3⟩
 ·by_cases hroom:n+m<=c
  ·have hrun:=run_append_room (P:=prog) w 48 ty PkT i ht hi g n c (pks M).toArray h3 X m cx (pks N) hlen hsrc (Ee N) hroom (by rw[hsize,gJ,hN,WO,gJ,h4];omega);refine⟨g,c,_,hrun,⟨hlenA,.inr ⟨g,M.take n++N++M.drop (n+m),rfl,h2,?_,?_,hroom,h6,?_⟩⟩,⟨rfl,rfl,rfl,by simp,fun k _ hk=>setRow_other w g k _ (fun e=>hk (by simp[Value.ownBlock,e]))⟩,.inl rfl,?_⟩
   ·have:=setRow_heap w g (pks M).toArray ((pks M).take (n*i.size)++pks N++(pks M).drop (n*i.size+(pks N).length)).toArray PkT (0,0) h3;unfold Bk;rw[pE,pE,<-ln,<-uR];rw[hlen,hsize,<-iK]at this⊢;exact this
   ·rw[List.length_append,List.length_append,cY,bU,hN,h4];omega
   ·rw[eW (by rw[List.length_append,cY,hN,h4];omega),bt (by rw[List.length_append,cY,hN,h4];omega),h7]
   ·simpa using h3.lt
  ·have hlo:(pks L).length=n*i.size:=by rw[gJ,hr.len,hsize]
   have hrd:=hr.rd;have hol:∀j u,(pks L)[j]? =some u->w.cell? ((⟨g,0,none⟩:Addr).add j)=some u:=by
    intro j u hu;rw[Addr.add_lit,bV,h3.cell,ay];rw[<-h7,<-ln,List.getElem?_take]at hu;split at hu
    ·exact hu
    ·cases hu
   have hrun:=run_append_grow (P:=prog) w 48 ty PkT i (pkV pk0 hs0) ht hi hz ⟨g,0,none⟩ n c (pks L) hlo hol X m cx (pks N) hlen hsrc (by omega) (by omega) (growslice_fits (by omega) (by rw[hby];omega));obtain⟨g1,g2,g3⟩:=grown (n+m) c rfl (by omega);exact⟨_,_,_,hrun,g1,g2 _,.inr rfl,g3⟩
theorem DB{w:World}{o:Oper}{a:Act}{K:Act->World->Prop}{Q:Exit->Act->World->Prop}(s x:Operand)
  (ho:o.op= .call {callee:=.builtin .append,args:=#[s,x],argTypes:=#[48,48]})
  {w0:World}{A:Option Addr}{n c:Nat}{L:List (Pk×Hs)}(hs:a.eval s= .slice A n c)(hr:RowK w0 w A n c L)(h0:w0.heap.size<=w.heap.size)(X:Addr)(N:List (Pk×Hs))(m cx B:Nat)(hx:a.eval x= .slice (some X) m cx)(hN:N.length=m)(hm:0<m)(hsr:Rd w B 25 (some X) m (pks N))(hb:n+m<=100000000000)
  (h:∀g c' w',RowK w0 w' (some ⟨g,0,none⟩) (n+m) c' (L++N)->w.grownBy w' (Value.slice A n c).ownBlock->((Value.slice A n c).ownBlock=some g\/g=w.heap.size)->g<w'.heap.size->K (a.put o.dst (.slice (some ⟨g,0,none⟩) (n+m) c')) w'):o.wp prog a w K Q:=by
 obtain⟨g,c',w',hrun,h1,h2,h3,h4⟩:=Bo hr h0 o.type X N m cx B hN hm hsr hb;unfold Oper.wp execOp;simp only[ho,resolve,invoke,builtin,Sem.run_bind,Sem.run_pure,ik,kD,fI,gC,hs,hx,hrun];exact h g c' w' h1 h2 h3 h4
theorem oE{w:World}{ops:Array Oper}{rest:List Oper}{o:Oper}{a:Act}{Q:Exit->Act->World->Prop}(hgd:o.guard=none)(s x:Operand)
  (ho:o.op= .call {callee:=.builtin .append,args:=#[s,x],argTypes:=#[48,48]})
  {w0:World}{A:Option Addr}{n c:Nat}{L:List (Pk×Hs)}(hs:a.eval s= .slice A n c)(hr:RowK w0 w A n c L)(h0:w0.heap.size<=w.heap.size)(X:Addr)(N:List (Pk×Hs))(m cx B:Nat)(hx:a.eval x= .slice (some X) m cx)(hN:N.length=m)(hm:0<m)(hsr:Rd w B 25 (some X) m (pks N))(hb:n+m<=100000000000)
  (h:∀g c' w',RowK w0 w' (some ⟨g,0,none⟩) (n+m) c' (L++N)->w.grownBy w' (Value.slice A n c).ownBlock->((Value.slice A n c).ownBlock=some g\/g=w.heap.size)->g<w'.heap.size->wpList prog ops Q rest (a.put o.dst (.slice (some ⟨g,0,none⟩) (n+m) c')) w'):wpList prog ops Q (o :: rest) a w:=
 lb hgd fun _ hK=>DB s x ho hs hr h0 X N m cx B hx hN hm hsr hb fun g c' w' h1 h2 h3 h4=>hK _ _ (h g c' w' h1 h2 h3 h4)
def Gn(v:Array (Nat×Value)):Sem Value:=Instr.buildSlice 48 1 v
theorem xS(v:Array (Nat×Value)):Instr.buildSlice 48 1 v=Gn v:=rfl
theorem um(p:Pk)(h:Hs)(w:World):(Gn #[(0,pkV p h)]).run prog w= .ok (.slice (some ⟨w.heap.size,0,none⟩) 1 1) (w.alloc (.cells (pkC p h) PkT)):=by kernel_rfl
theorem Fs(W:World)(p:Pk)(h:Hs){g:Nat}(hg:W.heap.size=g):Rd (W.alloc (.cells (pkC p h) PkT)) (g+1) 25 (some ⟨g,0,none⟩) 1 (pks [(p,h)]):=by
 subst hg;refine⟨by rw[gJ];rfl,.inr ⟨_,0,rfl,ed _,fun j u hu=>?_⟩⟩;rw[bV,(Bk.fresh W PkT (pkC p h)).cell];have e:pks [(p,h)]=(pkC p h).toList:=by rw[m6,Ef,cW]
 rw[e]at hu
 simpa using hu
structure RdK (w:World) (A:Option Addr) (n:Nat) (L:List (Pk×Hs)):Prop where
 rd:Rd w w.heap.size 25 A n (pks L)
 ins:∀x∈L,PkIn w w.heap.size x.1 x.2
theorem RdK.below{w y:World}{A:Option Addr}{n:Nat}{L:List (Pk×Hs)}(h:RdK w A n L)(hb:Below w.heap.size w y):RdK y A n L:=⟨(h.rd.below hb).wider hb.size,fun x hx=>(h.ins x hx).next hb⟩
theorem RdK.len{w:World}{A:Option Addr}{n:Nat}{L:List (Pk×Hs)}(h:RdK w A n L):L.length=n:=by
 have h1:=h.rd.1;rw[gJ]at h1;omega
theorem RdK.at{w:World}{A:Option Addr}{n:Nat}{L:List (Pk×Hs)}(h:RdK w A n L){i:Nat}(hi:i<n):∃b o p k,A=some ⟨b,o,none⟩/\L[i]? =some (p,k)/\b<w.heap.size/\
  (∀y,Below w.heap.size w y->(kZ (.pointer (some ⟨b,o+i*25,none⟩))).run prog y= .ok (pkV p k) y)/\PkIn w w.heap.size p k:=by
 have hl:=h.len;have hlt:i<L.length:=by omega
 rcases h.rd.2 with h0| ⟨b,o,rfl,hb,hc⟩
 ·have:=gJ L;rw[h0]at this;simp at this;omega
 ·refine⟨b,o,L[i].1,L[i].2,rfl,List.getElem?_eq_getElem hlt,hb,fun y hy=>?_,h.ins _ (iY hlt)⟩;unfold kZ;refine run_loadAt_mid y b (o+i*25) PkT (pkC L[i].1 L[i].2).toList _ ?_ underlying29 rfl (by rw[fT,bo];exact tk);intro j u hu;have hj:j<25:=by
   rcases fj j 25 with h| h
   ·exact h
   ·rw[aG (by rw[kM];exact h)]at hu;cases hu
  rw[Nat.add_assoc,hy.cell (p:=⟨b,o+(i*25+j),none⟩) hb];refine hc (i*25+j) u ?_;rw[mG L i j hlt hj]
  simpa using hu
structure RowI (w0 w:World) (A:Option Addr) (n c:Nat) (L:List (Pk×Hs)):Prop where
 row:RowK w0 w A n c L
 ins:∀x∈L,PkIn w w.heap.size x.1 x.2
 apart:∀x∈L,∀g o,A=some ⟨g,o,none⟩->gG g x
section
variable {w0 w y:World} {A:Option Addr} {n c:Nat} {L:List (Pk×Hs)}
theorem RowI.start(w0 w:World):RowI w0 w none 0 0 []:=⟨RowK.start _ _,by simp,by simp⟩
theorem RowI.below(h:RowI w0 w A n c L)(hb:Below w.heap.size w y):RowI w0 y A n c L:=⟨h.row.below hb,fun x hx=>(h.ins x hx).next hb,h.apart⟩
theorem RowI.read(h:RowI w0 w A n c L):RdK w A n L:=⟨h.row.rd,h.ins⟩
theorem RowI.more(h:RowI w0 w A n c L){g c' m:Nat}{N:List (Pk×Hs)}(hr:RowK w0 y (some ⟨g,0,none⟩) (n+m) c' (L++N))(hm:w.grownBy y (Value.slice A n c).ownBlock)(hg:(Value.slice A n c).ownBlock=some g\/g=w.heap.size)
  (hi:∀x∈N,PkIn w w.heap.size x.1 x.2)(ha:∀x∈N,∀g o,A=some ⟨g,o,none⟩->gG g x):RowI w0 y (some ⟨g,0,none⟩) (n+m) c' (L++N):=by
 have hin:∀x∈L++N,PkIn w w.heap.size x.1 x.2:=fun x hx=>(cj.1 hx).elim (h.ins x) (hi x);have hap:∀x∈L++N,∀g o,A=some ⟨g,o,none⟩->gG g x:=fun x hx=>(cj.1 hx).elim (h.apart x) (ha x);refine⟨hr,fun x hx=>h.row.keep hm (hin x hx) (hap x hx),fun x hx g' o e=>?_⟩;cases e;rcases hg with hg| hg
 ·cases A with
  | none=>cases hg
  | some a=>
    obtain⟨b,o,s⟩:=a;rcases h.row.lies with ⟨h1,-⟩ | ⟨g',M,h1,-⟩
    ·cases h1
    ·cases h1;simp only[Value.ownBlock,aX]at hg;subst hg;exact hap x hx _ 0 rfl
 ·exact(hin x hx).apart (by omega)
end
end
section
abbrev U8:TypeId:=5
theorem lM(l:List UInt8)(n:Nat):(bys l).take n=bys (l.take n):=by simp[bys,List.map_take]
theorem qN(l:List UInt8)(n:Nat):(bys l).drop n=bys (l.drop n):=by simp[bys,List.map_drop]
theorem qM(l:List UInt8){i:Nat}{u:Value}(h:(bys l).toArray[i]? =some u):∃b:UInt8,u= .int .u8 (b.toNat:Int):=by
 rw[ay]at h;unfold bys at h;rw[List.getElem?_map]at h;obtain⟨b,-,h2⟩:=Option.map_eq_some_iff.1 h;exact⟨b,h2.symm⟩
theorem PkIn.bytes{x y:World}{g:Nat}{p:Pk}{h:Hs}{M:List UInt8}(hi:PkIn x x.heap.size p h)(hbk:Bk x g U8 (bys M).toArray)(hm:x.grownBy y (some g)):PkIn y y.heap.size p h:=by
 have h32:∀(i:Nat) (n:Int),(bys M).toArray[i]? ≠some (Value.int IntKind.u32 n):=fun i n e=>by
  obtain⟨b,hb⟩:=qM M e;cases hb
 refine⟨(hi.wp.other hbk h32 hm (ac _)).wider hm.size,?_,(hi.filters.otherN hbk ?_ hm (ac _)).wider hm.size,(hi.props.other hbk h32 hm (ac _)).wider hm.size,hi.caps⟩
 ·refine(hi.codes.grown hm (ac _) ?_).wider hm.size;rintro b o hA hx rfl;rcases hi.codes.2 with h0| ⟨b',o',e,-,hc⟩
  ·exact hx h0
  ·rw[hA]at e;cases e;cases hcd:p.codes with
   | nil=>rw[hcd]at hx;exact hx rfl
   | cons z l=>
     have:=hc 0 (.int .i64 z) (by rw[hcd];rfl);rw[hbk.cell]at this;obtain⟨b,hb⟩:=qM M this;cases hb
 ·intro o a b c d h0 h1 h3;obtain⟨z,hz⟩:=qM M h0;cases hz
structure Kp (w0 w:World) (K:Option Addr) (n c:Nat) (t:List UInt8):Prop where
 len:t.length=n
 cap:n<=c
 lies:(K=none/\n=0/\c=0)\/∃g o M,K=some ⟨g,o,none⟩/\w0.heap.size<=g/\Bk w g U8 (bys M).toArray/\(M.drop o).take n=t/\o+n<=M.length/\(c=n\/(o=0/\M.length=c/\c<=maxLen))
section
variable {w0 w y:World} {K:Option Addr} {n c:Nat} {t:List UInt8}
theorem Kp.none(w0 w:World):Kp w0 w none 0 0 []:=⟨rfl,ac _,.inl ⟨rfl,rfl,rfl⟩⟩
theorem Kp.below(h:Kp w0 w K n c t)(hb:Below w.heap.size w y):Kp w0 y K n c t:=by
 refine⟨h.len,h.cap,?_⟩;rcases h.lies with h1| ⟨g,o,M,h1,h2,h3,h4⟩
 ·exact .inl h1
 ·exact .inr ⟨g,o,M,h1,h2,h3.below hb h3.lt,h4⟩
theorem Kp.rd(h:Kp w0 w K n c t):Rd w w.heap.size 1 K n (bys t):=by
 refine⟨by rw[nu,h.len,rB],?_⟩;rcases h.lies with ⟨-,h1,-⟩ | ⟨g,o,M,h1,h2,h3,h4,h5,h6⟩
 ·refine .inl ?_;have:=h.len;rw[aF (by omega:t.length=0)];rfl
 ·refine .inr ⟨g,o,h1,h3.lt,fun j u hu=>?_⟩;rw[h3.cell,ay];rw[<-h4,<-lM,<-qN,List.getElem?_take]at hu;split at hu
  ·rw[List.getElem?_drop]at hu;exact hu
  ·cases hu
theorem Kp.own(h:Kp w0 w K n c t){g:Nat}(e:(Value.slice K n c).ownBlock=some g):w0.heap.size<=g/\g<w.heap.size:=by
 cases K with
 | none=>cases e
 | some a=>
   obtain⟨b,o,s⟩:=a;rcases h.lies with ⟨h1,-⟩ | ⟨g',o',M,h1,h2,h3,-⟩
   ·cases h1
   ·cases h1;simp only[Value.ownBlock,aX]at e;subst e;exact⟨h2,h3.lt⟩
theorem Kp.keep(h:Kp w0 w K n c t)(hm:w.grownBy y (Value.slice K n c).ownBlock){p:Pk}{k:Hs}(hi:PkIn w w.heap.size p k):PkIn y y.heap.size p k:=by
 rcases h.lies with ⟨rfl,-⟩ | ⟨g,o,M,rfl,-,h3,-⟩
 ·exact hi.next ⟨hm.os,hm.tape,hm.output,hm.size,fun i hi=>hm.block i hi (by simp[Value.ownBlock])⟩
 ·exact hi.bytes h3 hm
theorem Kp.bk(h:Kp w0 w K n c t)(hm:w.grownBy y (Value.slice K n c).ownBlock){g:Nat}{ty:TypeId}{cs:Array Value}(hb:Bk w g ty cs)(hne:ty≠U8):Bk y g ty cs:=by
 refine(hm.block g hb.lt fun e=>?_).trans hb;rcases h.lies with ⟨rfl,-⟩ | ⟨g',o,M,rfl,-,h3,-⟩
 ·cases e
 ·simp only[Value.ownBlock,aX]at e;subst e;unfold Bk at hb h3;rw[hb]at h3;simp only[aX,fc]at h3;exact hne h3.2.1
theorem Kp.drop(h:Kp w0 w K n c t){k:Nat}(hk:k<=n):Kp w0 w (xt K n k 1) (n- k) (n- k) (t.drop k):=by
 refine⟨by rw[bU,h.len],ac _,?_⟩;rcases h.lies with ⟨rfl,rfl,rfl⟩ | ⟨g,o,M,rfl,h2,h3,h4,h5,h6⟩
 ·obtain rfl:k=0:=by omega
  exact .inl ⟨rfl,rfl,rfl⟩
 ·unfold xt;split
  ·rename_i e;subst e;refine .inr ⟨g,o,M,rfl,h2,h3,?_,by omega,.inl rfl⟩;rw[Nat.sub_self,GZ,gD (by rw[h.len];exact ac _)]
  ·refine .inr ⟨g,o+k,M,by simp[Addr.add],h2,h3,?_,by omega,.inl rfl⟩;rw[<-h4,List.drop_take,et]
end
section
variable {P:Program} {t e:TypeId} {s:Nat} (ht:P.underlying t=some (.slice e)) (hz:∀w,(sizeOf e).run P w= .ok s w)
include ht hz
end
end
def Ff(v:Int):Nat->List Pk->List Nat
 | _,[]=>[]
 | a,p :: l=>(a+(mqS v p).size) :: Ff v (a+(mqS v p).size) l
def Fe(v:Int)(l:List Pk):List Pk:=l.filter fun p=>decide (mqE v p=0)
def smZ(v:Int)(t:ByteArray):Nat×Int:=
 if(hdR v (t.extract 0 (min t.size 5))).2.2≠0 then(0,(hdR v (t.extract 0 (min t.size 5))).2.2)
 else((hdR v (t.extract 0 (min t.size 5))).2.1+(hdR v (t.extract 0 (min t.size 5))).1.n,0)
def smN(v most:Int)(t:ByteArray):Pk×Nat×Int:=
 if(smZ v t).2≠0 then(pk0,0,(smZ v t).2)
 else if most<((smZ v t).1:Nat)then(pk0,0,4)
 else if t.size<(smZ v t).1 then(pk0,0,3)
 else mqR v (t.extract 0 (smZ v t).1)
def smF(v most:Int):Nat->ByteArray->Nat->Nat->List Pk->List Pk×ByteArray×Nat×Nat×Int
 | 0,t,a,k,l=>(l,t,a,k,0)
 | f+1,t,a,k,l=>
   if(smN v most t).2.2=0 then smF v most f (t.extract (smN v most t).2.1 t.size) (a+(smN v most t).2.1) (k+1) (l++[(smN v most t).1])
   else if(smN v most t).2.2=3 then(l,t,a,k,0)
   else(l,⟨#[]⟩,a,k,(smN v most t).2.2)
theorem mU(v most:Int)(f:Nat)(t:ByteArray)(a k:Nat)(l:List Pk):smF v most (f+1) t a k l=
  if(smN v most t).2.2=0 then smF v most f (t.extract (smN v most t).2.1 t.size) (a+(smN v most t).2.1) (k+1) (l++[(smN v most t).1])
  else if(smN v most t).2.2=3 then(l,t,a,k,0)
  else(l,⟨#[]⟩,a,k,(smN v most t).2.2):=rfl
theorem jD{v most:Int}{t:ByteArray}(h:(smN v most t).2.2=0):2<=(smN v most t).2.1/\(smN v most t).2.1<=t.size:=by
 unfold smN at h⊢;split
 ·rename_i h1;rw[if_pos h1]at h;exact absurd h h1
 rename_i h1;rw[ae h1]at h
 split
 ·rename_i h2;rw[if_pos h2]at h;cases h
 rename_i h2;rw[ae h2]at h
 split
 ·rename_i h3;rw[if_pos h3]at h;cases h
 rename_i h3;rw[ae h3]at h
 obtain⟨a,b⟩:=Ch h;rw[aj]at b;omega
section
def wF(k:Int):FuncId:=if k<=2 then 136 else if k=3 then 144 else if k<=7 then 138 else if k<=11 then 140 else 142
def rF(k:Int):FuncId:=if k<=2 then 137 else if k=3 then 145 else if k<=7 then 139 else if k<=11 then 141 else 143
def ns:List (Int×Value):=[(1,.agg #[.func (.func 136) #[] #[],.func (.func 137) #[] #[]]),(2,.agg #[.func (.func 136) #[] #[],.func (.func 137) #[] #[]]),(3,.agg #[.func (.func 144) #[] #[],.func (.func 145) #[] #[]]),(4,.agg #[.func (.func 138) #[] #[],.func (.func 139) #[] #[]]),(5,.agg #[.func (.func 138) #[] #[],.func (.func 139) #[] #[]]),(6,.agg #[.func (.func 138) #[] #[],.func (.func 139) #[] #[]]),(7,.agg #[.func (.func 138) #[] #[],.func (.func 139) #[] #[]]),(8,.agg #[.func (.func 140) #[] #[],.func (.func 141) #[] #[]]),(9,.agg #[.func (.func 140) #[] #[],.func (.func 141) #[] #[]]),(10,.agg #[.func (.func 140) #[] #[],.func (.func 141) #[] #[]]),(11,.agg #[.func (.func 140) #[] #[],.func (.func 141) #[] #[]]),(12,.agg #[.func (.func 142) #[] #[],.func (.func 143) #[] #[]]),(13,.agg #[.func (.func 142) #[] #[],.func (.func 143) #[] #[]]),(14,.agg #[.func (.func 142) #[] #[],.func (.func 143) #[] #[]]),(15,.agg #[.func (.func 142) #[] #[],.func (.func 143) #[] #[]])]
def Dr(k:Int):Bool:=decide (1<=k/\k<=15)
theorem EI{k:Int}(h:1<=k/\k<=15):k=1\/k=2\/k=3\/k=4\/k=5\/k=6\/k=7\/k=8\/k=9\/k=10\/k=11\/k=12\/k=13\/k=14\/k=15:=by omega
theorem Et(k:Int):∃a b,(ia ns k).getD (.agg #[.nilFunc,.nilFunc])= .agg #[a,b]/\(ia ns k).isSome=Dr k/\(Dr k=true->a=FC (wF k)/\b=FC (rF k))/\a.oneCell'=true/\b.oneCell'=true:=by
 by_cases h:1<=k/\k<=15
 ·have hi:Dr k=true:=au h;rcases EI h with rfl| rfl| rfl| rfl| rfl| rfl| rfl| rfl| rfl| rfl| rfl| rfl| rfl| rfl| rfl
  all_goals exact⟨_,_,rfl,hi.symm▸rfl,fun _=>⟨rfl,rfl⟩,rfl,rfl⟩
 ·have hi:Dr k=false:=ah h;have hn:ia ns k=none:=by
   unfold ia;rw[List.find?_eq_none.2]
   ·rfl
   ·intro q hq;simp only[ns,ie,List.not_mem_nil,or_false]at hq;intro e;have e1:=eq_of_beq e;rcases hq with rfl| rfl| rfl| rfl| rfl| rfl| rfl| rfl| rfl| rfl| rfl| rfl| rfl| rfl| rfl
    all_goals (simp only at e1;omega)
  rw[hn];exact⟨_,_,rfl,hi.symm▸rfl,fun x=>by(rw[hi]at x;cases x),rfl,rfl⟩
theorem VH{k:Int}(args:Array Value)(w:World):(callFunc (wF k) args).run prog w= .ok (.enter (wF k) args) w:=by
 unfold wF
 repeat' split
 ·exact dv func136 (by kernel_rfl) rfl args w
 ·exact dv func144 (by kernel_rfl) rfl args w
 ·exact dv func138 (by kernel_rfl) rfl args w
 ·exact dv func140 (by kernel_rfl) rfl args w
 ·exact dv func142 (by kernel_rfl) rfl args w
theorem CW{k:Int}(args:Array Value)(w:World):(callFunc (rF k) args).run prog w= .ok (.enter (rF k) args) w:=by
 unfold rF
 repeat' split
 ·exact dv func137 (by kernel_rfl) rfl args w
 ·exact dv func145 (by kernel_rfl) rfl args w
 ·exact dv func139 (by kernel_rfl) rfl args w
 ·exact dv func141 (by kernel_rfl) rfl args w
 ·exact dv func143 (by kernel_rfl) rfl args w
def DL(a v:Value):Sem Unit:=Instr.storeAt ChT a v
theorem xQ(a v:Value):Instr.storeAt ChT a v=DL a v:=rfl
theorem EA:(prog.info? ChT).map (·.size)=some 2:=by kernel_rfl
theorem Bj{w:World}{g:Nat}{x y:Value}(hb:Bk w g ChT #[x,y]){a b:Value}(ha:a.oneCell'=true)(hb':b.oneCell'=true):(DL (.pointer (some ⟨g,0,none⟩)) (.agg #[a,b])).run prog w= .ok () (w.setCells g 0 [a,b]):=by
 unfold DL;refine run_storeAt_mid w g 0 ChT #[a,b] ?_ EA (by simp[ha,hb']);intro j hj;rw[bV,hb.cell,hb.free];refine⟨?_,rfl⟩;rw[eL (show j< #[x,y].size from hj)];rfl
theorem j7(w:World){n:Nat}(hn:w.heap.size=n)(x y:Value){a b:Value}(ha:a.oneCell'=true)(hb:b.oneCell'=true):(DL (.pointer (some ⟨n,0,none⟩)) (.agg #[a,b])).run prog (w.alloc (.cells #[x,y] ChT))= .ok () (w.alloc (.cells #[a,b] ChT)):=by
 subst hn;rw[Bj (Bk.fresh w ChT #[x,y]) ha hb,io];rfl
attribute [local go_sem ↓] xQ
structure ChK (W:World) (g:Nat):Prop where
 b0:Bk W (g+0) ChT #[.func (.func 136) #[] #[],.func (.func 137) #[] #[]]
 b1:Bk W (g+1) ChT #[.func (.func 138) #[] #[],.func (.func 139) #[] #[]]
 b2:Bk W (g+2) ChT #[.func (.func 140) #[] #[],.func (.func 141) #[] #[]]
 b3:Bk W (g+3) ChT #[.func (.func 142) #[] #[],.func (.func 143) #[] #[]]
theorem ChK.next{W w1:World}{g:Nat}(h:ChK W g)(hg:W.grownBy w1 (some (g+4))):ChK w1 g:=
 ⟨h.b0.mods (S:=fun z=>z=g+4) (Mods.of_grown hg rfl) (by omega),h.b1.mods (S:=fun z=>z=g+4) (Mods.of_grown hg rfl) (by omega),h.b2.mods (S:=fun z=>z=g+4) (Mods.of_grown hg rfl) (by omega),h.b3.mods (S:=fun z=>z=g+4) (Mods.of_grown hg rfl) (by omega)⟩
theorem ChK.cells{W:World}{g:Nat}(h:ChK W g):W.cell? ⟨g,0,none⟩=some (.func (.func 136) #[] #[])/\W.cell? ⟨g,1,none⟩=some (.func (.func 137) #[] #[])/\W.cell? ⟨g+1,0,none⟩=some (.func (.func 138) #[] #[])/\W.cell? ⟨g+1,1,none⟩=some (.func (.func 139) #[] #[])/\W.cell? ⟨g+2,0,none⟩=some (.func (.func 140) #[] #[])/\W.cell? ⟨g+2,1,none⟩=some (.func (.func 141) #[] #[])/\W.cell? ⟨g+3,0,none⟩=some (.func (.func 142) #[] #[])/\W.cell? ⟨g+3,1,none⟩=some (.func (.func 143) #[] #[]):=
 ⟨h.b0.cell 0,h.b0.cell 1,h.b1.cell 0,h.b1.cell 1,h.b2.cell 0,h.b2.cell 1,h.b3.cell 0,h.b3.cell 1⟩
theorem tC(w:World):Calls prog 89 #[] w fun e w'=>∃r,e= .returned (.map (some r))/\fQ .i64 w' r ns/\Below w.heap.size w w':=by
 have hmm:=@run_makeMap prog;obtain⟨W4,hW4⟩:∃W4,((((w.alloc (.cells #[.func (.func 136) #[] #[],.func (.func 137) #[] #[]] ChT)).alloc (.cells #[.func (.func 138) #[] #[],.func (.func 139) #[] #[]] ChT)).alloc (.cells #[.func (.func 140) #[] #[],.func (.func 141) #[] #[]] ChT)).alloc (.cells #[.func (.func 142) #[] #[],.func (.func 143) #[] #[]] ChT))=W4:=⟨_,rfl⟩;have hs4:W4.heap.size=w.heap.size+4:=by rw[<-hW4];simp
 have HB:Hid (Below w.heap.size w (W4.alloc (.map #[] 0))):=aa (by
  rw[<-hW4];exact(((((aq w.heap.size w).alloc (ac _) _).alloc (by simp) _).alloc (by simp;omega) _).alloc (by simp;omega) _).alloc (by simp;omega) _)
 have HT:Hid (fQ .i64 (W4.alloc (.map #[] 0)) (w.heap.size+4) []):=aa (by rw[<-hs4];exact fQ.made W4 .i64);have HKK:Hid (ChK (W4.alloc (.map #[] 0)) w.heap.size):=aa (by
  rw[<-hW4];have e1:(w.alloc (.cells #[.func (.func 136) #[] #[],.func (.func 137) #[] #[]] ChT)).heap.size=w.heap.size+1:=by simp
  have e2:((w.alloc (.cells #[.func (.func 136) #[] #[],.func (.func 137) #[] #[]] ChT)).alloc (.cells #[.func (.func 138) #[] #[],.func (.func 139) #[] #[]] ChT)).heap.size=w.heap.size+2:=by simp
  have e3:(((w.alloc (.cells #[.func (.func 136) #[] #[],.func (.func 137) #[] #[]] ChT)).alloc (.cells #[.func (.func 138) #[] #[],.func (.func 139) #[] #[]] ChT)).alloc (.cells #[.func (.func 140) #[] #[],.func (.func 141) #[] #[]] ChT)).heap.size=w.heap.size+3:=by simp
  refine⟨((((Bk.fresh w ChT _).alloc _).alloc _).alloc _).alloc _,?_,?_,?_⟩
  ·rw[<-e1];exact(((Bk.fresh _ ChT _).alloc _).alloc _).alloc _
  ·rw[<-e2];exact((Bk.fresh _ ChT _).alloc _).alloc _
  ·rw[<-e3];exact(Bk.fresh _ ChT _).alloc _)
 obtain⟨c0,c1,c2,c3,c4,c5,c6,c7⟩:=HKK.o.cells;rw[<-hW4]at c0 c1 c2 c3 c4 c5 c6 c7 HB HT HKK;clear hW4 hs4;clear W4;have st0:=j7 w (n:=w.heap.size) (by simp) .nilFunc .nilFunc (a:=.func (.func 136) #[] #[]) (b:=.func (.func 137) #[] #[]) rfl rfl;have st1:=j7 (w.alloc (.cells #[.func (.func 136) #[] #[],.func (.func 137) #[] #[]] ChT)) (n:=w.heap.size+1) (by simp) .nilFunc .nilFunc (a:=.func (.func 138) #[] #[]) (b:=.func (.func 139) #[] #[]) rfl rfl;have st2:=j7 ((w.alloc (.cells #[.func (.func 136) #[] #[],.func (.func 137) #[] #[]] ChT)).alloc (.cells #[.func (.func 138) #[] #[],.func (.func 139) #[] #[]] ChT)) (n:=w.heap.size+2) (by simp) .nilFunc .nilFunc (a:=.func (.func 140) #[] #[]) (b:=.func (.func 141) #[] #[]) rfl rfl;have st3:=j7 (((w.alloc (.cells #[.func (.func 136) #[] #[],.func (.func 137) #[] #[]] ChT)).alloc (.cells #[.func (.func 138) #[] #[],.func (.func 139) #[] #[]] ChT)).alloc (.cells #[.func (.func 140) #[] #[],.func (.func 141) #[] #[]] ChT)) (n:=w.heap.size+3) (by simp) .nilFunc .nilFunc (a:=.func (.func 142) #[] #[]) (b:=.func (.func 143) #[] #[]) rfl rfl;go_enter func89,ntmps89
 go_wp2_with (refine lc _ rfl _ _ _ 121 rfl 3 ChT (by kernel_rfl) (by kernel_rfl) (w.heap.size+4) _ rfl HT.o _ _ rfl rfl rfl ?_;intro w1 hT hg;have hb:=HB.o.grown hg (HB.o.size) (fun k hk=>by cases hk;exact iX _ _);have hk:=HKK.o.next hg;clear HT HB hg HKK c0 c1 c2 c3 c4 c5 c6 c7;have HT:=aa hT;have HB:=aa hb;have HKK:=aa hk;obtain⟨c0,c1,c2,c3,c4,c5,c6,c7⟩:=hk.cells;clear hT hb hk)
 go_ret;exact⟨_,rfl,HT.o,HB.o⟩
end
section
attribute [local go_sem ↓] bD bF bH bI bu
attribute [local go_sem] bc aD bh bg bK bJ bd aY be aO ax cI dC dB dt dj di dA dr dp dn bW co bO bZ bX cz cy cw cu ct cC cn bS bP bR
attribute [local go_sem ↓] xT xR xQ
attribute [local go_sem] un ul
theorem We(v:Int)(p:Pk)(h:Hs)(w:World)(ip:PkIn w w.heap.size p h)(ok:PkOk p)(hz:MV v p):
  Calls prog (wF p.kind) #[dfV v p h] w fun e w'=>e= .returned (.tuple #[.string (chB v p).1,.int .i64 (chB v p).2])/\Below w.heap.size w w':=by
 unfold wF chB;split
 ·exact UV v p h w ip ok
 split
 ·exact UT v p h w ip ok
 split
 ·exact VA v p h w ip ok
 split
 ·exact UK v p h w ip ok (hz ⟨by omega,by omega⟩)
 ·exact UU v p h w ip ok
theorem Fj(v:Int)(x:Hdr)(s:ByteArray)(w:World)(hs:s.size<=1000000000000):Calls prog (rF x.k) #[wrV v x s] w (lQ (chR v x s) w):=by
 unfold rF chR;split
 ·exact rb v x s w hs
 split
 ·exact qY v x s w hs
 split
 ·exact yV v x s w hs
 split
 ·exact oX v x s w hs
 ·exact qZ v x s w hs
theorem El{w:World}{r:Nat}(h:fQ .i64 w r ns)(k:Int){a b:Value}{is:Bool}(h1:(ia ns k).getD (.agg #[.nilFunc,.nilFunc])= .agg #[a,b])(h2:(ia ns k).isSome=is):
  (Instr.lookup 121 (.map (some r)) (.int .i64 k) true).run prog w= .ok (.tuple #[.agg #[a,b],.bool is]) w/\(Instr.lookup 121 (.map (some r)) (.int .i64 k) false).run prog w= .ok (.agg #[a,b]) w:=by
 have hl:=nY (P:=prog) (t:=121) (k:=3) (e:=ChT) (z:=.agg #[.nilFunc,.nilFunc]) (by kernel_rfl) (by kernel_rfl) (by kernel_rfl) h k;rw[h1,h2]at hl;exact⟨hl.2,hl.1⟩
def Ve(v:Int)(p:Pk):ByteArray:=if mqE v p=0 then(chB v p).1 else⟨#[]⟩
theorem UP(v:Int)(p:Pk)(h:Hs)(w:World)(ip:PkIn w w.heap.size p h)(ok:PkOk p)(hz:MV v p):
  Calls prog 80 #[.int .i64 v,pkV p h] w fun e w'=>e= .returned (.tuple #[.string (Ve v p),.int .i64 (mqE v p)])/\Below w.heap.size w w':=by
 have HE:Hid (mqE v p=if ba v=false then 2 else if dS v p.kind=false then 8 else if chE v p≠0 then chE v p else if 268435455<(chB v p).1.size then 4 else 0):=aa rfl;have HBD:Hid (Ve v p=if mqE v p=0 then(chB v p).1 else⟨#[]⟩):=aa rfl;have HOK:=aa ok;have HZ:=aa hz;have hb0:=(aq w.heap.size w).alloc (ac _) (.cells (pkC p h) PkT);have HB:=aa hb0;have HIP:=aa (ip.next hb0);have HK:=aa (Bk.fresh w PkT (pkC p h));clear ip ok hz hb0;obtain⟨w0,hw0⟩:∃w0,w.alloc (.cells (pkC p h) PkT)=w0:=⟨_,rfl⟩;have HG:Hid (w.heap.size<w0.heap.size):=aa (by rw[<-hw0];simp);rw[hw0]at HB HIP HK;have hbx:(F9 (pkV p h)).run prog w= .ok (.pointer (some ⟨w.heap.size,0,none⟩)) w0:=by rw[<-hw0];exact bc p h w
 clear hw0;go_enter func80,ntmps80
 go_upto_region 1 with fail
 go_cut [15] (fun a wx=>w0=wx/\a= .bool (!ba v))
 case first=>
  by_cases h4:v=4
  ·have HX:Hid (ba v=true):=aa (au (.inl h4));have e4:(v !=4)=false:=by simp[h4]
   clear h4;go_wp2
   go_meet
   case rel=>exact⟨rfl,by rw[HX.o];rfl⟩
  ·have e4:(v !=4)=true:=aA.2 h4
   by_cases h5:v=5
   ·have HX:Hid (ba v=true):=aa (au (.inr h5));have e5:(v !=5)=false:=by simp[h5]
    clear h4 h5;go_wp2
    go_meet
    case rel=>exact⟨rfl,by rw[HX.o];rfl⟩
   ·have HX:Hid (ba v=false):=aa (ah (by omega));have e5:(v !=5)=true:=aA.2 h5;clear h4 h5;go_wp2
    go_meet
    case rel=>exact⟨rfl,by rw[HX.o];rfl⟩
 obtain⟨rfl,rfl⟩:=hcut;cases hk:ba v
 ·have HX:Hid (mqE v p=2):=aa (by rw[HE.o,if_pos hk]);have HY:Hid (Ve v p=⟨#[]⟩):=aa (by rw[HBD.o,HX.o];rfl);clear hk;go_wp2;go_ret2;exact⟨by rw[HX.o,HY.o];rfl,HB.o⟩
 have HE1:Hid (mqE v p=if dS v p.kind=false then 8 else if chE v p≠0 then chE v p else if 268435455<(chB v p).1.size then 4 else 0):=aa (by rw[HE.o,ae (fun x=>by rw[hk]at x;cases x)]);have HKN:=aa hk;obtain⟨ca,cb,hl1,hl2,hl3,hl4,hl5⟩:=Et p.kind;have HL3:=aa hl3;have HLK:=aa (fun(W:World) (r:Nat) (hT:fQ .i64 W r ns)=>El hT p.kind hl1 hl2);have HST:=aa (fun(W:World)=>j7 W (n:=W.heap.size) rfl .nilFunc .nilFunc hl4 hl5);have HSB:=aa (fun(W:World) (g:Nat) (hb:Bk W g ChT #[.nilFunc,.nilFunc])=>Bj hb hl4 hl5);have c0:=(HK.o.cell 0).trans (cI p h);clear hk HE hl1 hl2 hl3 hl4 hl5
 go_upto_region 3 with fail
 go_cut [6,7] (fun a b wx=>∃g,a= .pointer (some ⟨g,0,none⟩)/\b= .bool (Dr p.kind)/\Bk wx g ChT #[ca,cb]/\Below w0.heap.size w0 wx)
 case first=>
  have cA:(w0.alloc (.cells #[.nilFunc,.nilFunc] ChT)).cell? ⟨w.heap.size,0,none⟩=some (.int .i64 p.kind):=((HK.o.alloc _).cell 0).trans (cI p h)
  go_region_law ((first| (go_simp;go_at_call 89;refine(tC w0.drew).mono ?_;rintro e w2 ⟨r,rfl,hT,hb⟩;have hlk:=(HLK.o w2 r hT).1;have hlkA:=(HLK.o _ r (hT.alloc (.cells #[.nilFunc,.nilFunc] ChT))).1;have hstA:=HST.o w2;have hB:Below w0.heap.size w0 w2:=(aV (aq w0.heap.size w0) 1).trans hb;have c2:w2.cell? ⟨w.heap.size,0,none⟩=some (.int .i64 p.kind):=((HK.o.below hB HG.o).cell 0).trans (cI p h);have c2A:(w2.alloc (.cells #[.nilFunc,.nilFunc] ChT)).cell? ⟨w.heap.size,0,none⟩=some (.int .i64 p.kind):=(((HK.o.below hB HG.o).alloc _).cell 0).trans (cI p h)) | (go_simp;go_at_call 89;refine(tC (w0.alloc (.cells #[.nilFunc,.nilFunc] ChT)).drew).mono ?_;rintro e w2 ⟨r,rfl,hT,hb⟩;have hlk:=(HLK.o w2 r hT).1;have hA:Below w0.heap.size w0 (w0.alloc (.cells #[.nilFunc,.nilFunc] ChT)).drew:=aV ((aq w0.heap.size w0).alloc (ac _) (.cells #[.nilFunc,.nilFunc] ChT)) 1;have hB:Below w0.heap.size w0 w2:=hA.trans (hb.mono hA.size);have hK2:Bk w2 w0.heap.size ChT #[.nilFunc,.nilFunc]:=((Bk.fresh w0 ChT #[.nilFunc,.nilFunc]).drewN 1).below hb (by show w0.heap.size<(w0.alloc _).heap.size;simp);have hP:Bk (w2.setCells w0.heap.size 0 [ca,cb]) w0.heap.size ChT #[ca,cb]:=oH [ca,cb] 0 hK2;have hQ:Below w0.heap.size w0 (w2.setCells w0.heap.size 0 [ca,cb]):=(hB.setCell (ac _) _).setCell (ac _) _;have hstA:=HSB.o w2 w0.heap.size hK2;have c2:w2.cell? ⟨w.heap.size,0,none⟩=some (.int .i64 p.kind):=((HK.o.below hB HG.o).cell 0).trans (cI p h))))
  all_goals
   go_wp2
   go_meet
   case rel=>
    first
     | with_reducible exact⟨_,rfl,rfl,Bk.fresh w2 ChT #[ca,cb],hB.alloc hB.size _⟩
     | with_reducible exact⟨_,rfl,rfl,hP,hQ⟩
 obtain⟨g,rfl,rfl,hkc,hbx2⟩:=hcut;obtain⟨wx,hwx⟩:∃x,x=wc:=⟨_,rfl⟩;subst hwx;have HB1:=aa (HB.o.trans (hbx2.mono HB.o.size));have HK1:=aa (HK.o.below hbx2 HG.o);have HIP1:=aa (HIP.o.next hbx2);have HKC:=aa hkc;clear hbx2 hkc c0 HB HK HIP HLK HST HSB hbx;have c0:=(HK1.o.cell 0).trans (cI p h);have HKI:Hid (dS v p.kind=(Dr p.kind&& !(decide (p.kind=15)&&decide (v=4)))):=aa (by
  have:=aR (show decide (v=4\/v=5)=true from HKN.o);unfold dS Dr;rw[eG];simp only[eh,Bool.not_eq_true',Kz,Fx,Ip];omega)
 obtain⟨is,his⟩:∃is,Dr p.kind=is:=⟨_,rfl⟩;rw[his]at HKI HL3⊢;have HIS:=aa his;clear his
 go_upto_region 4 with fail
 go_cut [33] (fun a wy=>wx=wy/\a= .bool (!dS v p.kind))
 case first=>
  cases is
  ·have HX:Hid (dS v p.kind=false):=aa (by rw[HKI.o];rfl);go_wp2
   go_meet
   case rel=>exact⟨rfl,by rw[HX.o];rfl⟩
  by_cases k15:p.kind=15
  rotate_left
  ·have HX:Hid (dS v p.kind=true):=aa (by rw[HKI.o,ah k15];rfl);have e15:(p.kind==15)=false:=ar.2 k15;clear k15;go_wp2
   go_meet
   case rel=>exact⟨rfl,by rw[HX.o];rfl⟩
  have e15:(p.kind==15)=true:=aK.2 k15
  by_cases v4:v=4
  ·have HX:Hid (dS v p.kind=false):=aa (by rw[HKI.o,au k15,au v4];rfl);have e4:(v==4)=true:=aK.2 v4;clear k15 v4;go_wp2
   go_meet
   case rel=>exact⟨rfl,by rw[HX.o];rfl⟩
  ·have HX:Hid (dS v p.kind=true):=aa (by rw[HKI.o,au k15,ah v4];rfl);have e4:(v==4)=false:=ar.2 v4;clear k15 v4;go_wp2
   go_meet
   case rel=>exact⟨rfl,by rw[HX.o];rfl⟩
 obtain⟨rfl,rfl⟩:=hcut;cases hkd:dS v p.kind
 ·have HX:Hid (mqE v p=8):=aa (by rw[HE1.o,if_pos hkd]);have HY:Hid (Ve v p=⟨#[]⟩):=aa (by rw[HBD.o,HX.o];rfl);clear hkd;go_wp2;go_ret2;exact⟨by rw[HX.o,HY.o];rfl,HB1.o⟩
 have hin:is=true:=by
  have:=HKI.o;rw[hkd]at this;cases is
  ·cases this
  ·rfl
 obtain⟨rfl,rfl⟩:=HL3.o hin;have HE2:Hid (mqE v p=if chE v p≠0 then chE v p else if 268435455<(chB v p).1.size then 4 else 0):=aa (by rw[HE1.o,ae (fun x=>by rw[hkd]at x;cases x)]);have HDF:=aa (fun W ip=>We v p h W ip HOK.o HZ.o);have d0:=HKC.o.cell 0;have l0:=cf HK1.o;have en:=fun args W=>VH (k:=p.kind) args W;simp only[ay,aB,FC]at d0;generalize wF p.kind=WF at*;clear hkd HKI HE1 HL3 HKC HIS;subst hin
 go_wp2_with fail
 refine(HDF.o _ HIP1.o).mono ?_;rintro e w3 ⟨rfl,hb⟩;have HB3:=aa (HB1.o.trans (hb.mono HB1.o.size));clear hb HDF c0 d0 l0 en
 by_cases hc:chE v p=0
 rotate_left
 ·have HX:Hid (mqE v p=chE v p):=aa (by rw[HE2.o,if_pos hc]);have HY:Hid (Ve v p=⟨#[]⟩):=aa (by rw[HBD.o,HX.o,ae hc]);rw[Wa hc];generalize chE v p=x at*;have e0:(x !=0)=true:=aA.2 hc;clear hc;go_wp2;go_ret2;exact⟨by rw[HX.o,HY.o];rfl,HB3.o⟩
 have h2:=Wf hc;have HE3:Hid (mqE v p=if 268435455<(chB v p).1.size then 4 else 0):=aa (by rw[HE2.o,ae (fun x=>x hc)]);rw[h2];obtain⟨X,hX⟩:∃X,(chB v p).1=X:=⟨_,rfl⟩;rw[hX]at HE3 HBD⊢;clear h2 hc hX HE2
 by_cases hs:268435455<X.size
 ·have HX:Hid (mqE v p=4):=aa (by rw[HE3.o,if_pos hs]);have HY:Hid (Ve v p=⟨#[]⟩):=aa (by rw[HBD.o,HX.o];rfl);have d1:(268435455:Int)<(X.size:Int):=by omega
  clear hs;go_wp2;go_ret2;exact⟨by rw[HX.o,HY.o];rfl,HB3.o⟩
 ·have HX:Hid (mqE v p=0):=aa (by rw[HE3.o,ae hs]);have HY:Hid (Ve v p=X):=aa (by rw[HBD.o,HX.o];rfl);have d1:(X.size:Int)<=268435455:=by omega
  clear hs;go_wp2;go_ret2;exact⟨by rw[HX.o,HY.o];rfl,HB3.o⟩
end
section
attribute [local go_sem ↓] bD bF bH bI bu
attribute [local go_sem] bc aD bh bg bK bJ bd aY be aO ax cI dC dB dt dj di dA dr dp dn bW co bO bZ bX cz cy cw cu ct cC cn bS bP bR
theorem UI(v:Int)(p:Pk)(h:Hs)(w:World)(ip:PkIn w w.heap.size p h)(ok:PkOk p)(hz:MV v p):
  Calls prog 20 #[.int .i64 v,pkV p h] w fun e w'=>e= .returned (.tuple #[.string (mqB v p).1,.int .i64 (mqB v p).2])/\Below w.heap.size w w':=by
 have hb0:=(aq w.heap.size w).alloc (ac _) (.cells (pkC p h) PkT);have HB:=aa hb0;have HK:=aa (Bk.fresh w PkT (pkC p h));have HBD:=aa (UP v p h _ (ip.next hb0) ok hz);clear ip ok hz hb0;go_enter func20,ntmps20
 go_wp2_with fail
 refine HBD.o.mono ?_;rintro e w1 ⟨rfl,hb⟩;have HB1:=aa (HB.o.trans (hb.mono HB.o.size));have HK1:=aa (HK.o.below hb HK.o.lt);clear hb HBD HB HK
 by_cases hE:mqE v p=0
 rotate_left
 ·have HX:Hid (mqB v p=(⟨#[]⟩,mqE v p)):=aa (ae hE);generalize mqE v p=x at*;have e0:(x !=0)=true:=aA.2 hE;clear hE;go_wp2;go_ret2;exact⟨by rw[HX.o];rfl,HB1.o⟩
 obtain⟨h1,h2,h3,h4⟩:=Ol hE;obtain⟨h5,h6⟩:=Ma h1 h2 h3;have HX:Hid (mqB v p=(mqS v p,0)):=aa (if_pos hE);have HBD:Ve v p=(chB v p).1:=if_pos hE;have HHB:Hid (hdB v p.kind (mqF p) (chB v p).1.size=(hdS p.kind (mqF p) (chB v p).1.size,0)):=aa (if_pos h6);have HS:Hid (mqS v p=⟨(hdS p.kind (mqF p) (chB v p).1.size).toArray⟩++(chB v p).1):=aa rfl;have HT:=aa (EC p.kind (mqF p) (chB v p).1.size);have HHD:=aa (fun W=>Vj v p.kind (mqF p) (chB v p).1.size W h4);simp only[Cx,HHB.o]at HHD;have l1:=cf HK1.o;rw[hE,HBD];have HFL:=aa (fun W=>vp v p h W);rw[h5]at HFL;obtain⟨X,hX⟩:∃X,(chB v p).1=X:=⟨_,rfl⟩;rw[hX]at HHD HS HT h4⊢;obtain⟨F,hF⟩:∃F,mqF p=F:=⟨_,rfl⟩;rw[hF]at HHD HS HT HFL;obtain⟨Y,hY⟩:∃Y,hdS p.kind F X.size=Y:=⟨_,rfl⟩;rw[hY]at HHD HS HT;have HX4:=aa h4;clear HHB h1 h2 h3 h5 h6 HBD hX hF hY hE h4
 go_wp2_with fail
 refine(HFL.o _).mono ?_;rintro e w2 ⟨rfl,hb⟩;have HB2:=aa (HB1.o.trans (hb.mono HB1.o.size));have HK2:=aa (HK1.o.below hb HK1.o.lt);clear hb l1 HFL;have c0:=(HK2.o.cell 0).trans (cI p h)
 go_wp2_with fail
 refine(HHD.o _).mono ?_;rintro e w3 ⟨rfl,hb⟩;have HB3:=aa (HB2.o.trans (hb.mono HB2.o.size));have hsm:¬(9223372036854775807<Y.length+X.size):=by have:=HT.o;have:=HX4.o;omega
 clear hb HHD c0;go_wp2;go_ret2;exact⟨by rw[HX.o,HS.o];rfl,HB3.o⟩
theorem Vq(v:Int)(p:Pk)(h:Hs)(w:World)(ip:PkIn w w.heap.size p h)(ok:PkOk p)(hz:MV v p):
  Calls prog 23 #[.int .i64 v,pkV p h] w fun e w'=>e= .returned (.tuple #[.int .i64 ((mqB v p).1.size:Nat),.int .i64 (mqB v p).2])/\Below w.heap.size w w':=by
 have hb0:=(aq w.heap.size w).alloc (ac _) (.cells (pkC p h) PkT);have HB:=aa hb0;have HBD:=aa (UI v p h _ (ip.next hb0) ok hz);clear ip ok hz hb0;go_enter func23,ntmps23
 go_wp2_with fail
 refine HBD.o.mono ?_;rintro e w1 ⟨rfl,hb⟩;have HB1:=aa (HB.o.trans (hb.mono HB.o.size));clear hb;go_wp2;go_ret2;exact⟨rfl,HB1.o⟩
end
end Go.Proofs.YtbdgkkmbnahgiaaGreatDoor
