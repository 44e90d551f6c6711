/- A part of what the laws stand on: MSubG, SubJ, MqA, HdC, ConB, ConC, ConD. -/
import Derived.Test.YtpcleamaieaefaaGreatDoorMeG0Rtc
import Derived.Test.YtpcleamaieaefaaGreatDoorMeG0MCnu
import Derived.Laws.Rows
set_option maxRecDepth 10000
set_option maxHeartbeats 8000000
namespace Go.Proofs.YtpcleamaieaefaaGreatDoor
open Go.RowKit
attribute [local go_sem ↓] bD bF bH bI bu
attribute [local go_sem] bc aD bh bg bK bJ bd aY be aO ax cI dC dB dt dj di dA dr dp dn bW co bO bZ bX cz cy cw cu ct cC cn bS bP bR
theorem ti (v k:Int) (t:ByteArray):∀(n a:Nat) (e:Int) (fi:List Fi) (cd:List Int),(lsR v k t n a e fi cd).1.length≤fi.length+n∧(lsR v k t n a e fi cd).2.1.length≤cd.length+n∧∀f∈(lsR v k t n a e fi cd).1,f∈fi∨f.topic.size≤65535
 | 0,a,e,fi,cd=>⟨ac _,ac _,fun f hf=>.inl hf⟩
 | n+1,a,e,fi,cd=>by
   rw[qn]
   split
   ·exact⟨by show fi.length≤_;omega,by show cd.length≤_;omega,fun f hf=>.inl hf⟩
   ·rename_i hc;have hlt:a<t.size:=Nat.lt_of_not_le fun x=>hc (.inr x)
    split
    ·obtain⟨h1,h2,h3⟩:=ti v k t n (fiR v k t a).2.1 (fiR v k t a).2.2 (fi++[(fiR v k t a).1]) cd;rw[List.length_append]at h1;simp only[bM,eC]at h1;refine⟨by omega,by omega,fun f hf=>?_⟩;rcases h3 f hf with h| h
     ·rcases cj.1 h with h| h
      ·exact .inl h
      ·right
       obtain rfl:=gA.1 h;have:=(Fr (t:=t) (a:=a) (e:=0) (pf hlt)).2;unfold fiR
       split
       ·exact this
       ·exact this
     ·exact .inr h
    ·obtain⟨h1,h2,h3⟩:=ti v k t n (a+1) 0 fi (cd++[((br t a 0 1:Nat):Int)]);rw[List.length_append]at h2;simp only[bM,eC]at h2;exact⟨by omega,by omega,h3⟩
theorem Ed (v k:Int) (t:ByteArray) (a:Nat) (e:Int) (ht:t.size≤140737488351232):(∀p∈(fv v k t a e).1,ea p)∧(fv v k t a e).1.length≤1000:=by
 unfold fv
 split
 ·exact⟨by simp,ag _⟩
 ·refine⟨iT (by rw[aj];omega),?_⟩
  by_cases h:(aZ k (t.extract a t.size)).2.2=0
  ·exact kj h
  ·have:=fZ h;rw[this];exact ag _
theorem lU {v k:Int} {s:ByteArray} (hs:s.size≤140737488351000):PkOk (jj v k s):=by
 obtain⟨h1,h2,h3⟩:=ti v k s (s.size+1) (lh v k s).2.1 (lh v k s).2.2 [] [];obtain⟨p1,p2⟩:=Ed v k s (aH s 0 0 2).2.1 (aH s 0 0 2).2.2 (by omega);refine⟨(by intro q hq;cases hq),p1,fun f hf=>?_,?_,?_⟩
 ·rcases h3 f hf with h| h
  ·cases h
  ·omega
 ·exact⟨ag _,ag _,ag _,ag _,ag _,ag _,ag _⟩
 ·simp only[eC]at h1 h2;exact⟨ag _,by show(li v k s).2.1.length≤_;unfold li;omega,by show(li v k s).1.length≤_;unfold li;omega,by show(lh v k s).1.length≤_;unfold lh;omega⟩
theorem DY {x y:World} {B:Nat} {A:Option Addr} {l:List Pr} {t1 t2:TypeId} {c1 c2:Array Value} {g1 g2:Nat} (h:Rd x B 4 A l.length (prs l)) (b1:Bk x g1 t1 c1) (b2:Bk x g2 t2 c2)
  (n1:∀(i:Nat) (n:Int),c1[i]? ≠some (Value.int IntKind.u32 n)) (n2:∀(i:Nat) (n:Int),c2[i]? ≠some (Value.int IntKind.u32 n)) (hm:Mods (two g1 g2) x y) (hB:B≤x.heap.size):Rd y B 4 A l.length (prs l):=by
 rcases h.2 with h0| ⟨b,o,rfl,hb,hc⟩
 ·exact⟨h.1,.inl h0⟩
 ·by_cases hl:0<l.length
  ·obtain⟨b',o',he,_,_,q1,_⟩:=h.atP hl;simp only[aX,Addr.mk.injEq]at he;obtain⟨rfl,rfl,-⟩:=he;refine⟨h.1,.inr ⟨b,o,rfl,hb,fun j u hu=>(iG (a:=⟨b,o+j,none⟩) (hm.block b (by omega) (fun e=>?_))).trans (hc j u hu)⟩⟩;rcases e with rfl| rfl
   ·rw[b1.cell]at q1;exact n1 _ _ q1
   ·rw[b2.cell]at q1;exact n2 _ _ q1
  ·have hz:l=[]:=aF (by omega);subst hz;exact Rd.nil _ _ _ _
structure SG (w wL:World) (g gp gc:Nat) (k i:Int) (l:List Pr) (A:Option Addr) (n:Nat) (fi:List Fi) (cd:List Int) (F C:Hd) (t:ByteArray) (a:Nat) (e:Int) (x:World):Prop where
 kept:Below w.heap.size w x
 res:Bk x g PkT (pkC pk0 hs0)
 pk:Bk x gp PkT (pkC {aP k i 0 l with filters:=fi,codes:=cd} {hs0 with props:=⟨A,n⟩,filters:=F,codes:=C})
 cur:Cur x gc t a e
 rd:Rd x x.heap.size 4 A l.length (prs l)
 cap:l.length≤n
 ofi:iE wL x fi F
 ocd:lR wL x cd C
 ne:g≠gp∧g≠gc∧gp≠gc
 base:w.heap.size≤g∧w.heap.size≤gp∧w.heap.size≤gc
 lt:g<wL.heap.size∧gp<wL.heap.size∧gc<wL.heap.size
section
variable {w wL x y:World} {g gp gc:Nat} {k i:Int} {l:List Pr} {A:Option Addr} {n:Nat} {fi:List Fi} {cd:List Int} {F C:Hd} {t:ByteArray} {a a':Nat} {e e':Int}
theorem iE.into (h:iE wL x fi F):Rd x x.heap.size 5 F.a fi.length (fis fi)∧fi.length≤F.c:=by
 obtain⟨A,c,hv,h1,h2⟩:=jK h;simp only[Value.slice.injEq]at hv;obtain⟨rfl,-,rfl⟩:=hv;exact⟨h2,h1⟩
theorem lR.into (h:lR wL x cd C):Rd x x.heap.size 1 C.a cd.length (iv cd)∧cd.length≤C.c:=by
 obtain⟨A,c,hv,h1,h2⟩:=jK h;simp only[Value.slice.injEq]at hv;obtain⟨rfl,-,rfl⟩:=hv;exact⟨h2,h1⟩
theorem SG.into (s:SG w wL g gp gc k i l A n fi cd F C t a e x):PkIn x x.heap.size {aP k i 0 l with filters:=fi,codes:=cd} {hs0 with props:=⟨A,n⟩,filters:=F,codes:=C}:=
 ⟨Rd.nil _ _ _ _,s.ocd.into.1,s.ofi.into.1,s.rd,ag _,s.ocd.into.2,s.ofi.into.2,s.cap⟩
theorem SG.below (s:SG w wL g gp gc k i l A n fi cd F C t a e x) (hb:Below x.heap.size x y):SG w wL g gp gc k i l A n fi cd F C t a e y:=
 ⟨s.kept.trans (hb.mono s.kept.size),s.res.below hb s.res.lt,s.pk.below hb s.pk.lt,s.cur.below hb,(s.rd.below hb).wider hb.size,s.cap,dV s.ofi hb,dV s.ocd hb,s.ne,s.base,s.lt⟩
theorem SG.turn (s:SG w wL g gp gc k i l A n fi cd F C t a e x) (hc:Cur y gc t a' e') (hm:x.grownBy y (some gc)):SG w wL g gp gc k i l A n fi cd F C t a' e' y:=
 ⟨dw s.kept hm s.kept.size s.base.2.2,s.res.mods (S:=fun z=>z=gc) (Mods.of_grown hm rfl) s.ne.2.1,s.pk.mods (S:=fun z=>z=gc) (Mods.of_grown hm rfl) s.ne.2.2,hc,
  (s.rd.other s.cur.1 (gw _ _ _) hm (ac _)).wider hm.size,s.cap,s.ofi.stay hm s.lt.2.2,s.ocd.stay hm s.lt.2.2,s.ne,s.base,s.lt⟩
theorem SG.none (s:SG w wL g gp gc k i l A n fi cd F C t a e x):Below w.heap.size w (dE x g pk0 hs0)∧Bk (dE x g pk0 hs0) g PkT (pkC pk0 hs0):=⟨bT s.kept s.kept.size s.base.1 _ _,cO s.res _ _⟩
theorem SG.some (s:SG w wL g gp gc k i l A n fi cd F C t a e x) (P:Pk:={aP k i 0 l with filters:=fi,codes:=cd}) (H:Hs:={hs0 with props:=⟨A,n⟩,filters:=F,codes:=C}) (hP:P= {aP k i 0 l with filters:=fi,codes:=cd}:=by rfl) (hH:H= {hs0 with props:=⟨A,n⟩,filters:=F,codes:=C}:=by rfl):
  Below w.heap.size w (dE x g P H)∧Bk (dE x g P H) g PkT (pkC P H)∧PkIn (dE x g P H) (dE x g P H).heap.size P H:=by
 subst hP hH;have hm:=cJ x g {aP k i 0 l with filters:=fi,codes:=cd} {hs0 with props:=⟨A,n⟩,filters:=F,codes:=C};refine⟨bT s.kept s.kept.size s.base.1 _ _,cO s.res _ _,?_⟩;exact⟨Rd.nil _ _ _ _,(s.ocd.stay hm s.lt.1).into.1,(s.ofi.stay hm s.lt.1).into.1,(s.rd.other s.res (dY _ _) hm (ac _)).wider hm.size,ag _,s.ocd.into.2,s.ofi.into.2,s.cap⟩
theorem SG.of_list {ai:Nat} {ei:Int} (s:RI w g gp gc k i 0 l A n t ai ei wL) (hL:LS wL gc gp t {aP k i 0 l with filters:=fi,codes:=cd} {{hs0 with props:=⟨A,n⟩}with filters:=F,codes:=C} a e x) (hF:iE wL x fi F) (hC:lR wL x cd C):SG w wL g gp gc k i l A n fi cd F C t a e x:=
 ⟨hL.mods.below s.kept s.kept.size (fun q hq=>by rcases hq with rfl| rfl;exact s.base.2.2;exact s.base.2.1),s.res.mods hL.mods (fun h=>by rcases h with h| h;exact s.ne.2.1 h;exact s.ne.1 h),hL.pk,hL.cur,
  (DY s.rd s.cur.1 s.pk (gw _ _ _) (dY _ _) hL.mods (ac _)).wider hL.mods.size,s.cap,hF,hC,s.ne,s.base,s.res.lt,s.pk.lt,s.cur.lt⟩
end
theorem Bs {w x:World} {g gp gc:Nat} {k i:Int} {l:List Pr} {A A':Option Addr} {n n':Nat} {t:ByteArray} {a:Nat} {e:Int} {l':List Pr} (s:RI w g gp gc k i 0 l A n t a e x) (hr:Rd x x.heap.size 4 A' l'.length (prs l')) (hc:l'.length≤n'):
  RI w g gp gc k i 0 l' A' n' t a e (x.setCell ⟨gp,24,none⟩ (.slice A' l'.length n')):=by
 have hm:=cP x gp 24 (.slice A' l'.length n');exact⟨dw s.kept hm s.kept.size s.base.2.1,s.res.other (by have:=s.ne.1;simpa using this) _,s.pk.upd 24 _ rfl,⟨s.cur.1.other (by have:=s.ne.2.2;simpa using this.symm) _,s.cur.2⟩,
  (hr.other s.pk (dY _ _) hm (ac _)).wider hm.size,hc,s.ne,s.base⟩
def qT (r:Pk×Int) (w:World) (e:Ending) (w':World):Prop:=∃h,e= .returned (.tuple #[pkV r.1 h,.int .i64 r.2])∧PkIn w' w'.heap.size r.1 h∧Below w.heap.size w w'∧(∀b o,h.codes.a=some ⟨b,o,none⟩→w.heap.size≤b)
theorem kN {r:Pk×Int} {x:Int} {w w':World} (h:r=(pk0,x)) (hb:Below w.heap.size w w'):qT r w (.returned (.tuple #[pkV pk0 hs0,.int .i64 x])) w':=by
 subst h;exact⟨hs0,rfl,wM _ _,hb,fun b o e=>by cases e⟩
theorem nR {r:Pk×Int} {p:Pk} {h:Hs} {w w':World} (hr:r=(p,0)) (hi:PkIn w' w'.heap.size p h) (hb:Below w.heap.size w w') (hf:∀b o,h.codes.a=some ⟨b,o,none⟩→w.heap.size≤b):qT r w (.returned (.tuple #[pkV p h,.int .i64 0])) w':=by
 subst hr;exact⟨h,rfl,hi,hb,hf⟩
theorem SG.fresh {w wL x:World} {g gp gc:Nat} {k i:Int} {l:List Pr} {A:Option Addr} {n:Nat} {fi:List Fi} {cd:List Int} {F C:Hd} {t:ByteArray} {a:Nat} {e:Int} (s:SG w wL g gp gc k i l A n fi cd F C t a e x):∀b o,C.a=Option.some ⟨b,o,Option.none⟩→w.heap.size≤b:=fun b o h=>by
 have h1:=(cX s.ocd b (by rw[h];rfl)).1;have h2:=s.base.1;have h3:=s.lt.1;omega
theorem ud (v k:Int) (s:ByteArray) (w:World) (hs:s.size≤1000000000000):
  Calls Tryz.prog 13 #[.int .i64 v,.int .i64 k,.string s] w (qT (sbR v k s) w):=by
 have HS:=aa hs;have HB0:=aa ((aq w.heap.size w).alloc (ac _) (.cells (pkC pk0 hs0) PkT));have H60:=aa (Bk.fresh w PkT (pkC pk0 hs0));have hst:=aW H60.out
 go_enter Tryz.func13,Tryz.ntmps13
 go_wp2_with fail
 refine(oI v k _).mono ?_;rintro e w1 ⟨rfl,hw1⟩;subst hw1;cases hk:ir v k
 ·have HX:Hid (sbR v k s=(pk0,2)):=aa (by unfold sbR;rw[if_pos hk]);clear hk
  go_wp2
  refine av (aI rfl _ rfl (cO H60.out _ _)) rfl ?_;exact kN HX.out (bT HB0.out HB0.out.size (ac _) _ _)
 have HK:=aa hk;have h45:v=4∨v=5:=(aR (show decide ((v=4∨v=5)∧8≤k∧k≤11)=true from hk)).1;have HV:=aa h45;clear hk hst
 go_wp2_with fail
 refine(jL s _ (by have:=HS.out;omega)).mono ?_;rintro e w1 ⟨rfl,hc,hb⟩;have hgc:(w.alloc (.cells (pkC pk0 hs0) PkT)).heap.size=w.heap.size+1:=by simp
 have HB1:=aa (HB0.out.trans (hb.mono HB0.out.size));have H61:=aa (H60.out.below hb H60.out.lt)
 rw[hgc]at hc⊢;have HC1:=aa hc;clear hc hb hgc
 go_wp2_with fail
 refine(dR (w.heap.size+1) 0 s 0 2 _ HC1.out (by decide)).mono ?_;rintro e w2 ⟨rfl,hc,hm⟩;have HB2:=aa (dw HB1.out hm HB1.out.size (by omega));have H62:=aa (H61.out.mods (S:=fun z=>z=w.heap.size+1) (Mods.of_grown hm rfl) (by omega));have HC2:=aa hc
 have HZ:=aa HC2.out.lt;have hid:=gU s 0 0 (by omega);obtain⟨m,hm2⟩:∃m,br s 0 0 2=m:=⟨_,rfl⟩;rw[hm2]at hid⊢;have HM2:=aa hm2;obtain⟨TK,hTK⟩:∃T,aH s 0 0 2=T:=⟨_,rfl⟩;have HPR0:Hid (lh v k s=fv v k s TK.2.1 TK.2.2):=aa (by unfold lh;rw[hTK]);rw[hTK]at HC2;clear hc hm hm2 hTK;obtain⟨T0,a0,e0⟩:=TK;simp only at HPR0 HC2;obtain⟨id,hm1⟩:∃id:Int,id=(m:Int):=⟨_,rfl⟩;have hw:IntKind.i64.wrap (m:Int)=id:=by rw[hm1,aQ];omega
 have HM:Hid (id=(m:Int)):=aa hm1;clear hid hm1;have I3:Hid (RI w w.heap.size w2.heap.size (w.heap.size+1) k id 0 [] none 0 s a0 e0 (w2.alloc (.cells (pkC (aP k id 0 []) hs0) PkT))):=aa
  ⟨HB2.out.alloc HB2.out.size _,H62.out.alloc _,Bk.fresh _ _ _,⟨HC2.out.1.alloc _,HC2.out.2⟩,Rd.nil _ _ _ _,ac _,⟨by have:=HZ.out;omega,by omega,by have:=HZ.out;omega⟩,ac _,by have:=HZ.out;omega,by omega⟩
 have HLE:Hid (a0≤s.size):=aa HC2.out.2.1;clear HB2 H62 HC2 HB1 H61 HC1;rcases h45 with h4| h5
 ·have e5:(v==5)=false:=ar.2 (by omega);have HPR:Hid (lh v k s=([],a0,e0)):=aa (by rw[HPR0.out];unfold fv;rw[if_pos (.inl h4)]);have HLG:Hid (∀q∈([]:List Pr),ea q):=aa (by simp);obtain⟨l,hl⟩:∃l:List Pr,l=[]:=⟨_,rfl⟩;obtain⟨a1,ha1⟩:∃a1,a1=a0:=⟨_,rfl⟩;obtain⟨e1,he1⟩:∃e1,e1=e0:=⟨_,rfl⟩;obtain⟨A,hA⟩:∃A:Option Addr,A=none:=⟨_,rfl⟩;obtain⟨n,hn⟩:∃n:Nat,n=0:=⟨_,rfl⟩;rw[←hl,←ha1,←he1]at HPR;rw[←hl]at HLG
  replace I3:Hid (RI w w.heap.size w2.heap.size (w.heap.size+1) k id 0 l A n s a1 e1 (w2.alloc (.cells (pkC (aP k id 0 []) hs0) PkT))):=by subst hl ha1 he1 hA hn;exact I3
  clear h4 hl ha1 he1 hA hn;have HPG:=aa (show ∀q∈l,ea q from HLG.out)
  go_wp2_with fail
  refine(mB v (by first| exact HV.out| exact .inr rfl) k HK.out (w.heap.size+1) w2.heap.size a1 s e1 (aP k id 0 l) {hs0 with props:=⟨A,n⟩} _ rfl I3.out.cur I3.out.pk (by have:=HZ.out;omega) HS.out).mono ?_;rintro ee wX ⟨rfl,F,C,fi,cd,a2,e2,hls,hL,hF,hC⟩;have G0:=aa (SG.of_list I3.out hL hF hC);have HLS:Hid (li v k s=(fi,cd,a2,e2)):=aa (by unfold li;rw[HPR.out];exact hls);have HFU:Hid (jj v k s=jf k m l fi cd):=aa (by unfold jj;rw[HLS.out,HPR.out,HM2.out]);have HOK:Hid (PkOk (jf k m l fi cd)):=aa (by rw[←HFU.out];exact lU (by have:=HS.out;omega));have HE2:Hid (sbR v k s=if e2≠0 then(pk0,e2)else if sbE v (jf k m l fi cd)≠0 then(pk0,sbE v (jf k m l fi cd))else(jf k m l fi cd,0)):=aa (by
   unfold sbR;rw[ae (by rw[HK.out];decide),HLS.out,HFU.out])
  clear hls hL hF hC;rw[HM.out]at G0;have hl:(kZ (.pointer (some ⟨w2.heap.size,0,none⟩))).run Tryz.prog wX= .ok (pkV (jf k m l fi cd) {hs0 with props:=⟨A,n⟩,filters:=F,codes:=C}) wX:=cf G0.out.pk;have HGI:Hid (PkIn wX wX.heap.size (jf k m l fi cd) {hs0 with props:=⟨A,n⟩,filters:=F,codes:=C}):=aa G0.out.into;obtain⟨P,hP⟩:∃P,jf k m l fi cd=P:=⟨_,rfl⟩;rw[hP]at hl HGI HOK HE2;have HPE:=aa hP;clear hP
  go_wp2_with fail
  refine(lg v P _ _ HGI.out HOK.out).mono ?_;rintro ee wV ⟨rfl,hb⟩;have G1:=aa (G0.out.below hb);clear hb hl HGI
  go_wp2_with fail
  refine(cB _ a2 s e2 (sbE v P) _ G1.out.cur).mono ?_;rintro ee wF ⟨rfl,hc,hm⟩;have G2:=aa (G1.out.turn hc hm);clear hc hm
  have HW:Hid (((if e2=0 then sbE v P else e2)=0∧sbR v k s=(P,0))∨((if e2=0 then sbE v P else e2)≠0∧sbR v k s=(pk0,(if e2=0 then sbE v P else e2)))):=aa (by
   rw[HE2.out]
   by_cases h2:e2=0
   ·rw[if_pos h2,ae (fun x=>x h2)]
    by_cases h3:sbE v P=0
    ·rw[ae (fun x=>x h3)];exact .inl ⟨h3,rfl⟩
    ·rw[if_pos h3];exact .inr ⟨h3,rfl⟩
   ·rw[ae h2,if_pos h2];exact .inr ⟨h2,rfl⟩)
  generalize (if e2=0 then sbE v P else e2)=E at*
  go_wp2_with fail
  refine(dG _ a2 s E _ G2.out.cur).mono ?_;rintro ee wH ⟨rfl,hwh⟩;subst hwh;have hl:=cf G2.out.pk;have hst:=aW G2.out.res;rcases HW.out with ⟨h2,hr⟩ | ⟨h2,hr⟩
  ·subst h2;have HR:=aa hr;clear hr
   go_wp2
   refine av (aI rfl _ rfl G2.out.some.2.1) rfl ?_;exact nR (HR.out.trans (by rw[←HPE.out];rfl)) G2.out.some.2.2 G2.out.some.1 G2.out.fresh
  ·have e0:(E !=0)=true:=aA.2 h2;have HR:=aa hr;clear hr h2
   go_wp2
   refine av (aI rfl _ rfl G2.out.none.2) rfl ?_;exact kN HR.out G2.out.none.1
 ·subst h5
  go_wp2_with fail
  refine(dG _ a0 s e0 _ I3.out.cur).mono ?_;rintro ee wE ⟨rfl,hwe⟩;subst hwe
  by_cases he:e0=0
  rotate_left
  ·have e9:(e0==0)=false:=ar.2 he;have HPR:Hid (lh 5 k s=([],a0,e0)):=aa (by rw[HPR0.out];unfold fv;rw[if_pos (.inr he)]);have HLG:Hid (∀q∈([]:List Pr),ea q):=aa (by simp);clear he;obtain⟨l,hl⟩:∃l:List Pr,l=[]:=⟨_,rfl⟩;obtain⟨a1,ha1⟩:∃a1,a1=a0:=⟨_,rfl⟩;obtain⟨e1,he1⟩:∃e1,e1=e0:=⟨_,rfl⟩;obtain⟨A,hA⟩:∃A:Option Addr,A=none:=⟨_,rfl⟩;obtain⟨n,hn⟩:∃n:Nat,n=0:=⟨_,rfl⟩;rw[←hl,←ha1,←he1]at HPR;rw[←hl]at HLG
   replace I3:Hid (RI w w.heap.size w2.heap.size (w.heap.size+1) k id 0 l A n s a1 e1 (w2.alloc (.cells (pkC (aP k id 0 []) hs0) PkT))):=by subst hl ha1 he1 hA hn;exact I3
   clear hl ha1 hA hn he1;have HPG:=aa (show ∀q∈l,ea q from HLG.out)
   go_wp2_with fail
   refine(mB 5 (by first| exact HV.out| exact .inr rfl) k HK.out (w.heap.size+1) w2.heap.size a1 s e1 (aP k id 0 l) {hs0 with props:=⟨A,n⟩} _ rfl I3.out.cur I3.out.pk (by have:=HZ.out;omega) HS.out).mono ?_;rintro ee wX ⟨rfl,F,C,fi,cd,a2,e2,hls,hL,hF,hC⟩;have G0:=aa (SG.of_list I3.out hL hF hC);have HLS:Hid (li 5 k s=(fi,cd,a2,e2)):=aa (by unfold li;rw[HPR.out];exact hls);have HFU:Hid (jj 5 k s=jf k m l fi cd):=aa (by unfold jj;rw[HLS.out,HPR.out,HM2.out]);have HOK:Hid (PkOk (jf k m l fi cd)):=aa (by rw[←HFU.out];exact lU (by have:=HS.out;omega));have HE2:Hid (sbR 5 k s=if e2≠0 then(pk0,e2)else if sbE 5 (jf k m l fi cd)≠0 then(pk0,sbE 5 (jf k m l fi cd))else(jf k m l fi cd,0)):=aa (by
    unfold sbR;rw[ae (by rw[HK.out];decide),HLS.out,HFU.out])
   clear hls hL hF hC;rw[HM.out]at G0;have hl:(kZ (.pointer (some ⟨w2.heap.size,0,none⟩))).run Tryz.prog wX= .ok (pkV (jf k m l fi cd) {hs0 with props:=⟨A,n⟩,filters:=F,codes:=C}) wX:=cf G0.out.pk;have HGI:Hid (PkIn wX wX.heap.size (jf k m l fi cd) {hs0 with props:=⟨A,n⟩,filters:=F,codes:=C}):=aa G0.out.into;obtain⟨P,hP⟩:∃P,jf k m l fi cd=P:=⟨_,rfl⟩;rw[hP]at hl HGI HOK HE2;have HPE:=aa hP;clear hP
   go_wp2_with fail
   refine(lg 5 P _ _ HGI.out HOK.out).mono ?_;rintro ee wV ⟨rfl,hb⟩;have G1:=aa (G0.out.below hb);clear hb hl HGI
   go_wp2_with fail
   refine(cB _ a2 s e2 (sbE 5 P) _ G1.out.cur).mono ?_;rintro ee wF ⟨rfl,hc,hm⟩;have G2:=aa (G1.out.turn hc hm);clear hc hm
   have HW:Hid (((if e2=0 then sbE 5 P else e2)=0∧sbR 5 k s=(P,0))∨((if e2=0 then sbE 5 P else e2)≠0∧sbR 5 k s=(pk0,(if e2=0 then sbE 5 P else e2)))):=aa (by
    rw[HE2.out]
    by_cases h2:e2=0
    ·rw[if_pos h2,ae (fun x=>x h2)]
     by_cases h3:sbE 5 P=0
     ·rw[ae (fun x=>x h3)];exact .inl ⟨h3,rfl⟩
     ·rw[if_pos h3];exact .inr ⟨h3,rfl⟩
    ·rw[ae h2,if_pos h2];exact .inr ⟨h2,rfl⟩)
   generalize (if e2=0 then sbE 5 P else e2)=E at*
   go_wp2_with fail
   refine(dG _ a2 s E _ G2.out.cur).mono ?_;rintro ee wH ⟨rfl,hwh⟩;subst hwh;have hl:=cf G2.out.pk;have hst:=aW G2.out.res;rcases HW.out with ⟨h2,hr⟩ | ⟨h2,hr⟩
   ·subst h2;have HR:=aa hr;clear hr
    go_wp2
    refine av (aI rfl _ rfl G2.out.some.2.1) rfl ?_;exact nR (HR.out.trans (by rw[←HPE.out];rfl)) G2.out.some.2.2 G2.out.some.1 G2.out.fresh
   ·have e0:(E !=0)=true:=aA.2 h2;have HR:=aa hr;clear hr h2
    go_wp2
    refine av (aI rfl _ rfl G2.out.none.2) rfl ?_;exact kN HR.out G2.out.none.1
  ·subst he;have HPR1:Hid (lh 5 k s=((aZ k (s.extract a0 s.size)).1,a0+(aZ k (s.extract a0 s.size)).2.1,(aZ k (s.extract a0 s.size)).2.2)):=aa (by rw[HPR0.out];unfold fv;rw[ae (by omega)]);have HRG:=aa (iT (kind:=k) (s:=s.extract a0 s.size) (by rw[aj];have:=HS.out;omega));have HTK:Hid ((aH s a0 (aZ k (s.extract a0 s.size)).2.2 ((aZ k (s.extract a0 s.size)).2.1:Nat)).2=(a0+(aZ k (s.extract a0 s.size)).2.1,(aZ k (s.extract a0 s.size)).2.2)):=aa (by
    by_cases hx:(aZ k (s.extract a0 s.size)).2.2=0
    ·have:=(fd (kind:=k) (s:=s.extract a0 s.size) (l:=(aZ k (s.extract a0 s.size)).1) (n:=(aZ k (s.extract a0 s.size)).2.1) (by rw[←hx])).2.2;rw[aj]at this;have hle:=HLE.out;rw[hx,dZ (by omega)]
    ·rw[fY hx,fZ hx];rfl)
   go_wp2_with fail
   refine(jG _ a0 s 0 _ I3.out.cur).mono ?_;rintro ee w3 ⟨rfl,hb⟩;have I4:=aa (I3.out.below hb);clear hb
   go_wp2_with fail
   refine(kl k (s.extract a0 s.size) _ (by rw[aj];have:=HS.out;omega)).mono ?_;rintro ee w4 ⟨A,n,rfl,hcap,hrd,hb⟩;have I5:=aa (I4.out.below hb);have RD5:=aa hrd;have HCAP:=aa hcap
   clear hb hrd hcap;obtain⟨R,hR⟩:∃R,aZ k (s.extract a0 s.size)=R:=⟨_,rfl⟩;rw[hR]at HPR1 HRG HTK RD5 HCAP⊢;clear hR;obtain⟨l,z,x⟩:=R;simp only at HPR1 HRG HTK RD5 HCAP⊢
   go_wp2_with fail
   refine(cB _ a0 s 0 x _ I5.out.cur).mono ?_;rintro ee w5 ⟨rfl,hc,hm⟩;rw[if_pos rfl]at hc;have RD6:=aa ((RD5.out.other I5.out.cur.1 (gw _ _ _) hm (ac _)).wider hm.size);have I6:=aa (I5.out.turn hc hm);clear hc hm
   go_wp2_with fail
   refine(eo _ a0 s x (z:Int) _ I6.out.cur).mono ?_;rintro ee w6 ⟨rfl,hc,hm⟩;rw[HTK.out]at hc;have RD7:=aa ((RD6.out.other I6.out.cur.1 (gw _ _ _) hm (ac _)).wider hm.size);have I7:=aa (I6.out.turn hc hm);clear hc hm;have I8:=aa (Bs I7.out RD7.out HCAP.out);have q24:=(I7.out.pk.cell 24).trans (bR _ _);have f24:=I7.out.pk.free 24;have HPR:Hid (lh 5 k s=(l,a0+z,x)):=HPR1;have HLG:Hid (∀q∈l,ea q):=HRG;obtain⟨a1,ha1⟩:∃a1,a0+z=a1:=⟨_,rfl⟩;obtain⟨e1,he1⟩:∃e1,x=e1:=⟨_,rfl⟩;rw[ha1,he1]at HPR I8;clear ha1 he1;have HPG:=aa (show ∀q∈l,ea q from HLG.out)
   go_wp2_with fail
   refine(mB 5 (by first| exact HV.out| exact .inr rfl) k HK.out (w.heap.size+1) w2.heap.size a1 s e1 (aP k id 0 l) {hs0 with props:=⟨A,n⟩} _ rfl I8.out.cur I8.out.pk (by have:=HZ.out;omega) HS.out).mono ?_;rintro ee wX ⟨rfl,F,C,fi,cd,a2,e2,hls,hL,hF,hC⟩;have G0:=aa (SG.of_list I8.out hL hF hC);have HLS:Hid (li 5 k s=(fi,cd,a2,e2)):=aa (by unfold li;rw[HPR.out];exact hls);have HFU:Hid (jj 5 k s=jf k m l fi cd):=aa (by unfold jj;rw[HLS.out,HPR.out,HM2.out]);have HOK:Hid (PkOk (jf k m l fi cd)):=aa (by rw[←HFU.out];exact lU (by have:=HS.out;omega));have HE2:Hid (sbR 5 k s=if e2≠0 then(pk0,e2)else if sbE 5 (jf k m l fi cd)≠0 then(pk0,sbE 5 (jf k m l fi cd))else(jf k m l fi cd,0)):=aa (by
    unfold sbR;rw[ae (by rw[HK.out];decide),HLS.out,HFU.out])
   clear hls hL hF hC;rw[HM.out]at G0;have hl:(kZ (.pointer (some ⟨w2.heap.size,0,none⟩))).run Tryz.prog wX= .ok (pkV (jf k m l fi cd) {hs0 with props:=⟨A,n⟩,filters:=F,codes:=C}) wX:=cf G0.out.pk;have HGI:Hid (PkIn wX wX.heap.size (jf k m l fi cd) {hs0 with props:=⟨A,n⟩,filters:=F,codes:=C}):=aa G0.out.into;obtain⟨P,hP⟩:∃P,jf k m l fi cd=P:=⟨_,rfl⟩;rw[hP]at hl HGI HOK HE2;have HPE:=aa hP;clear hP
   go_wp2_with fail
   refine(lg 5 P _ _ HGI.out HOK.out).mono ?_;rintro ee wV ⟨rfl,hb⟩;have G1:=aa (G0.out.below hb);clear hb hl HGI
   go_wp2_with fail
   refine(cB _ a2 s e2 (sbE 5 P) _ G1.out.cur).mono ?_;rintro ee wF ⟨rfl,hc,hm⟩;have G2:=aa (G1.out.turn hc hm);clear hc hm
   have HW:Hid (((if e2=0 then sbE 5 P else e2)=0∧sbR 5 k s=(P,0))∨((if e2=0 then sbE 5 P else e2)≠0∧sbR 5 k s=(pk0,(if e2=0 then sbE 5 P else e2)))):=aa (by
    rw[HE2.out]
    by_cases h2:e2=0
    ·rw[if_pos h2,ae (fun x=>x h2)]
     by_cases h3:sbE 5 P=0
     ·rw[ae (fun x=>x h3)];exact .inl ⟨h3,rfl⟩
     ·rw[if_pos h3];exact .inr ⟨h3,rfl⟩
    ·rw[ae h2,if_pos h2];exact .inr ⟨h2,rfl⟩)
   generalize (if e2=0 then sbE 5 P else e2)=E at*
   go_wp2_with fail
   refine(dG _ a2 s E _ G2.out.cur).mono ?_;rintro ee wH ⟨rfl,hwh⟩;subst hwh;have hl:=cf G2.out.pk;have hst:=aW G2.out.res;rcases HW.out with ⟨h2,hr⟩ | ⟨h2,hr⟩
   ·subst h2;have HR:=aa hr;clear hr
    go_wp2
    refine av (aI rfl _ rfl G2.out.some.2.1) rfl ?_;exact nR (HR.out.trans (by rw[←HPE.out];rfl)) G2.out.some.2.2 G2.out.some.1 G2.out.fresh
   ·have e0:(E !=0)=true:=aA.2 h2;have HR:=aa hr;clear hr h2
    go_wp2
    refine av (aI rfl _ rfl G2.out.none.2) rfl ?_;exact kN HR.out G2.out.none.1
end Go.Proofs.YtpcleamaieaefaaGreatDoor
namespace Go.Proofs.YtpcleamaieaefaaGreatDoor
open Go.RowKit
attribute [local go_sem ↓] bD bF bH bI bu
attribute [local go_sem] bc aD bh bg bK bJ bd aY be aO ax cI dC dB dt dj di dA dr dp dn bW co bO bZ bX cz cy cw cu ct cC cn bS bP bR
theorem Fo {v k:Int} {s:ByteArray} (hs:s.size≤140737488351000):PkOk (sbR v k s).1:=by
 have h0:PkOk pk0:=iw (k:=0) (i:=0) (c:=0) (l:=[]) (by simp) (by simp);unfold sbR
 split
 ·exact h0
 ·split
  ·exact h0
  ·split
   ·exact h0
   ·exact lU hs
end Go.Proofs.YtpcleamaieaefaaGreatDoor
namespace Go.Proofs.YtpcleamaieaefaaGreatDoor
open Go.RowKit
def chB (v:Int) (p:Pk):ByteArray×Int:=
 if p.kind≤2 then Dm v p
 else if p.kind=3 then Gf v p
 else if p.kind≤7 then(⟨(Ga v p).1.toArray⟩,(Ga v p).2)
 else if p.kind≤11 then sbB v p
 else(⟨(FY v p).1.toArray⟩,(FY v p).2)
def chE (v:Int) (p:Pk):Int:=
 if p.kind≤2 then eR v p
 else if p.kind=3 then ii v p
 else if p.kind≤7 then eS v p
 else if p.kind≤11 then sbE v p
 else fH v p
def chR (v:Int) (h:Hdr) (s:ByteArray):Pk×Int:=
 if h.k≤2 then iB v h.k s
 else if h.k=3 then km v h.f s
 else if h.k≤7 then iW v h.k s
 else if h.k≤11 then sbR v h.k s
 else gX v h.k s
def mqE (v:Int) (p:Pk):Int:=
 if ba v=false then 2
 else if dS v p.kind=false then 8
 else if chE v p≠0 then chE v p
 else if 268435455<(chB v p).1.size then 4 else 0
def mqF (p:Pk):Int:=if p.kind=3 then ke p else gg p.kind
def mqS (v:Int) (p:Pk):ByteArray:=⟨(hdS p.kind (mqF p) (chB v p).1.size).toArray⟩++(chB v p).1
def mqR (v:Int) (s:ByteArray):Pk×Nat×Int:=
 if(hdR v s).2.2≠0 then(pk0,0,(hdR v s).2.2)
 else if s.size<(hdR v s).2.1+(hdR v s).1.n then(pk0,0,3)
 else if(chR v (hdR v s).1 (s.extract (hdR v s).2.1 ((hdR v s).2.1+(hdR v s).1.n))).2=0 then((chR v (hdR v s).1 (s.extract (hdR v s).2.1 ((hdR v s).2.1+(hdR v s).1.n))).1,(hdR v s).2.1+(hdR v s).1.n,0)
 else(pk0,0,if(chR v (hdR v s).1 (s.extract (hdR v s).2.1 ((hdR v s).2.1+(hdR v s).1.n))).2=3 then 5 else(chR v (hdR v s).1 (s.extract (hdR v s).2.1 ((hdR v s).2.1+(hdR v s).1.n))).2)
theorem FD {v:Int} {p:Pk} (h1:ba v=true) (h2:dS v p.kind=true) (h3:chE v p=0) (h4:(chB v p).1.size≤268435455):mqE v p=0:=by
 unfold mqE;rw[ae (by rw[h1];decide),ae (by rw[h2];decide),ae (by rw[h3];decide),ae (by omega)]
theorem E7 {v:Int} {x:Hdr} {s:ByteArray} {q:Pk} (hc:ff v x.k x.f=0) (h:chR v x s=(q,0)):chE v q=0∧(chB v q).1=s∧q.kind=x.k∧mqF q=x.f:=by
 obtain⟨-,-,hf⟩:=nf.1 hc;have hfix:x.k≠3→x.f=gg x.k:=fun hk=>by
  unfold eu at hf;rw[ae hk]at hf;exact aR hf
 unfold chR at h
 split at h
 ·rename_i h1;obtain⟨a,b,c⟩:=Au h;have k1:q.kind≤2:=by rw[c];exact h1
  have k2:¬q.kind=3:=by omega
  simp only[chE,chB,mqF,if_pos k1,ae k2];exact⟨a,by rw[b],c,by rw[c];exact(hfix (by omega)).symm⟩
 rename_i h1
 split at h
 ·rename_i h2;obtain⟨a,b,c⟩:=zy h;have k2:=(zB a).kind;have k1:¬q.kind≤2:=by omega
  simp only[chE,chB,mqF,Gf,if_pos k2,ae k1,if_pos a];exact⟨a,b,by rw[k2,h2],c⟩
 rename_i h2
 split at h
 ·rename_i h3;rcases AF v x.k s with ⟨a,b⟩ | ⟨a,b,c,d⟩
  ·rw[h]at b;exact absurd rfl b
  ·rw[h]at b c d;dsimp only at b c d;have k1:¬q.kind≤2:=by omega
   have k2:¬q.kind=3:=by omega
   have k3:q.kind≤7:=by omega
   simp only[chE,chB,mqF,Ga,ae k2,ae k1,if_pos k3,if_pos b.ok];exact⟨b.ok,by rw[d,Ck],c,by rw[c];exact(hfix h2).symm⟩
 rename_i h3
 split at h
 ·rename_i h4;obtain⟨a,b,c⟩:=Bf h;have k1:¬q.kind≤2:=by omega
  have k2:¬q.kind=3:=by omega
  have k3:¬q.kind≤7:=by omega
  have k4:q.kind≤11:=by omega
  simp only[chE,chB,mqF,sbB,ae k2,ae k1,ae k3,if_pos k4,if_pos a];exact⟨a,by rw[b,Ck],c,by rw[c];exact(hfix h2).symm⟩
 rename_i h4;rcases An v x.k s with ⟨a,b⟩ | ⟨a,b,c,d⟩
 ·rw[h]at b;exact absurd rfl b
 ·rw[h]at b c d;dsimp only at b c d;have k1:¬q.kind≤2:=by omega
  have k2:¬q.kind=3:=by omega
  have k3:¬q.kind≤7:=by omega
  have k4:¬q.kind≤11:=by omega
  simp only[chE,chB,mqF,FY,ae k2,ae k1,ae k3,ae k4,if_pos b.ok];exact⟨b.ok,by rw[d,Ck],c,by rw[c];exact(hfix h2).symm⟩
theorem F7 {v:Int} {x:Hdr} {s:ByteArray} (hs:s.size≤1000000000000):PkOk (chR v x s).1:=by
 unfold chR
 split
 ·exact EZ (by omega)
 split
 ·exact D9 (by omega)
 split
 ·exact Fb (by omega)
 split
 ·exact Fo (by omega)
 exact EO (by omega)
theorem Cg (v:Int) (p:Pk):ls (mqS v p)=hdS p.kind (mqF p) (chB v p).1.size++ls (chB v p).1:=by
 unfold mqS;rw[fe,jo]
theorem Cf (v:Int) (p:Pk):(mqS v p).size=(hdS p.kind (mqF p) (chB v p).1.size).length+(chB v p).1.size:=by
 rw[←aN,Cg,List.length_append,aN]
theorem Em (v:Int) (p:Pk):2≤(mqS v p).size:=by
 rw[Cf];have:=EC p.kind (mqF p) (chB v p).1.size;omega
theorem Ci {v:Int} {s:ByteArray} {q:Pk} {n:Nat} (h:mqR v s=(q,n,0)):mqE v q=0∧mqS v q=s.extract 0 n∧n≤s.size∧n=(mqS v q).size:=by
 unfold mqR at h
 split at h
 ·rename_i h1;simp only[bG]at h;exact absurd h.2.2 h1
 rename_i h1
 split at h
 ·simp at h
 rename_i h2
 split at h
 ·rename_i h3;simp only[bG]at h;obtain⟨rfl,rfl,-⟩:=h;obtain⟨b1,b2,b3,b4,b5⟩:=kw (v:=v) (s:=s) (h:=(hdR v s).1) (a:=(hdR v s).2.1) (by rw[←il.1 h1]);generalize hdR v s=r at*;obtain⟨c1,c2,c3,c4⟩:=E7 (q:=(chR v r.1 (s.extract r.2.1 (r.2.1+r.1.n))).1) b1 (by rw[←h3]);generalize (chR v r.1 (s.extract r.2.1 (r.2.1+r.1.n))).1=q at*;obtain⟨k1,k2,-⟩:=nf.1 b1;have hsz:(chB v q).1.size=r.1.n:=by
   rw[c2,aj];omega
  have hS:mqS v q=s.extract 0 (r.2.1+r.1.n):=by
   apply eX;rw[Cg,c3,c4,hsz,c2,db];have:ls (s.extract 0 (r.2.1+r.1.n))=(ls s).take (r.2.1+r.1.n):=by
    have:=db s 0 (r.2.1+r.1.n);rwa[bV,cS]at this
   rw[this];generalize ls s=X at*;rw[b4]at b3⊢;generalize hdS r.1.k r.1.f r.1.n=Y at*;rw[b3,ot,bt (iX _ _),Nat.add_sub_cancel_left,List.drop_left]
  refine⟨FD k1 (by rw[c3];exact k2) c1 (by omega),hS,by omega,?_⟩;rw[hS,aj];omega
 ·rename_i h3;simp only[bG]at h;obtain⟨-,-,h4⟩:=h
  split at h4
  ·cases h4
  ·exact absurd h4 h3
theorem En {v:Int} {s:ByteArray} (hs:s.size≤1000000000000):PkOk (mqR v s).1:=by
 have hz:PkOk pk0:=PkOk.zero 0 0 0;unfold mqR
 split
 ·exact hz
 split
 ·exact hz
 split
 ·refine F7 ?_;rw[aj];omega
 ·exact hz
theorem Ch {v:Int} {s:ByteArray} (h:(mqR v s).2.2=0):2≤(mqR v s).2.1∧(mqR v s).2.1≤s.size:=by
 obtain⟨a,b,c,d⟩:=Ci (q:=(mqR v s).1) (n:=(mqR v s).2.1) (by rw[←h]);have:=Em v (mqR v s).1;omega
theorem EK (s:ByteArray) (a:Nat):ls (s.extract a s.size)=(ls s).drop a:=by
 unfold ls;rw[Lib.extract_data,bt];rw[bU];exact ac _
theorem AN (n:Nat):0<(eP n).length:=by
 unfold eP ig
 split<;>simp
theorem tU (n:Nat) (w:World) (hn:n≤268435455):Calls Tryz.prog 164 #[.int .i64 n] w fun e w'=>e= .returned (.int .i64 (eP n).length)∧Below w.heap.size w w':=by
 have hm:Hid (wT n=true):=by show _=_;simp[wT];omega
 have HB:=aa (aq w.heap.size w)
 go_enter Tryz.func164,Tryz.ntmps164
 go_wp2_with fail
 refine(qm n _).mono ?_;rintro e w1 ⟨rfl,rfl⟩;rw[hm.out]
 go_wp2
 go_loopw [0,3] (fun v o wr=>∃(m f j:Nat),f≤3∧m<128^ (f+1)∧j+f=4∧v= .int .i64 m∧o= .int .i64 j∧(eP n).length+1=j+(ig f m).length∧Below w.heap.size w wr) (fun v _ _=>(intOf v).toNat)
 case atStart=>exact⟨n,3,1,by omega,by simp;omega,by omega,rfl,rfl,by show _=1+(eP n).length;omega,HB.out⟩
 case round=>
  obtain⟨m,f,j,hf,hmf,hj,rfl,rfl,hv,hbel⟩:=hrel;have HV:=aa hv;have HBE:=aa hbel;have HMF:=aa hmf;have HJ:=aa hj
  have hj4:j≤4:=by omega
  have hm2:m<268435456:=by
   have:128^ (f+1)≤128^ 4:=df (by omega) (by omega);have h4:(128:Nat) ^ 4=268435456:=by decide
   omega
  clear hv hbel hmf hj hm
  by_cases hge:128≤m
  ·have hge':(128:Int)≤(m:Int):=by omega
   have HR:Hid (∃f',f=f'+1∧m/ 128<128^ (f'+1)∧(ig f m).length=1+(ig f' (m/ 128)).length):=aa (by
    have h1:=HMF.out;rcases dh f with rfl| h
    ·simp at h1;omega
    ·obtain⟨f',rfl⟩:∃f',f=f'+1:=⟨f- 1,by omega⟩;refine⟨f',rfl,?_,?_⟩
     ·rw[Nat.pow_succ]at h1;exact iJ (by rw[eV];exact h1)
     ·rw[ig,ae (by omega),bM,Nat.add_comm])
   go_wp2
   go_roundw
   case rel=>
    obtain⟨f',h0,h1,h2⟩:=HR.out;exact⟨m/ 128,f',j+1,by omega,h1,by have:=HJ.out;omega,by simp,by simp,by rw[HV.out,h2];omega,HBE.out⟩
   case measure=>simp[intOf];omega
  ·have hlt:(m:Int)<128:=by omega
   have HF:Hid ((eP n).length=j):=aa (by
    have:(ig f m).length=1:=by
     cases f with
     | zero=>rfl
     | succ f=>rw[ig,if_pos (by omega)];rfl
    have:=HV.out;omega)
   go_wp2
   go_ret
   exact⟨by rw[HF.out];rfl,HBE.out⟩
theorem rj (k f:Int) (w:World):Calls Tryz.prog 163 #[.int .i64 k,.int .i64 f] w fun e w'=>e= .returned (.bool (eu k f))∧w=w':=by
 by_cases h3:k=3
 ·subst h3;rw[show eu 3 f=gd f from if_pos rfl];exact oQ f w
 ·have HE:Hid (eu k f=decide (f=gg k)):=aa (ae h3);have e3:(k !=3)=true:=aA.2 h3;clear h3
  go_enter Tryz.func163,Tryz.ntmps163
  go_wp2_with fail
  refine(oS k _).mono ?_;rintro e w1 ⟨rfl,rfl⟩
  go_wp2
  go_ret
  refine⟨eT ?_,rfl⟩;rw[HE.out]
  by_cases e:f=gg k<;>simp[e]
theorem vq (v k f:Int) (n:Nat) (w:World) (hn:n≤268435455):Calls Tryz.prog 117 #[.int .i64 v,Cx ⟨k,f,n⟩] w fun e w'=>e= .returned (.int .i64 (ff v k f))∧Below w.heap.size w w':=by
 have HE:Hid (ff v k f=if ba v=false then 2 else if dS v k=false then 8 else if eu k f=false then 7 else 0):=aa rfl;have HB:=aa ((aq w.heap.size w).alloc (ac _) (.cells #[.int .i64 k,.int .i64 f,.int .i64 n] 107));have HN:=aa hn;have HP:Hid (0<(eP n).length):=aa (AN n);clear hn;show Calls _ _ #[.int .i64 v,.agg #[.int .i64 k,.int .i64 f,.int .i64 n]] _ _
 go_enter Tryz.func117,Tryz.ntmps117
 go_wp2_with fail
 refine(j9 v _).mono ?_;rintro e w1 ⟨rfl,rfl⟩;cases hk:ba v
 ·have HX:Hid (ff v k f=2):=aa (by rw[HE.out,if_pos hk]);clear hk
  go_wp2
  go_ret
  exact⟨by rw[HX.out];rfl,HB.out⟩
 have HE1:Hid (ff v k f=if dS v k=false then 8 else if eu k f=false then 7 else 0):=aa (by rw[HE.out,ae (fun x=>by rw[hk]at x;cases x)]);clear hk HE;have k1:(w.alloc (.cells #[.int .i64 k,.int .i64 f,.int .i64 n] 107)).cell? ⟨w.heap.size,0,none⟩=some (.int .i64 k):=(Bk.fresh w 107 _).cell 0;have k2:(w.alloc (.cells #[.int .i64 k,.int .i64 f,.int .i64 n] 107)).cell? ⟨w.heap.size,1,none⟩=some (.int .i64 f):=(Bk.fresh w 107 _).cell 1;have k3:(w.alloc (.cells #[.int .i64 k,.int .i64 f,.int .i64 n] 107)).cell? ⟨w.heap.size,2,none⟩=some (.int .i64 n):=(Bk.fresh w 107 _).cell 2
 go_wp2_with fail
 refine(lD v k _).mono ?_;rintro e w1 ⟨rfl,rfl⟩;cases hk:dS v k
 ·have HX:Hid (ff v k f=8):=aa (by rw[HE1.out,if_pos hk]);clear hk
  go_wp2
  go_ret
  exact⟨by rw[HX.out];rfl,HB.out⟩
 have HE2:Hid (ff v k f=if eu k f=false then 7 else 0):=aa (by rw[HE1.out,ae (fun x=>by rw[hk]at x;cases x)]);clear hk HE1
 go_wp2_with fail
 refine(rj k f _).mono ?_;rintro e w1 ⟨rfl,rfl⟩;cases hk:eu k f
 ·have HX:Hid (ff v k f=7):=aa (by rw[HE2.out,if_pos hk]);clear hk
  go_wp2
  go_ret
  exact⟨by rw[HX.out];rfl,HB.out⟩
 have HX:Hid (ff v k f=0):=aa (by rw[HE2.out,ae (fun x=>by rw[hk]at x;cases x)]);clear hk HE2
 go_wp2_with fail
 refine(tU n _ HN.out).mono ?_;rintro e w1 ⟨rfl,hb⟩;have HB2:=aa (HB.out.trans (hb.mono HB.out.size));clear hb
 obtain⟨m,hm⟩:∃m,(eP n).length=m:=⟨_,rfl⟩;have hp:=HP.out;rw[hm]at hp⊢;have e0:((m:Int)==0)=false:=ar.2 (by omega);clear hm HP hp
 go_wp2
 go_ret
 exact⟨by rw[HX.out];rfl,HB2.out⟩
theorem ml {fn:Func} {p u u':Tmp} {ty:TypeId} (h:fn.results= #[.cell p ty,.tmp u,.tmp u']) (tmps:Array Value) (P:Program) (w:World):
  (results fn tmps).run P w=((asAddr (tmps.getD p undef)).run P w).andThen fun a w₁=>((loadVar ty a).run P w₁).andThen fun v w₂=>.ok (.tuple #[v,tmps.getD u undef,tmps.getD u' undef]) w₂:=by
 simp only[results,h];simp[Sem.run_bind,Result.andThen]
theorem Gi {w:World} {g:Nat} {k f n:Int} (hb:Bk w g 107 #[.int .i64 k,.int .i64 f,.int .i64 n]):(loadVar 107 ⟨g,0,none⟩).run Tryz.prog w= .ok (.agg #[.int .i64 k,.int .i64 f,.int .i64 n]) w:=
 run_loadVar_row w g 107 107 _ (0,0) _ hb Tryz.underlying107 rfl (by kernel_rfl)
theorem jF {fn:Func} {p u u':Tmp} (hr:fn.results= #[.cell p 107,.tmp u,.tmp u']) (tmps:Array Value) {w:World} {g:Nat} {k f n:Int} (hp:tmps.getD p undef= .pointer (some ⟨g,0,none⟩)) (hb:Bk w g 107 #[.int .i64 k,.int .i64 f,.int .i64 n]):
  (results fn tmps).run Tryz.prog w= .ok (.tuple #[.agg #[.int .i64 k,.int .i64 f,.int .i64 n],tmps.getD u undef,tmps.getD u' undef]) w:=by
 rw[ml hr,hp];exact kG _ (⟨g,0,none⟩:Addr) w _ rfl |>.trans (kG _ _ w _ (Gi hb))
theorem Gw (b:UInt8):bits BinOp.and IntKind.u8 (b.toNat:Int) 15=((b.toNat% 16:Nat):Int):=by
 have h:=wa b 15;rw[show((15:UInt8).toNat:Int)=15 from rfl]at h;rw[h,UInt8.toNat_and,show(15:UInt8).toNat=2^ 4- 1 from rfl,kC]
theorem qy (v:Int) (s:ByteArray) (w:World) (hs:s.size≤4611686018427387904):Calls Tryz.prog 79 #[.int .i64 v,.string s] w fun e w'=>e= .returned (.tuple #[Cx (hdR v s).1,.int .i64 ((hdR v s).2.1:Nat),.int .i64 (hdR v s).2.2])∧Below w.heap.size w w':=by
 have HE:Hid (hdR v s=if ba v=false then(lC,0,2)
  else if s.size=0 then(lC,0,3)
  else if ff v (cU s/ 16:Nat) (cU s% 16:Nat)≠0 then(lC,0,ff v (cU s/ 16:Nat) (cU s% 16:Nat))
  else if(bm (ls (s.extract 1 s.size))).2.2≠0 then(lC,0,(bm (ls (s.extract 1 s.size))).2.2)
  else(⟨(cU s/ 16:Nat),(cU s% 16:Nat),(bm (ls (s.extract 1 s.size))).1⟩,(bm (ls (s.extract 1 s.size))).2.1+1,0)):=aa rfl
 have HB:=aa ((aq w.heap.size w).alloc (ac _) (.cells #[.int .i64 0,.int .i64 0,.int .i64 0] 107));have HK:=aa (Bk.fresh w 107 #[.int .i64 0,.int .i64 0,.int .i64 0]);have HS:=aa hs;clear hs
 go_enter Tryz.func79,Tryz.ntmps79
 go_wp2_with fail
 refine(j9 v _).mono ?_;rintro e w1 ⟨rfl,rfl⟩;cases hk:ba v
 ·have HX:Hid (hdR v s=(lC,0,2)):=aa (by rw[HE.out,if_pos hk]);clear hk
  go_wp2
  refine av (jF rfl _ rfl HK.out) rfl ?_;exact⟨by rw[HX.out];rfl,HB.out⟩
 by_cases h0:s.size=0
 ·have HX:Hid (hdR v s=(lC,0,3)):=aa (by rw[HE.out,ae (fun x=>by rw[hk]at x;cases x),if_pos h0]);have em:=kR s;rw[au h0]at em;clear hk h0
  go_wp2
  refine av (jF rfl _ rfl HK.out) rfl ?_;exact⟨by rw[HX.out];rfl,HB.out⟩
 have hpos0:0<s.size:=by omega
 obtain⟨b,hb⟩:∃b,s[0]'hpos0=b:=⟨_,rfl⟩;have HBY:Hid (cU s=b.toNat):=aa (by
  unfold cU;rw[List.headD_eq_head?_getD,List.head?_eq_getElem?,List.getElem?_eq_getElem (by rw[aN];omega),uY s 0 (by omega),hb];rfl)
 have HE1:Hid (hdR v s=if ff v (cU s/ 16:Nat) (cU s% 16:Nat)≠0 then(lC,0,ff v (cU s/ 16:Nat) (cU s% 16:Nat))
  else if(bm (ls (s.extract 1 s.size))).2.2≠0 then(lC,0,(bm (ls (s.extract 1 s.size))).2.2)
  else(⟨(cU s/ 16:Nat),(cU s% 16:Nat),(bm (ls (s.extract 1 s.size))).1⟩,(bm (ls (s.extract 1 s.size))).2.1+1,0)):=aa (by rw[HE.out,ae (fun x=>by rw[hk]at x;cases x),ae h0])
 have hpos:(0:Int)<(s.size:Int):=by omega
 have em:=kR s;rw[ah h0]at em;have hlo:=Gw b;have hb8:=b.toNat_lt;have HPOS:Hid (1≤s.size):=aa (by omega);clear hk HE h0
 go_wp2_with fail
 go_region
 have HX0:Hid (∃kn fn:Nat,b.toNat/ 16=kn∧b.toNat% 16=fn):=aa ⟨_,_,rfl,rfl⟩;obtain⟨kn,fn,hkn,hfn⟩:=HX0.out;rw[show((b.toNat:Int) / 16)=(kn:Int) by omega,show((b.toNat:Int) % 16)=(fn:Int) by omega];have HE2:Hid (hdR v s=if ff v kn fn≠0 then(lC,0,ff v kn fn)
  else if(bm (ls (s.extract 1 s.size))).2.2≠0 then(lC,0,(bm (ls (s.extract 1 s.size))).2.2)
  else(⟨kn,fn,(bm (ls (s.extract 1 s.size))).1⟩,(bm (ls (s.extract 1 s.size))).2.1+1,0)):=aa (by rw[HE1.out,HBY.out,hkn,hfn])
 have HB1:=aa (aV ((aq w.heap.size w).alloc (ac _) (.cells #[.int .i64 kn,.int .i64 fn,.int .i64 0] 107)) 1);have HK1:=aa ((Bk.fresh w 107 #[.int .i64 kn,.int .i64 fn,.int .i64 0]).drewN 1);have HCK:=aa (fun W=>vq v kn fn 0 W (by omega));simp only[Cx]at HCK;clear HX0 HE1 HBY hkn hfn hlo hb hb8 HK HB em;have c0:=HK1.out.cell 0;have c1:=HK1.out.cell 1;have c2:=HK1.out.cell 2
 simp only[ay,aE,aB]at c0 c1 c2
 go_wp2_with fail
 refine(HCK.out _).mono ?_;rintro e w1 ⟨rfl,hb⟩;have HB2:=aa (HB1.out.trans (hb.mono HB1.out.size));have HK2:=aa (HK1.out.below hb HK1.out.lt);clear hb c0 c1 c2 HCK HK1 HB1
 by_cases hc:ff v kn fn=0
 rotate_left
 ·have HX:Hid (hdR v s=(lC,0,ff v kn fn)):=aa (by rw[HE2.out,if_pos hc]);generalize ff v kn fn=x at*;have e0:(x !=0)=true:=aA.2 hc;clear hc HE2;have c0:=HK2.out.cell 0;have c1:=HK2.out.cell 1;have c2:=HK2.out.cell 2
  have f0:=HK2.out.free 0;have f1:=HK2.out.free 1;have f2:=HK2.out.free 2
  simp only[ay,aE,aB]at c0 c1 c2
  go_wp2
  refine av (jF rfl _ rfl (((HK2.out.put 0 (.int .i64 0)).put 1 (.int .i64 0)).put 2 (.int .i64 0))) rfl ?_;exact⟨by rw[HX.out];rfl,((HB2.out.setCell (ac _) _).setCell (ac _) _).setCell (ac _) _⟩
 rw[hc];have HE3:Hid (hdR v s=if(bm (ls (s.extract 1 s.size))).2.2≠0 then(lC,0,(bm (ls (s.extract 1 s.size))).2.2)
  else(⟨kn,fn,(bm (ls (s.extract 1 s.size))).1⟩,(bm (ls (s.extract 1 s.size))).2.1+1,0)):=aa (by rw[HE2.out,ae (fun x=>x hc)])
 clear hc HE2;have v1:(0:Int)≤1:=by decide
 have v2:(1:Int)≤(s.size:Int):=by have:=HPOS.out;omega
 have HRV:=aa (fun W=>nO (s.extract 1 s.size) W (by rw[aj];have:=HS.out;omega));have HLT:=aa (jH (ls (s.extract 1 s.size)));rw[aN,aj]at HLT
 go_wp2_with fail
 refine(HRV.out _).mono ?_;rintro e w2 ⟨rfl,hb⟩;have HB3:=aa (HB2.out.trans (hb.mono HB2.out.size));have HK3:=aa (HK2.out.below hb HK2.out.lt);clear hb HRV HK2 HB2;obtain⟨⟨rn,ra,re⟩,hr⟩:∃r,bm (ls (s.extract 1 s.size))=r:=⟨_,rfl⟩;rw[hr]at HE3 HLT⊢;dsimp only at HLT⊢;clear hr;have c0:=HK3.out.cell 0;have c1:=HK3.out.cell 1;have c2:=HK3.out.cell 2
 have f0:=HK3.out.free 0;have f1:=HK3.out.free 1;have f2:=HK3.out.free 2
 simp only[ay,aE,aB]at c0 c1 c2
 by_cases hz:re=0
 ·have HX:Hid (hdR v s=(⟨kn,fn,rn⟩,ra+1,0)):=aa (by rw[HE3.out,ae (fun x=>x hz)]);subst hz;have hra:(ra:Int)<9223372036854775806:=by have:=HLT.out;have:=HS.out;omega
  clear HE3
  go_wp2
  refine av (jF rfl _ rfl ((((HK3.out.put 2 (.int .i64 rn)).put 0 (.int .i64 kn)).put 1 (.int .i64 fn)).put 2 (.int .i64 rn))) rfl ?_;exact⟨by rw[HX.out];rfl,(((HB3.out.setCell (ac _) _).setCell (ac _) _).setCell (ac _) _).setCell (ac _) _⟩
 ·have HX:Hid (hdR v s=(lC,0,re)):=aa (by rw[HE3.out,if_pos hz]);have e0:(re !=0)=true:=aA.2 hz;clear HE3 hz
  go_wp2
  refine av (jF rfl _ rfl ((((HK3.out.put 2 (.int .i64 rn)).put 0 (.int .i64 0)).put 1 (.int .i64 0)).put 2 (.int .i64 0))) rfl ?_;exact⟨by rw[HX.out];rfl,(((HB3.out.setCell (ac _) _).setCell (ac _) _).setCell (ac _) _).setCell (ac _) _⟩
def fnB (f:FuncId):Value:=.func (.func f) #[.agg #[]] #[]
def mC:List (Int×Value):=[(12,fnB 303),(13,fnB 303),(14,fnB 304),(15,fnB 304)]
theorem oL (v:Int) (w:World):Calls Tryz.prog 303 #[.agg #[],.int .i64 v] w fun e w'=>e= .returned (.bool false)∧Below w.heap.size w w':=by
 go_enter Tryz.func303,Tryz.ntmps303
 go_wp2
 go_ret
 exact⟨rfl,(aq _ _).alloc (ac _) _⟩
theorem vi (v:Int) (w:World):Calls Tryz.prog 304 #[.agg #[],.int .i64 v] w fun e w'=>e= .returned (.bool (v==5))∧Below w.heap.size w w':=by
 go_enter Tryz.func304,Tryz.ntmps304
 go_wp2
 go_ret
 exact⟨rfl,(aq _ _).alloc (ac _) _⟩
theorem ro (args:Array Value) (w:World):(callFunc 303 args).run Tryz.prog w= .ok (.enter 303 args) w:=dv Tryz.func303 (by kernel_rfl) rfl args w
theorem xp (args:Array Value) (w:World):(callFunc 304 args).run Tryz.prog w= .ok (.enter 304 args) w:=dv Tryz.func304 (by kernel_rfl) rfl args w
theorem Co (k:Int):(k=12∧ia mC k=some (fnB 303))∨(k=13∧ia mC k=some (fnB 303))∨(k=14∧ia mC k=some (fnB 304))∨(k=15∧ia mC k=some (fnB 304))∨
  (¬(12≤k∧k≤15)∧ia mC k=none):=by
 by_cases h1:k=12
 ·subst h1;exact .inl ⟨rfl,rfl⟩
 by_cases h2:k=13
 ·subst h2;exact .inr (.inl ⟨rfl,rfl⟩)
 by_cases h3:k=14
 ·subst h3;exact .inr (.inr (.inl ⟨rfl,rfl⟩))
 by_cases h4:k=15
 ·subst h4;exact .inr (.inr (.inr (.inl ⟨rfl,rfl⟩)))
 refine .inr (.inr (.inr (.inr ⟨by omega,?_⟩)));have e1:((12:Int)==k)=false:=ar.2 (by omega);have e2:((13:Int)==k)=false:=ar.2 (by omega);have e3:((14:Int)==k)=false:=ar.2 (by omega);have e4:((15:Int)==k)=false:=ar.2 (by omega);simp[ia,mC,List.find?,e1,e2,e3,e4]
theorem pQ (v k:Int) (w:World):Calls Tryz.prog 256 #[.int .i64 v,.int .i64 k] w fun e w'=>e= .returned (.tuple #[.bool (fO v k),.bool (qH k)])∧Below w.heap.size w w':=by
 have hmm:=@run_makeMap Tryz.prog;have B0:=(aq w.heap.size w).alloc (ac _) (.cells #[] 245);have HT:=aa (fQ.made (w.alloc (.cells #[] 245)) .i64);have HB:=aa (B0.alloc B0.size (.map #[] 0));clear B0;rw[show(w.alloc (.cells #[] 245)).heap.size=w.heap.size+1 by simp]at HT
 go_enter Tryz.func256,Tryz.ntmps256
 go_wp2_with (refine lc _ rfl _ _ _ 246 rfl 3 73 (by kernel_rfl) (by kernel_rfl) (w.heap.size+1) _ rfl HT.out _ _ rfl rfl rfl ?_;intro w1 hT hg;have hb:=HB.out.grown hg (HB.out.size) (fun k hk=>by cases hk;exact IT _);clear HT HB hg;have HT:=aa hT;have HB:=aa hb;clear hT hb)
 rename_i wm;have HT2:fQ .i64 _ (w.heap.size+1) mC:=HT.out;have hlk:=(nY (P:=Tryz.prog) (t:=246) (k:=3) (e:=73) (z:=.nilFunc) (by kernel_rfl) (by kernel_rfl) (by kernel_rfl) HT2 k).2;have en:=ro;have el:=xp;clear HT2;rcases Co k with ⟨hk,h⟩ | ⟨hk,h⟩ | ⟨hk,h⟩ | ⟨hk,h⟩ | ⟨hk,h⟩
 ·subst hk;rw[h,kB,mh,fnB]at hlk;clear h
  go_wp2_with fail
  rw[hlk]
  go_wp2_with fail
  refine(oL v _).mono ?_;rintro e w2 ⟨rfl,hb⟩;have HB2:=aa (HB.out.trans (hb.mono HB.out.size));clear hb hlk
  go_wp2
  go_ret2
  exact⟨by rfl,HB2.out⟩
 ·subst hk;rw[h,kB,mh,fnB]at hlk;clear h
  go_wp2_with fail
  rw[hlk]
  go_wp2_with fail
  refine(oL v _).mono ?_;rintro e w2 ⟨rfl,hb⟩;have HB2:=aa (HB.out.trans (hb.mono HB.out.size));clear hb hlk
  go_wp2
  go_ret2
  exact⟨by rfl,HB2.out⟩
 ·subst hk;rw[h,kB,mh,fnB]at hlk;clear h
  go_wp2_with fail
  rw[hlk]
  go_wp2_with fail
  refine(vi v _).mono ?_;rintro e w2 ⟨rfl,hb⟩;have HB2:=aa (HB.out.trans (hb.mono HB.out.size));clear hb hlk
  go_wp2
  go_ret2
  exact⟨by unfold fO qH;by_cases h5:v=5<;>simp[h5],HB2.out⟩
 ·subst hk;rw[h,kB,mh,fnB]at hlk;clear h
  go_wp2_with fail
  rw[hlk]
  go_wp2_with fail
  refine(vi v _).mono ?_;rintro e w2 ⟨rfl,hb⟩;have HB2:=aa (HB.out.trans (hb.mono HB.out.size));clear hb hlk
  go_wp2
  go_ret2
  exact⟨by unfold fO qH;by_cases h5:v=5<;>simp[h5],HB2.out⟩
 ·have h1:qH k=false:=ah hk;have h2:fO v k=false:=ah (fun x=>hk (by omega));rw[h,Option.getD_none,Option.isSome_none]at hlk;clear h hk
  go_wp2_with fail
  rw[hlk]
  go_wp2
  go_ret2
  exact⟨by rw[h1,h2];rfl,HB.out⟩
theorem nk (v k:Int) (w:World):Calls Tryz.prog 255 #[.int .i64 v,.int .i64 k] w fun e w'=>e= .returned (.int .i64 (jR v k))∧Below w.heap.size w w':=by
 go_enter Tryz.func255,Tryz.ntmps255
 go_wp2_with fail
 refine(pQ v k _).mono ?_;rintro e w1 ⟨rfl,hb⟩;have HB:=aa hb;clear hb
 have HE:Hid (jR v k=if qH k=false∨¬(v=4∨v=5)then 2 else if k=15∧v=4 then 8 else 0):=aa rfl;cases hi:qH k
 ·have HX:Hid (jR v k=2):=aa (by rw[HE.out,if_pos (.inl hi)]);clear hi
  go_wp2
  go_ret
  exact⟨by rw[HX.out];rfl,HB.out⟩
 ·by_cases h4:v=4
  ·have e4:(v !=4)=false:=by simpa using h4
   have e4':(v==4)=true:=aK.2 h4
   by_cases h15:k=15
   ·have HX:Hid (jR v k=8):=aa (by rw[HE.out,ae (fun x=>x.elim (fun y=>by rw[hi]at y;cases y) (fun y=>y (.inl h4))),if_pos ⟨h15,h4⟩]);have e15:(k==15)=true:=aK.2 h15;clear h4 h15 hi
    go_wp2
    go_ret
    exact⟨by rw[HX.out];rfl,HB.out⟩
   ·have HX:Hid (jR v k=0):=aa (by rw[HE.out,ae (fun x=>x.elim (fun y=>by rw[hi]at y;cases y) (fun y=>y (.inl h4))),ae (fun x=>h15 x.1)]);have e15:(k==15)=false:=ar.2 h15;clear h4 h15 hi
    go_wp2
    go_ret
    exact⟨by rw[HX.out];rfl,HB.out⟩
  ·have e4:(v !=4)=true:=aA.2 h4;have e4':(v==4)=false:=ar.2 h4
   by_cases h5:v=5
   ·have e5:(v !=5)=false:=by simpa using h5
    have HX:Hid (jR v k=0):=aa (by rw[HE.out,ae (fun x=>x.elim (fun y=>by rw[hi]at y;cases y) (fun y=>y (.inr h5))),ae (fun x=>h4 x.2)]);clear h4 h5 hi
    by_cases h15:k=15
    ·have e15:(k==15)=true:=aK.2 h15;clear h15
     go_wp2
     go_ret
     exact⟨by rw[HX.out];rfl,HB.out⟩
    ·have e15:(k==15)=false:=ar.2 h15;clear h15
     go_wp2
     go_ret
     exact⟨by rw[HX.out];rfl,HB.out⟩
   ·have e5:(v !=5)=true:=aA.2 h5;have HX:Hid (jR v k=2):=aa (by rw[HE.out,if_pos (.inr (fun x=>x.elim h4 h5))]);clear h4 h5 hi
    go_wp2
    go_ret
    exact⟨by rw[HX.out];rfl,HB.out⟩
def tL (r:Int×List Pr×Int) (w:World) (e:Ending) (w':World):Prop:=∃A c,e= .returned (.tuple #[.int .i64 r.1,.slice A r.2.1.length c,.int .i64 r.2.2])∧r.2.1.length≤c∧Rd w' w'.heap.size 4 A r.2.1.length (prs r.2.1)∧Below w.heap.size w w'
theorem iP {r:Int×List Pr×Int} {x y:Int} {w w':World} (h:r=(x,[],y)) (hb:Below w.heap.size w w'):tL r w (.returned (.tuple #[.int .i64 x,.slice none 0 0,.int .i64 y])) w':=by
 subst h;exact⟨none,0,rfl,ac _,Rd.nil _ _ _ _,hb⟩
theorem wg {r:Int×List Pr×Int} {x:Int} {l:List Pr} {A:Option Addr} {c:Nat} {w w':World} (h:r=(x,l,0)) (hc:l.length≤c) (hr:Rd w' w'.heap.size 4 A l.length (prs l)) (hb:Below w.heap.size w w'):tL r w (.returned (.tuple #[.int .i64 x,.slice A l.length c,.int .i64 0])) w':=by
 subst h;exact⟨A,c,rfl,hc,hr,hb⟩
theorem FA (t:ByteArray) (a:Nat) (h:a<t.size):br t a 0 1=t[a].toNat:=by
 have h1:=sc (t:=t) (a:=a) (k:=1) (x:=[t[a]]) (rest:=(ls t).drop (a+1)) (by
  rw[bQ (show a<(ls t).length by rw[aN];exact h),uY t a h];rfl) rfl (by omega)
 rw[show((1:Int))=((1:Nat):Int)from rfl,h1];simp[es]
theorem sr (s:ByteArray):s.toList.isEmpty=decide (s.size=0):=by
 cases hz:s.toList.isEmpty
 ·exact(ah (fun x=>by
   have:s=⟨#[]⟩:=eX (by rw[show ls (⟨#[]⟩:ByteArray)=[]from rfl];exact aF (by rw[aN];exact x));rw[this]at hz;exact absurd hz (by decide+kernel))).symm
 ·exact(au (mL hz)).symm
theorem AQ (k:Int) (s:ByteArray) (w:World) (hs:s.size≤140737488351232):
  Calls Tryz.prog 257 #[.int .i64 k,.string s] w (tL (iO k s) w):=by
 have HE:Hid (iO k s=if pK k s≠0 then(0,[],pK k s)else((dg k s 0).1,(dg k s 0).2.1,0)):=aa rfl;have HT:Hid (pK k s=if(dg k s 0).2.2.2≠0 then(dg k s 0).2.2.2 else if(dg k s 0).2.2.1<s.size then 5 else 0):=aa rfl;have hem:=sr s
 by_cases h0:s.size=0
 ·have hr:dg k s 0=(0,[],0,0):=by unfold dg;rw[if_pos (by omega)]
  have HX:Hid (iO k s=(0,[],0)):=aa (by rw[HE.out,HT.out,hr];simp[h0]);rw[au h0]at hem;clear h0 hr hs
  go_enter Tryz.func257,Tryz.ntmps257
  go_wp2
  go_ret3
  exact iP HX.out (aq _ _)
 rw[ah h0]at hem;have i1:(0:Int)<(s.size:Int):=by omega
 have h00:0<s.size:=by omega
 have HN:=aa (FA s 0 h00);obtain⟨d,hd⟩:∃d:UInt8,s[0]'h00=d:=⟨_,rfl⟩;rw[hd]at HN;have hb0:IntKind.i64.wrap (d.toNat:Int)=(d.toNat:Int):=by rw[aQ];have:=d.toNat_lt;omega
 by_cases h1:s.size=1
 ·have hr:dg k s 0=(((d.toNat:Nat):Int),[],1,if d.toNat=0 then 5 else 0):=by unfold dg;rw[ae (by omega),if_pos (by omega),HN.out]
  have z1:((s.size:Int)==1)=true:=aK.2 (by omega)
  by_cases hq:d.toNat=0
  ·have HX:Hid (iO k s=(0,[],5)):=aa (by rw[HE.out,HT.out,hr];simp[hq]);have z2:((d.toNat:Int)==0)=true:=aK.2 (by omega);clear h0 hr hs h1 hq HN
   go_enter Tryz.func257,Tryz.ntmps257
   go_wp2
   go_ret3
   exact iP HX.out (aq _ _)
  ·have HX:Hid (iO k s=((d.toNat:Int),[],0)):=aa (by rw[HE.out,HT.out,hr];simp[hq,h1]);have z2:((d.toNat:Int)==0)=false:=ar.2 (by omega);clear h0 hr hs h1 hq HN
   go_enter Tryz.func257,Tryz.ntmps257
   go_wp2
   go_ret3
   exact iP HX.out (aq _ _)
 ·have hr:dg k s 0=(((d.toNat:Nat):Int),(aZ k (s.extract 1 s.size)).1,1+(aZ k (s.extract 1 s.size)).2.1,
   if(aZ k (s.extract 1 s.size)).2.2≠0 then(aZ k (s.extract 1 s.size)).2.2 else if(aZ k (s.extract 1 s.size)).1.length=0 then 5 else 0):=by unfold dg;rw[ae (by omega),ae (by omega),HN.out,bV]
  have z1:((s.size:Int)==1)=false:=ar.2 (by omega);have i2:(1:Int)≤(s.size:Int):=by omega
  have HZ:Hid ((s.extract 1 s.size).size≤140737488351232):=aa (by rw[lk];omega);have HRR:=aa hr;have HS:=aa hs;have HLB:Hid ((aZ k (s.extract 1 s.size)).2.2=0→(aZ k (s.extract 1 s.size)).2.1≤(s.extract 1 s.size).size):=aa fun h0=>
   (fd (kind:=k) (s:=s.extract 1 s.size) (l:=(aZ k (s.extract 1 s.size)).1) (n:=(aZ k (s.extract 1 s.size)).2.1) (by rw[←h0])).2.2
  clear h0 hr hs h1 HN
  go_enter Tryz.func257,Tryz.ntmps257
  go_wp2_with fail
  refine(kl k (s.extract 1 s.size) _ HZ.out).mono ?_;rintro e w1 ⟨A,c,rfl,hcap,hrd,hb⟩;have HB:=aa hb;have HCAP:=aa hcap;have HRD:=aa hrd
  clear hb hcap hrd;generalize aZ k (s.extract 1 s.size)=R at*;obtain⟨l,n,x⟩:=R;simp only at HRR HCAP HRD HLB⊢
  by_cases hx:x=0
  ·subst hx;have hn1:=HLB.out rfl;have hwn:IntKind.i64.wrap (1+(n:Int))=1+(n:Int):=by rw[aQ];have:=HZ.out;omega
   by_cases hl:l.length=0
   ·have z2:((l.length:Int)==0)=true:=aK.2 (by omega);have HX:Hid (iO k s=(0,[],5)):=aa (by rw[HE.out,HT.out,HRR.out];simp[hl]);clear hl
    go_wp2
    go_ret3
    exact iP HX.out HB.out
   ·have z2:((l.length:Int)==0)=false:=ar.2 (by omega)
    by_cases hlt:1+n<s.size
    ·have HX:Hid (iO k s=(0,[],5)):=aa (by rw[HE.out,HT.out,HRR.out];simp[hl,hlt]);have d3:1+(n:Int)<(s.size:Int):=by omega
     clear hl hlt
     go_wp2
     go_ret3
     exact iP HX.out HB.out
    ·have HX:Hid (iO k s=((d.toNat:Int),l,0)):=aa (by rw[HE.out,HT.out,HRR.out];simp[hl,hlt]);have d3:(s.size:Int)≤1+(n:Int):=by omega
     clear hl hlt
     go_wp2
     go_ret3
     exact wg HX.out HCAP.out HRD.out HB.out
  ·have e0:(x !=0)=true:=aA.2 hx;have HX:Hid (iO k s=(0,[],x)):=aa (by rw[HE.out,HT.out,HRR.out];simp[hx]);clear hx
   go_wp2
   go_ret3
   exact iP HX.out HB.out
end Go.Proofs.YtpcleamaieaefaaGreatDoor
namespace Go.Proofs.YtpcleamaieaefaaGreatDoor
open Go.RowKit
attribute [local go_sem ↓] bD bF bH bI bu
attribute [local go_sem] bc aD bh bg bK bJ bd aY be aO ax cI dC dB dt dj di dA dr dp dn bW co bO bZ bX cz cy cw cu ct cC cn bS bP bR
theorem yP (k:Int):({pk0 with kind:=k}:Pk)=aP k 0 0 []:=rfl
theorem EP {w:World} {B:Nat} {p:Pk} {h:Hs} (x:PkIn w B p h):PkIn w B (aP p.kind 0 p.code p.props) (vU h):=⟨Rd.nil _ _ _ _,Rd.nil _ _ _ _,Rd.nil _ _ _ _,x.props,ag _,ag _,ag _,x.caps.2.2.2⟩
theorem Df {p:Pk} (x:gz p):gz (aP p.kind 0 p.code p.props):=⟨ag _,ag _,ag _,x.2.2.2⟩
theorem vH {w:World} {g:Nat} {k c:Int} {l:List Pr} {A:Option Addr} {n:Nat} (h:Bk w g PkT (pkC (aP k 0 0 []) hs0)):Bk ((w.setCell ⟨g,21,none⟩ (.int .i64 c)).setCell ⟨g,24,none⟩ (.slice A l.length n)) g PkT (pkC (aP k 0 c l) {hs0 with props:=⟨A,n⟩}):=
 (h.upd 21 _ (td k 0 0 c [] hs0)).upd 24 _ (uT k 0 c [] l A n hs0)
theorem St.conQ {w x:World} {g0 g:Nat} {p:Pk} {h:Hs} (s:St w [(g0,p,h),(g,aP p.kind 0 0 [],hs0)] x) (ip:PkIn w w.heap.size p h) (hne:g0≠g):
  St w [(g0,p,h),(g,aP p.kind 0 p.code p.props,vU h)] ((x.setCell ⟨g,21,none⟩ (.int .i64 p.code)).setCell ⟨g,24,none⟩ (.slice h.props.a p.props.length h.props.c)):=by
 have hg:=(s.pks 1 g _ _ rfl).1;have hm:=(cP x g 21 (.int .i64 p.code)).trans (cP _ g 24 (.slice h.props.a p.props.length h.props.c));have hk:Below w.heap.size w ((x.setCell ⟨g,21,none⟩ (.int .i64 p.code)).setCell ⟨g,24,none⟩ (.slice h.props.a p.props.length h.props.c)):=dw s.kept hm s.kept.size hg;refine⟨hk,fun i g' q k e=>?_⟩;rcases i with _| _| i
 ·simp only[aB,aX,bG]at e;obtain⟨rfl,rfl,rfl⟩:=e;exact⟨(s.pks 0 g0 p h rfl).1,((s.bk 0 rfl).other hne _).other hne _,(ip.below hk).wider hk.size⟩
 ·simp only[aE,aB,aX,bG]at e;obtain⟨rfl,rfl,rfl⟩:=e;exact⟨hg,vH (s.bk 1 rfl),EP ((ip.below hk).wider hk.size)⟩
 ·simp at e
theorem nj (v:Int) (p:Pk) (h:Hs) (w:World) (ip:PkIn w w.heap.size p h) (ok:PkOk p):
  Calls Tryz.prog 253 #[.int .i64 v,pkV p h] w fun e w'=>e= .returned (.int .i64 (fH v p))∧Below w.heap.size w w':=by
 have OK:=aa ok;have IP:=aa ip;have S0:=aa ((St.start w).push ip);have HE:Hid (fH v p=if jR v p.kind≠0 then jR v p.kind else if fO v p.kind=true∧may p.kind p.code=false then 2 else if p≠conQ v p then 2 else(aM p.kind p.props).2):=aa rfl;clear ip ok
 go_enter Tryz.func253,Tryz.ntmps253
 go_wp2_with fail
 refine(nk v p.kind _).mono ?_;rintro e w1 ⟨rfl,hb⟩;have S1:=aa (S0.out.below hb);clear hb
 by_cases hk:jR v p.kind=0
 rotate_left
 ·have HX:Hid (fH v p=jR v p.kind):=aa (by rw[HE.out,if_pos hk]);have e0:(jR v p.kind !=0)=true:=aA.2 hk;clear hk
  go_wp2
  go_ret
  exact⟨by rw[HX.out];rfl,S1.out.kept⟩
 have HE1:Hid (fH v p=if fO v p.kind=true∧may p.kind p.code=false then 2 else if p≠conQ v p then 2 else(aM p.kind p.props).2):=aa (by rw[HE.out,ae (fun x=>x hk)]);rw[hk];clear hk;have k1:=S1.out.cell 0 rfl 0;rw[cI]at k1;have S2:Hid (St w [(w.heap.size,p,h),(w1.heap.size,aP p.kind 0 0 [],hs0)] (w1.alloc (.cells (pkC (aP p.kind 0 0 []) hs0) PkT))):=aa (S1.out.push (PkIn.R1 (Rd.nil _ _ _ _) (ag _) _ _ _));have k2:(w1.alloc (.cells (pkC {pk0 with kind:=p.kind} hs0) PkT)).cell? ⟨w.heap.size,0,none⟩=some (.int .i64 p.kind):=(S2.out.cell 0 rfl 0).trans (cI _ _)
 go_wp2_with fail
 rw[yP];refine(pQ v p.kind _).mono ?_;rintro e w2 ⟨rfl,hb⟩;have S3:=aa (S2.out.below hb);clear hb k1 k2
 cases hm:fO v p.kind
 ·have HQ:Hid (conQ v p=aP p.kind 0 0 []):=aa (by unfold conQ;rw[ae (by rw[hm];decide)]);have HE2:Hid (fH v p=if p≠aP p.kind 0 0 []then 2 else(aM p.kind p.props).2):=aa (by rw[HE1.out,ae (fun x=>by rw[hm]at x;cases x.1),HQ.out]);have hl0:=S3.out.ld 0 rfl;have hl1:=S3.out.ld 1 rfl;clear hm
  go_wp2_with fail
  refine(jE p (aP p.kind 0 0 []) h hs0 _ (S3.out.into 0 rfl) (S3.out.into 1 rfl) OK.out.len ⟨ag _,ag _,ag _,ag _⟩).mono ?_;rintro e w3 ⟨rfl,hb⟩;have S4:=aa (S3.out.below hb);clear hb hl0 hl1
  by_cases hs:p=aP p.kind 0 0 []
  ·rw[au hs];have HX:Hid (fH v p=(aM p.kind p.props).2):=aa (by rw[HE2.out,ae (fun x=>x hs)]);have k4:=S4.out.cell 0 rfl 0;rw[cI]at k4;have k5:=S4.out.cell 0 rfl 24;rw[bR]at k5;clear hs
   go_wp2_with fail
   refine(gu p.kind p.props _ rfl OK.out.props h.props.a h.props.c _ (S4.out.into 0 rfl).props OK.out.len.2.2.2).mono ?_;rintro e w4 ⟨rfl,hb⟩;have S5:=aa (S4.out.below hb);clear hb k4 k5
   go_wp2
   go_ret
   exact⟨by rw[HX.out];rfl,S5.out.kept⟩
  ·rw[ah hs];have HX:Hid (fH v p=2):=aa (by rw[HE2.out,if_pos hs]);clear hs
   go_wp2
   go_ret
   exact⟨by rw[HX.out];rfl,S4.out.kept⟩
 ·have HQ:Hid (conQ v p=aP p.kind 0 p.code p.props):=aa (by unfold conQ;rw[if_pos hm]);have HE2:Hid (fH v p=if may p.kind p.code=false then 2 else if p≠aP p.kind 0 p.code p.props then 2 else(aM p.kind p.props).2):=aa (by rw[HE1.out,HQ.out,hm];simp);have k3:=S3.out.cell 0 rfl 0;rw[cI]at k3;have k4:=S3.out.cell 0 rfl 21;rw[cn]at k4;clear hm
  go_wp2_with fail
  refine(m7 p.kind p.code _).mono ?_;rintro e w3 ⟨rfl,hb⟩;have S4:=aa (S3.out.below hb);clear hb k3 k4
  cases hy:may p.kind p.code
  ·have HX:Hid (fH v p=2):=aa (by rw[HE2.out,if_pos hy]);clear hy
   go_wp2
   go_ret
   exact⟨by rw[HX.out];rfl,S4.out.kept⟩
  have HE3:Hid (fH v p=if p≠aP p.kind 0 p.code p.props then 2 else(aM p.kind p.props).2):=aa (by rw[HE2.out,ae (by rw[hy];decide)]);have k4:=S4.out.cell 0 rfl 21;rw[cn]at k4;have k5:=S4.out.cell 0 rfl 24;rw[bR]at k5;have j4:w3.cell? ⟨w1.heap.size,21,none⟩=some (.int .i64 0):=S4.out.cell 1 rfl 21;have j5:w3.cell? ⟨w1.heap.size,24,none⟩=some (.slice none 0 0):=S4.out.cell 1 rfl 24;have f4:=(S4.out.bk 1 rfl).free 21;have f5:=(S4.out.bk 1 rfl).free 24;have hne:(w.heap.size==w1.heap.size)=false:=ar.2 (by have:=S1.out.kept.size;have:=(S1.out.bk 0 rfl).lt;omega);clear hy
  go_wp2_with fail
  go_region
  have S5:=aa ((S4.out.conQ IP.out (by simpa using hne)).drew);have hl0:=S5.out.ld 0 rfl;have hl1:=S5.out.ld 1 rfl;clear k4 k5 j4 j5 f4 f5 hne;generalize ((w3.setCell ⟨w1.heap.size,21,none⟩ (.int .i64 p.code)).setCell ⟨w1.heap.size,24,none⟩ (.slice h.props.a p.props.length h.props.c)).drew=w5 at*
  go_wp2_with fail
  refine(jE p (aP p.kind 0 p.code p.props) h (vU h) _ (S5.out.into 0 rfl) (S5.out.into 1 rfl) OK.out.len (Df OK.out.len)).mono ?_;rintro e w6 ⟨rfl,hb⟩;have S6:=aa (S5.out.below hb);clear hb hl0 hl1
  by_cases hs:p=aP p.kind 0 p.code p.props
  ·rw[au hs];have HX:Hid (fH v p=(aM p.kind p.props).2):=aa (by rw[HE3.out,ae (fun x=>x hs)]);have k6:=S6.out.cell 0 rfl 0;rw[cI]at k6;have k7:=S6.out.cell 0 rfl 24;rw[bR]at k7;clear hs
   go_wp2_with fail
   refine(gu p.kind p.props _ rfl OK.out.props h.props.a h.props.c _ (S6.out.into 0 rfl).props OK.out.len.2.2.2).mono ?_;rintro e w7 ⟨rfl,hb⟩;have S7:=aa (S6.out.below hb);clear hb k6 k7
   go_wp2
   go_ret
   exact⟨by rw[HX.out];rfl,S7.out.kept⟩
  ·rw[ah hs];have HX:Hid (fH v p=2):=aa (by rw[HE3.out,if_pos hs]);clear hs
   go_wp2
   go_ret
   exact⟨by rw[HX.out];rfl,S6.out.kept⟩
end Go.Proofs.YtpcleamaieaefaaGreatDoor
