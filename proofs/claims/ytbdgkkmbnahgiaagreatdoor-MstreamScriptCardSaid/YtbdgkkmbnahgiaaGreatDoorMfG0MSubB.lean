/- A part of what the laws stand on: MSubB, SubM, Rtc, MSubP, SubD, SubE, OwnK. -/
import Derived.Test.YtbdgkkmbnahgiaaGreatDoorMfG0OrdD
import Derived.Lib.ConvBytes
import Derived.Laws.IdiomCopy
import Derived.Test.YtbdgkkmbnahgiaaGreatDoorMfG0PubK
import Derived.Deep.RegionLaw
set_option maxRecDepth 10000
set_option maxHeartbeats 8000000
namespace Go.Proofs.YtbdgkkmbnahgiaaGreatDoor
open Go.RowKit Go.Proofs.Tryz
section
attribute [local go_sem ↓] bD bF bH bI bu
attribute [local go_sem] bc aD bh bg bK bJ bd aY be aO ax cI dC dB dt dj di dA dr dp dn bW co bO bZ bX cz cy cw cu ct cC cn bS bP bR
attribute [local go_sem ↓high] bu sD sE
attribute [local go_sem ↓] wh
attribute [local go_sem] Cv BD mX uw pU sO ta yp s9 yo sZ yn sV ym sU yl sT yk sS yj sR yi sQ yh sP yg pC uI pB uH pA uG py uF pu uE pr uC pq uB pp uA po uz pm uy pj ux sY pX sX pW sW pV
theorem oI(v k:Int)(w:World):Calls prog 59 #[.int .i64 v,.int .i64 k] w fun e w'=>e= .returned (.bool (ir v k))/\w=w':=by
 go_enter func59,ntmps59;go_wp2
 all_goals
  go_ret;refine⟨eT ?_,rfl⟩;unfold ir
  by_cases h4:v=4<;>by_cases h5:v=5<;>simp_all<;>omega
theorem nK(k:Int)(w:World):Calls prog 72 #[.int .i64 k] w fun e w'=>e= .returned (.bool (jm k))/\w=w':=by
 go_enter func72,ntmps72;go_wp2
 all_goals
  go_ret;refine⟨eT ?_,rfl⟩;unfold jm
  by_cases h4:k=8<;>by_cases h5:k=10<;>simp_all
theorem zi(v k:Int)(w:World):Calls prog 73 #[.int .i64 v,.int .i64 k] w fun e w'=>e= .returned (.bool (pP v k))/\w=w':=by
 go_enter func73,ntmps73;go_wp2
 all_goals
  go_ret;refine⟨eT ?_,rfl⟩;unfold pP
  by_cases h4:k=11<;>by_cases h5:v=4<;>simp_all
theorem nJ(n:Int)(w:World):Calls prog 121 #[.int .i64 n] w fun e w'=>e= .returned (.bool (jZ n))/\w=w':=by
 go_enter func121,ntmps121;go_wp2
 all_goals
  go_ret;refine⟨eT ?_,rfl⟩;unfold jZ
  by_cases h4:0<=n<;>by_cases h5:n<3<;>simp_all<;>omega
theorem Dx(v k c:Int)(w:World):Calls prog 78 #[.int .i64 v,.int .i64 k,.int .i64 c] w fun e w'=>e= .returned (.bool (xF v k c))/\Below w.heap.size w w':=by
 by_cases h4:v=4
 ·have e4:(v==4)=true:=aK.2 h4;have HX:Hid (xF v k c=tq c):=aa (if_pos h4);clear h4;go_enter func78,ntmps78
  go_wp2_with fail
  refine(Af c _).mono ?_;rintro e w1 ⟨rfl,hb⟩;have HB:=aa hb;clear hb
  go_wp2;go_ret;exact⟨by rw[HX.o];rfl,by first| exact HB.o| exact HB.o▸aq _ _⟩
 ·have e4:(v==4)=false:=ar.2 h4;have HX:Hid (xF v k c=may k c):=aa (ae h4);clear h4;go_enter func78,ntmps78
  go_wp2_with fail
  refine(m7 k c _).mono ?_;rintro e w1 ⟨rfl,hb⟩;have HB:=aa hb;clear hb
  go_wp2;go_ret;exact⟨by rw[HX.o];rfl,by first| exact HB.o| exact HB.o▸aq _ _⟩
def sbH(v:Int)(p:Pk)(h:Hs):Hs:=
 if jm p.kind=true then {hs0 with props:=h.props,filters:=h.filters}else if pP v p.kind=true then {hs0 with props:=h.props}else {hs0 with props:=h.props,codes:=h.codes}
theorem DN(v:Int){p:Pk}(x:gz p):gz (sbQ v p):=by
 unfold sbQ;split
 ·exact⟨ag _,ag _,x.2.2.1,x.2.2.2⟩
 ·split
  ·exact⟨ag _,ag _,ag _,x.2.2.2⟩
  ·exact⟨ag _,x.2.1,ag _,x.2.2.2⟩
theorem Fp(v:Int){w:World}{B:Nat}{p:Pk}{h:Hs}(x:PkIn w B p h):PkIn w B (sbQ v p) (sbH v p h):=by
 unfold sbQ sbH;split
 ·exact⟨Rd.nil _ _ _ _,Rd.nil _ _ _ _,x.filters,x.props,ag _,ag _,x.caps.2.2.1,x.caps.2.2.2⟩
 ·split
  ·exact⟨Rd.nil _ _ _ _,Rd.nil _ _ _ _,Rd.nil _ _ _ _,x.props,ag _,ag _,ag _,x.caps.2.2.2⟩
  ·exact⟨Rd.nil _ _ _ _,x.codes,Rd.nil _ _ _ _,x.props,ag _,x.caps.2.1,ag _,x.caps.2.2.2⟩
theorem wu(k i:Int)(l:List Pr)(A:Option Addr)(n:Nat)(w:World):(qP #[(0,.int .i64 k),(4,.int .i64 i),(20,.slice A l.length n)]).run prog w= .ok (pkV {pk0 with kind:=k,id:=i,props:=l} {hs0 with props:=⟨A,n⟩}) w:=by kernel_rfl
theorem sK(v:Int)(p:Pk)(h:Hs)(Q:Pk)(H:Hs)(x:World)(hq:sbQ v p=Q)(hh:sbH v p h=H)(hi:PkIn x x.heap.size p h)(hn:gz p):
  Calls prog 117 #[pkV p h,pkV Q H] x fun e y=>e= .returned (.bool (decide (p=sbQ v p)))/\Below x.heap.size x y:=by
 subst hq hh;exact jE p (sbQ v p) h (sbH v p h) x hi (Fp v hi) hn (DN v hn)
theorem sJ(v:Int)(p:Pk)(h:Hs)(w:World)(ip:PkIn w w.heap.size p h)(ok:PkOk p):
  Calls prog 74 #[.int .i64 v,pkV p h] w fun e w'=>e= .returned (.bool (eH v p))/\Below w.heap.size w w':=by
 have OK:=aa ok;have IP:=aa ip;have HE:Hid (eH v p=(!(decide (p.id<1) || (decide (65535<p.id) || (decide (v=4)&&decide (0<p.props.length))))&&(lj v p&&decide (p=sbQ v p)))):=aa rfl;have HH:Hid (lj v p=if jm p.kind=true then decide (0<p.filters.length)else if pP v p.kind=true then true else decide (0<p.codes.length)):=aa rfl;have HB0:=aa ((aq w.heap.size w).alloc (ac _) (.cells (pkC p h) PkT));have B1:=Bk.fresh w PkT (pkC p h);have k0:=(B1.cell 0).trans (cI _ _);have k4:=(B1.cell 4).trans (dj _ _);have k18:=(B1.cell 22).trans (bS _ _);have k19:=(B1.cell 23).trans (bP _ _);have k20:=(B1.cell 24).trans (bR _ _)
 obtain⟨W,hW,hst⟩:=mF w p {pk0 with kind:=p.kind,id:=p.id,props:=p.props} h {hs0 with props:=⟨h.props.a,h.props.c⟩};have HW:=aa hW;have hlt:=hW.lt;have j0:=fun cs=>(hW.bk_pw cs).cell;have hl0:∀cs,(kZ (.pointer (some ⟨w.heap.size,0,none⟩))).run prog (pw W (w.heap.size+1) cs)= .ok (pkV p h) (pw W (w.heap.size+1) cs):=fun cs=>cf (hW.bk_pw cs);have hbd:=wu p.kind p.id p.props h.props.a h.props.c;have HQI:Hid (∀x,Below w.heap.size w x->PkIn x x.heap.size p h):=aa fun x hx=>(IP.o.below hx).wider hx.size;clear ip ok hW B1;go_enter func74,ntmps74
 by_cases h1:p.id<1
 ·have HX:Hid (eH v p=false):=aa (by rw[HE.o,au h1];rfl);go_wp2;go_ret;exact⟨by rw[HX.o];rfl,HB0.o⟩
 by_cases h2:65535<p.id
 ·have HX:Hid (eH v p=false):=aa (by rw[HE.o,au h2,Bool.true_or,Bool.or_true];rfl);go_wp2;go_ret;exact⟨by rw[HX.o];rfl,HB0.o⟩
 have HE1:=HE.o;rw[ah h1,ah h2,nB,nB]at HE1
 replace HE1:=aa HE1
 have key:∀(_:decide (v=4)=false\/decide (0<p.props.length)=false),eH v p=(lj v p&&decide (p=sbQ v p)):=by
  intro hh;rw[HE1.o];rcases hh with hh| hh
  ·rw[hh,bj,Bool.not_false,aL]
  ·rw[hh,ru,Bool.not_false,aL]
 have KEY:=aa key;clear key HE
 by_cases h4:v=4/\0<p.props.length
 ·have HX:Hid (eH v p=false):=aa (by rw[HE1.o,au h4.1,au h4.2];rfl);have e4:(v==4)=true:=aK.2 h4.1;have d4:(0:Int)<(p.props.length:Int):=by have:=h4.2;omega
  clear h4;go_wp2;go_ret;exact⟨by rw[HX.o];rfl,HB0.o⟩
 have HE2:Hid (eH v p=(lj v p&&decide (p=sbQ v p))):=aa (KEY.o (by
  by_cases a:v=4
  ·exact .inr (ah fun b=>h4 ⟨a,b⟩)
  ·exact .inl (ah a)))
 have tail:∀(b4:Bool) (_:(v==4)=b4) (_:b4=true->(p.props.length:Int)<=0),True:=fun _ _ _=>trivial;clear tail KEY HE1;have main:(v==4)=false\/((v==4)=true/\¬(0:Int)<(p.props.length:Int)):=by
  by_cases a:v=4
  ·exact .inr ⟨aK.2 a,fun b=>h4 ⟨a,by omega⟩⟩
  ·exact .inl (ar.2 a)
 clear h4;have HAS:=aa (nK p.kind);rcases main with e4| ⟨e4,d4⟩
 all_goals
  go_wp2_with fail
  refine(nK p.kind _).mono ?_;rintro e w1 ⟨rfl,hw1⟩;subst hw1;cases ha:jm p.kind;rotate_left
  ·have HHX:Hid (lj v p=decide (0<p.filters.length)):=aa (by rw[HH.o,if_pos ha]);have HQ:Hid (sbQ v p= {pk0 with kind:=p.kind,id:=p.id,props:=p.props,filters:=p.filters}):=aa (by unfold sbQ;rw[if_pos ha]);have HHS:Hid (sbH v p h= {hs0 with props:=h.props,filters:=h.filters}):=aa (by unfold sbH;rw[if_pos ha]);clear ha
   by_cases hn:0<p.filters.length
   ·have d5:(0:Int)<(p.filters.length:Int):=by omega
    have HX:Hid (eH v p=decide (p=sbQ v p)):=aa (by rw[HE2.o,HHX.o,au hn,aL]);clear hn
    go_wp2_with fail
    refine(sK v p h _ _ _ (HQ.o.trans rfl) (HHS.o.trans rfl) (HQI.o _ (HW.o.kept _)) OK.o.len).mono ?_;rintro e w1 ⟨rfl,hb⟩;have HB:=aa ((HW.o.kept _).trans (hb.mono (HW.o.kept _).size));clear hb
    go_wp2;go_ret;exact⟨by rw[HX.o];rfl,HB.o⟩
   ·have d5:¬(0:Int)<(p.filters.length:Int):=by omega
    have HX:Hid (eH v p=false):=aa (by rw[HE2.o,HHX.o,ah hn,bj]);clear hn;go_wp2;go_ret;exact⟨by rw[HX.o];rfl,HW.o.kept _⟩
  ·go_wp2_with fail
   refine(zi v p.kind _).mono ?_;rintro e w1 ⟨rfl,hw1⟩;subst hw1;cases hsil:pP v p.kind;rotate_left
   ·have HHX:Hid (lj v p=true):=aa (by rw[HH.o,ae (by rw[ha];decide),if_pos hsil]);have HQ:Hid (sbQ v p= {pk0 with kind:=p.kind,id:=p.id,props:=p.props}):=aa (by unfold sbQ;rw[ae (by rw[ha];decide),if_pos hsil]);have HHS:Hid (sbH v p h= {hs0 with props:=h.props}):=aa (by unfold sbH;rw[ae (by rw[ha];decide),if_pos hsil]);have HX:Hid (eH v p=decide (p=sbQ v p)):=aa (by rw[HE2.o,HHX.o,aL]);clear ha hsil
    go_wp2_with fail
    refine(sK v p h _ _ _ (HQ.o.trans rfl) (HHS.o.trans rfl) (HQI.o _ (HW.o.kept _)) OK.o.len).mono ?_;rintro e w1 ⟨rfl,hb⟩;have HB:=aa ((HW.o.kept _).trans (hb.mono (HW.o.kept _).size));clear hb
    go_wp2;go_ret;exact⟨by rw[HX.o];rfl,HB.o⟩
   ·have HHX:Hid (lj v p=decide (0<p.codes.length)):=aa (by rw[HH.o,ae (by rw[ha];decide),ae (by rw[hsil];decide)]);have HQ:Hid (sbQ v p= {pk0 with kind:=p.kind,id:=p.id,props:=p.props,codes:=p.codes}):=aa (by unfold sbQ;rw[ae (by rw[ha];decide),ae (by rw[hsil];decide)]);have HHS:Hid (sbH v p h= {hs0 with props:=h.props,codes:=h.codes}):=aa (by unfold sbH;rw[ae (by rw[ha];decide),ae (by rw[hsil];decide)]);clear ha hsil
    by_cases hn:0<p.codes.length
    ·have d5:(0:Int)<(p.codes.length:Int):=by omega
     have HX:Hid (eH v p=decide (p=sbQ v p)):=aa (by rw[HE2.o,HHX.o,au hn,aL]);clear hn
     go_wp2_with fail
     refine(sK v p h _ _ _ (HQ.o.trans rfl) (HHS.o.trans rfl) (HQI.o _ (HW.o.kept _)) OK.o.len).mono ?_;rintro e w1 ⟨rfl,hb⟩;have HB:=aa ((HW.o.kept _).trans (hb.mono (HW.o.kept _).size));clear hb
     go_wp2;go_ret;exact⟨by rw[HX.o];rfl,HB.o⟩
    ·have d5:¬(0:Int)<(p.codes.length:Int):=by omega
     have HX:Hid (eH v p=false):=aa (by rw[HE2.o,HHX.o,ah hn,bj]);clear hn;go_wp2;go_ret;exact⟨by rw[HX.o];rfl,HW.o.kept _⟩
theorem BT(v k:Int)(f:Fi)(w:World)(hs:f.topic.size<=4611686018427387904):
  Calls prog 77 #[.int .i64 v,.int .i64 k,.agg #[.string f.topic,.int .i64 f.qos,.bool f.noLocal,.bool f.asPub,.int .i64 f.handling]] w fun e w'=>e= .returned (.bool (nT v k f))/\Below w.heap.size w w':=by
 have HS:=aa hs;have HB0:=aa ((aq w.heap.size w).alloc (ac _) (.cells #[.string f.topic,.int .i64 f.qos,.bool f.noLocal,.bool f.asPub,.int .i64 f.handling] 32));have HK0:=aa (Bk.fresh w 32 #[.string f.topic,.int .i64 f.qos,.bool f.noLocal,.bool f.asPub,.int .i64 f.handling]);have HE:Hid (nT v k f=if k=10 then l9 f&&decide (f.qos=0)else if v=4 then l9 f&&jZ f.qos else jZ f.qos&&(jZ f.handling&& !(fy f.topic&&f.noLocal))):=aa rfl;have hgt:=kP;have hne:=fun W=>mJ f ⟨f.topic,f.qos,false,false,0⟩ W;have HP:Hid (l9 f=decide (f=⟨f.topic,f.qos,false,false,0⟩)):=aa rfl;rw[<-HP.o]at hne;clear HP hs;generalize l9 f=pl at*;go_enter func77,ntmps77
 by_cases hk:k=10
 ·have ek:(k==10)=true:=aK.2 hk;have HE1:Hid (nT v k f=(pl&&(f.qos==0))):=aa (by rw[HE.o,if_pos hk];rfl);clear hk;cases pl
  ·go_wp2;go_ret;exact⟨by rw[HE1.o];rfl,HB0.o⟩
  ·go_wp2;go_ret;exact⟨by rw[HE1.o];rfl,HB0.o⟩
 have ek:(k==10)=false:=ar.2 hk
 by_cases h4:v=4
 ·have e4:(v==4)=true:=aK.2 h4;have HE1:Hid (nT v k f=(pl&&jZ f.qos)):=aa (by rw[HE.o,ae hk,if_pos h4]);clear hk h4;cases pl
  ·go_wp2;go_ret;exact⟨by rw[HE1.o];rfl,HB0.o⟩
  ·go_wp2_with fail
   refine(nJ f.qos _).mono ?_;rintro e w1 ⟨rfl,hw1⟩;subst hw1;go_wp2;go_ret;exact⟨by rw[HE1.o];rfl,HB0.o⟩
 have e4:(v==4)=false:=ar.2 h4;have HE1:Hid (nT v k f=(jZ f.qos&&(jZ f.handling&& !(fy f.topic&&f.noLocal)))):=aa (by rw[HE.o,ae hk,ae h4]);clear hk h4 HE
 go_wp2_with fail
 refine(wo f.topic _ HS.o).mono ?_;rintro e w1 ⟨⟨a,b,rfl⟩,hb⟩;have HB1:=aa (HB0.o.trans (hb.mono HB0.o.size));have HK1:=aa (HK0.o.below hb HK0.o.lt);clear hb;have c1:=HK1.o.cell 1;have c2:=HK1.o.cell 2;have c4:=HK1.o.cell 4
 simp only[ay,aE,aB]at c1 c2 c4;generalize fy f.topic=sh at*
 go_wp2_with fail
 refine(nJ f.qos _).mono ?_;rintro e w2 ⟨rfl,hw2⟩;subst hw2;cases hq:jZ f.qos
 ·have HX:Hid (nT v k f=false):=aa (by rw[HE1.o,hq];rfl);clear hq;go_wp2;go_ret;exact⟨by rw[HX.o];rfl,HB1.o⟩
 have HE2:Hid (nT v k f=(jZ f.handling&& !(sh&&f.noLocal))):=aa (by rw[HE1.o,hq,aL]);clear hq
 go_wp2_with fail
 refine(nJ f.handling _).mono ?_;rintro e w2 ⟨rfl,hw2⟩;subst hw2;cases hq:jZ f.handling
 ·have HX:Hid (nT v k f=false):=aa (by rw[HE2.o,hq];rfl);clear hq;go_wp2;go_ret;exact⟨by rw[HX.o];rfl,HB1.o⟩
 have HE3:Hid (nT v k f= !(sh&&f.noLocal)):=aa (by rw[HE2.o,hq,aL]);clear hq;cases sh
 ·go_wp2;go_ret;exact⟨by rw[HE3.o];rfl,HB1.o⟩
 ·go_wp2;go_ret;exact⟨by rw[HE3.o];rfl,HB1.o⟩
end
section
attribute [local go_sem ↓] bD bF bH bI bu
attribute [local go_sem] bc aD bh bg bK bJ bd aY be aO ax cI dC dB dt dj di dA dr dp dn bW co bO bZ bX cz cy cw cu ct cC cn bS bP bR
theorem FL{v k:Int}{l:List Fi}{i:Nat}(hi:i<l.length):fiE v k (l.drop i)=if gj l[i].topic=false then 10 else if nT v k l[i]=false then 2 else fiE v k (l.drop (i+1)):=by
 rw[bQ hi];rfl
theorem F8{v k:Int}{l:List Int}{i:Nat}(hi:i<l.length):cdE v k (l.drop i)=if xF v k l[i]=false then 2 else cdE v k (l.drop (i+1)):=by
 rw[bQ hi];rfl
theorem lg(v:Int)(p:Pk)(h:Hs)(w:World)(ip:PkIn w w.heap.size p h)(ok:PkOk p):
  Calls prog 17 #[.int .i64 v,pkV p h] w fun e w'=>e= .returned (.int .i64 (sbE v p))/\Below w.heap.size w w':=by
 have OK:=aa ok;have S0:=aa ((St.start w).push ip);have HE:Hid (sbE v p=if xY v p=false then 2 else if(aM p.kind p.props).2≠0 then(aM p.kind p.props).2
  else if fiE v p.kind p.filters≠0 then fiE v p.kind p.filters else cdE v p.kind p.codes):=aa rfl
 have HA:Hid (xY v p=(ir v p.kind&&eH v p)):=aa rfl;have k0:=S0.o.cell 0 rfl;have l0:=S0.o.ld 0 rfl;clear ip ok;go_enter func17,ntmps17
 go_wp2_with fail
 refine(oI v p.kind _).mono ?_;rintro e w1 ⟨rfl,hw1⟩;subst hw1;cases hk:ir v p.kind
 ·have HX:Hid (sbE v p=2):=aa (by rw[HE.o,if_pos (by rw[HA.o,hk];rfl)]);clear hk;go_wp2;go_ret;exact⟨by rw[HX.o];rfl,S0.o.kept⟩
 have HA1:Hid (xY v p=eH v p):=aa (by rw[HA.o,hk,aL]);clear hk HA
 go_wp2_with fail
 refine(sJ v p h _ (S0.o.into 0 rfl) OK.o).mono ?_;rintro e w1 ⟨rfl,hb⟩;have S1:=aa (S0.o.below hb);clear hb k0 l0
 have k0:=S1.o.cell 0 rfl;cases hf:eH v p
 ·have HX:Hid (sbE v p=2):=aa (by rw[HE.o,if_pos (by rw[HA1.o,hf])]);clear hf;go_wp2;go_ret;exact⟨by rw[HX.o];rfl,S1.o.kept⟩
 have HE1:Hid (sbE v p=if(aM p.kind p.props).2≠0 then(aM p.kind p.props).2 else if fiE v p.kind p.filters≠0 then fiE v p.kind p.filters else cdE v p.kind p.codes):=aa (by
  rw[HE.o,ae (by rw[HA1.o,hf];decide)])
 clear hf HE HA1
 go_wp2_with fail
 refine(gu p.kind p.props _ rfl OK.o.props h.props.a h.props.c _ (S1.o.into 0 rfl).props OK.o.len.2.2.2).mono ?_;rintro e w2 ⟨rfl,hb⟩;have S2:=aa (S1.o.below hb);clear hb k0
 have k0:=S2.o.cell 0 rfl;obtain⟨x,hx⟩:∃x,(aM p.kind p.props).2=x:=⟨_,rfl⟩;rw[hx]at HE1⊢;clear hx
 by_cases hx:x=0
 rotate_left
 ·have HX:Hid (sbE v p=x):=aa (by rw[HE1.o,if_pos hx]);have e0:(x !=0)=true:=aA.2 hx;clear hx;go_wp2;go_ret;exact⟨by rw[HX.o];rfl,S2.o.kept⟩
 have HE2:Hid (sbE v p=if fiE v p.kind p.filters≠0 then fiE v p.kind p.filters else cdE v p.kind p.codes):=aa (by rw[HE1.o,ae (fun y=>y hx)]);have e0:(x !=0)=false:=by rw[hx];rfl
 have HFL:=aa OK.o.len.2.2.1;have HCL:=aa OK.o.len.2.1;clear hx HE1;obtain⟨n,hn⟩:∃n,p.filters.length=n:=⟨_,rfl⟩;obtain⟨m,hm⟩:∃m,p.codes.length=m:=⟨_,rfl⟩;have k23:=k0 23;have k22:=k0 22
 rw[bP,hn]at k23;rw[bS,hm]at k22;have kk:=(k0 0).trans (cI _ _);have HN:=aa hn;have HM:=aa hm
 have hn2:n<=4611686018427387904:=by have:=HFL.o;omega
 have hm2:m<=4611686018427387904:=by have:=HCL.o;omega
 clear hn hm k0;go_wp2
 go_loopw [32] (fun i wr=>∃k:Nat,k<=n/\i= .int .i64 k/\fiE v p.kind p.filters=fiE v p.kind (p.filters.drop k)/\Below w2.heap.size w2 wr) (fun i _=>n- (intOf i).toNat)
 case atStart=>exact⟨0,by omega,rfl,by rw[cS],aq _ _⟩
 case round=>
  obtain⟨k,hk,rfl,hfi,hbel⟩:=hrel;have S3:=aa (S2.o.below hbel);have HF:=aa hfi;have HBL:=aa hbel
  clear hfi kk k22 k23;have kk:=(S3.o.cell 0 rfl 0).trans (cI _ _);have k22:=S3.o.cell 0 rfl 22;rw[bS,HM.o]at k22
  by_cases hlt:k<n
  ·have hp:k<p.filters.length:=by rw[HN.o];exact hlt
   obtain⟨b,o,hA,hb,c0,c1,c2,c3,c4⟩:=((S3.o.into 0 rfl).filters).atF hp;have hts:=OK.o.topics p.filters[k] (iY hp);have HAT:=aa (HF.o.trans (FL (v:=v) (k:=p.kind) hp));generalize p.filters[k]=f at*;have HTS:=aa hts;have b1:(0:Int)<=(k:Int):=by omega
   have b2:(k:Int)<(n:Int):=by omega
   clear hp hts;have S4:=aa (S3.o.alloc (.cells #[.string f.topic,.int .i64 f.qos,.bool f.noLocal,.bool f.asPub,.int .i64 f.handling] 32));have HB4:=aa (HBL.o.alloc HBL.o.size (.cells #[.string f.topic,.int .i64 f.qos,.bool f.noLocal,.bool f.asPub,.int .i64 f.handling] 32));have K4:=aa (Bk.fresh wr 32 #[.string f.topic,.int .i64 f.qos,.bool f.noLocal,.bool f.asPub,.int .i64 f.handling])
   go_wp2_with fail
   refine(qB f.topic _ (by have:=HTS.o;omega)).mono ?_;rintro e w4 ⟨rfl,hb4⟩;have S5:=aa (S4.o.below hb4);have HB5:=aa (HB4.o.trans (hb4.mono HB4.o.size));have K5:=aa (K4.o.below hb4 K4.o.lt);clear hb4 kk c0 c1 c2 c3 c4;have kk:=(S5.o.cell 0 rfl 0).trans (cI _ _);cases hfl:gj f.topic
   ·have HX:Hid (sbE v p=10):=aa (by
     have e:fiE v p.kind p.filters=10:=by rw[HAT.o,if_pos hfl]
     rw[HE2.o,e,if_pos (by decide)])
    clear hfl;go_wp2;go_ret;exact⟨by rw[HX.o];rfl,S5.o.kept⟩
   have HAT2:Hid (fiE v p.kind p.filters=if nT v p.kind f=false then 2 else fiE v p.kind (p.filters.drop (k+1))):=aa (by rw[HAT.o,ae (by rw[hfl];decide)]);clear hfl;have c0:=K5.o.cell 0;have c1:=K5.o.cell 1;have c2:=K5.o.cell 2;have c3:=K5.o.cell 3;have c4:=K5.o.cell 4
   simp only[ay,aE,aB]at c0 c1 c2 c3 c4
   go_wp2_with fail
   refine(BT v p.kind f _ (by have:=HTS.o;omega)).mono ?_;rintro e w5 ⟨rfl,hb5⟩;have S6:=aa (S5.o.below hb5);have HB6:=aa (HB5.o.trans (hb5.mono HB5.o.size));clear hb5 c0 c1 c2 c3 c4 kk;cases hop:nT v p.kind f
   ·have HX:Hid (sbE v p=2):=aa (by
     have e:fiE v p.kind p.filters=2:=by rw[HAT2.o,if_pos hop]
     rw[HE2.o,e,if_pos (by decide)])
    clear hop;go_wp2;go_ret;exact⟨by rw[HX.o];rfl,S6.o.kept⟩
   have HX:Hid (fiE v p.kind p.filters=fiE v p.kind (p.filters.drop (k+1))):=aa (by rw[HAT2.o,ae (by rw[hop];decide)]);clear hop;go_wp2
   go_roundw
   case rel=>
    simp only[hA]
    (repeat apply Exists.intro)
    refine⟨?_,rfl⟩;exact⟨k+1,by omega,by go_num,HX.o,HB6.o⟩
   case measure=>simp[intOf];omega
  ·obtain rfl:k=n:=by omega
   have HX:Hid (sbE v p=cdE v p.kind p.codes):=aa (by
    have e:fiE v p.kind p.filters=0:=by rw[HF.o,<-HN.o,ox];rfl
    rw[HE2.o,e,ae (fun y=>y rfl)])
   clear HE2 HF;go_wp2
   go_loopw [50] (fun i wq=>∃k:Nat,k<=m/\i= .int .i64 k/\cdE v p.kind p.codes=cdE v p.kind (p.codes.drop k)/\Below wr.heap.size wr wq) (fun i _=>m- (intOf i).toNat)
   case atStart=>exact⟨0,by omega,rfl,by rw[cS],aq _ _⟩
   case round=>
    obtain⟨j,hj,rfl,hcd,hbq⟩:=hrel;have S4:=aa (S3.o.below hbq);have HC:=aa hcd;have HBQ:=aa hbq
    clear hcd kk k22;have kk:=(S4.o.cell 0 rfl 0).trans (cI _ _)
    by_cases hlt2:j<m
    ·have hp:j<p.codes.length:=by rw[HM.o];exact hlt2
     obtain⟨b,o,z,hA,hb,hz,hc⟩:=((S4.o.into 0 rfl).codes).atI hp;have HZ:Hid (cdE v p.kind p.codes=if xF v p.kind z=false then 2 else cdE v p.kind (p.codes.drop (j+1))):=aa (by
      rw[HC.o,F8 hp];rw[List.getElem?_eq_getElem hp]at hz;rw[Option.some.inj hz])
     have b1:(0:Int)<=(j:Int):=by omega
     have b2:(j:Int)<(m:Int):=by omega
     clear hp hz
     go_wp2_with fail
     refine(Dx v p.kind z _).mono ?_;rintro e w5 ⟨rfl,hb5⟩;have S5:=aa (S4.o.below hb5);have HB5:=aa (HBQ.o.trans (hb5.mono HBQ.o.size));clear hb5 hc kk;cases hop:xF v p.kind z
     ·have HX2:Hid (sbE v p=2):=aa (by rw[HX.o,HZ.o,if_pos hop]);clear hop;go_wp2;go_ret;exact⟨by rw[HX2.o];rfl,S5.o.kept⟩
     have HX2:Hid (cdE v p.kind p.codes=cdE v p.kind (p.codes.drop (j+1))):=aa (by rw[HZ.o,ae (by rw[hop];decide)]);clear hop;go_wp2
     go_roundw
     case rel=>
      simp only[hA]
      (repeat apply Exists.intro)
      refine⟨?_,rfl⟩;exact⟨j+1,by omega,by go_num,HX2.o,HB5.o⟩
     case measure=>simp[intOf];omega
    ·obtain rfl:j=m:=by omega
     have HX2:Hid (sbE v p=0):=aa (by rw[HX.o,HC.o,<-HM.o,ox];rfl);go_wp2;go_ret;exact⟨by rw[HX2.o];rfl,S4.o.kept⟩
end
section
section
variable {w w':World} {base:Nat} {v:Value} {l:List UInt8}
theorem pG(a b:List UInt8):bys (a++b)=bys a++bys b:=by simp[bys]
end
section
variable {P:Program} (w:World) {base:Nat} {v:Value} {l:List UInt8}
end
end
theorem Bu(s:ByteArray):(dJ s).2.1<=s.size/\(dJ s).1.size<=65535:=by
 unfold dJ;split
 ·exact⟨ag _,ag _⟩
 ·split
  ·exact⟨ag _,ag _⟩
  ·refine⟨by show 2+br s 0 0 2<=s.size;omega,?_⟩;rw[aj];have:=gU s 0 0 (ag _);omega
theorem uq(s:ByteArray):(bL s).2.1<=s.size/\(bL s).1.size<=65535:=by
 unfold bL;split
 ·exact⟨ag _,ag _⟩
 ·exact Bu s
def rbC(t:ByteArray)(a:Nat)(e:Int):ByteArray×Nat×Int:=if e≠0 then(⟨#[]⟩,a,e)else((dJ (t.extract a t.size)).1,a+(dJ (t.extract a t.size)).2.1,(dJ (t.extract a t.size)).2.2)
def rtC(t:ByteArray)(a:Nat)(e:Int):ByteArray×Nat×Int:=if e≠0 then(⟨#[]⟩,a,e)else((bL (t.extract a t.size)).1,a+(bL (t.extract a t.size)).2.1,(bL (t.extract a t.size)).2.2)
theorem yO{t:ByteArray}{a:Nat}{e:Int}(he:e≠0):eB t a e=(⟨#[]⟩,a,e):=by
 unfold eB;rw[fY he];exact fY he
theorem xP{t:ByteArray}{a:Nat}{e:Int}(he:e≠0):(fX t a e).2.2=e:=by
 unfold fX;rw[yO he];simp only;split
 ·rfl
 ·exact ae he
theorem Fu{t:ByteArray}{a:Nat}(h:a<=t.size)(e:Int):(rbC t a e).2.2=(eB t a e).2.2/\((eB t a e).2.2=0->rbC t a e=eB t a e):=by
 by_cases he:e=0
 rotate_left
 ·have h1:rbC t a e=eB t a e:=by rw[yO he];exact if_pos he
  exact⟨by rw[h1],fun _=>h1⟩
 subst he;have hz:(t.extract a t.size).size=t.size- a:=by rw[aj];omega
 by_cases h2:t.size<a+2
 ·have h1:rbC t a 0=eB t a 0:=by
   unfold rbC eB;rw[ae (fun x=>x rfl),show(2:Int)=((2:Nat):Int)from rfl,kH (by omega)];simp only;rw[fY (by decide)];unfold dJ;rw[if_pos (by omega)];rfl
  exact⟨by rw[h1],fun _=>h1⟩
 have hn:br (t.extract a t.size) 0 0 2=br t a 0 2:=by
  unfold br;rw[show(2:Int)=((2:Nat):Int)from rfl,dZ (t:=t.extract a t.size) (by omega),dZ (t:=t) (by omega)];simp only;rw[db,db,ju,cS]
 have hB:eB t a 0=aH t (a+2) 0 (br t a 0 2:Nat):=by
  unfold eB;rw[show aH t a 0 2=(t.extract a (a+2),a+2,0)from dZ (k:=2) (by omega)]
 have hR:rbC t a 0=((dJ (t.extract a t.size)).1,a+(dJ (t.extract a t.size)).2.1,(dJ (t.extract a t.size)).2.2):=ae (fun x=>x rfl);rw[hB,hR];unfold dJ;rw[ae (by omega),hn];generalize br t a 0 2=n
 by_cases h3:t.size<a+2+n
 ·rw[kH (by omega),if_pos (by omega)];exact⟨rfl,fun x=>by cases x⟩
 ·rw[dZ (by omega),ae (by omega)];refine⟨rfl,fun _=>?_⟩;have e1:(t.extract a t.size).extract 2 (2+n)=t.extract (a+2) (a+2+n):=eX (by
   rw[db,db,ju,et])
  simp only;rw[e1,Nat.add_assoc]
theorem Fq{t:ByteArray}{a:Nat}(h:a<=t.size)(e:Int):(rtC t a e).2.2=(fX t a e).2.2/\((fX t a e).2.2=0->rtC t a e=fX t a e):=by
 by_cases he:e=0
 rotate_left
 ·have h1:(rtC t a e).2.2=e:=by rw[show rtC t a e=(⟨#[]⟩,a,e)from if_pos he]
  exact⟨by rw[h1,xP he],fun x=>absurd ((xP he).symm.trans x) he⟩
 subst he;have hR:rtC t a 0=((bL (t.extract a t.size)).1,a+(bL (t.extract a t.size)).2.1,(bL (t.extract a t.size)).2.2):=ae (fun x=>x rfl);have hb:rbC t a 0=((dJ (t.extract a t.size)).1,a+(dJ (t.extract a t.size)).2.1,(dJ (t.extract a t.size)).2.2):=ae (fun x=>x rfl);obtain⟨g1,g2⟩:=Fu h 0;rw[hR]
 by_cases hz:(eB t a 0).2.2=0
 ·have g3:=g2 hz;rw[hb]at g3;have g4:(dJ (t.extract a t.size)).1=(eB t a 0).1:=by rw[<-g3]
  have g5:(dJ (t.extract a t.size)).2.2=0:=by rw[<-hz,<-g3]
  by_cases hv:bN (eB t a 0).1=true
  ·have hU:bL (t.extract a t.size)=dJ (t.extract a t.size):=by
    unfold bL;rw[ae (fun y=>by rw[g4,hv]at y;cases y.2)]
   have hT:fX t a 0=eB t a 0:=by unfold fX;rw[if_pos hv]
   rw[hU,hT,<-g3];exact⟨rfl,fun _=>rfl⟩
  ·have hU:bL (t.extract a t.size)=(⟨#[]⟩,0,6):=by
    unfold bL;rw[if_pos ⟨g5,by rw[g4];simpa using hv⟩]
   have hT:(fX t a 0).2.2=6:=by
    unfold fX;rw[ae hv];simp only;rw[hz];rfl
   rw[hU,hT];exact⟨rfl,fun x=>by cases x⟩
 ·have g5:(dJ (t.extract a t.size)).2.2=(eB t a 0).2.2:=by rw[<-g1,hb]
  have hU:bL (t.extract a t.size)=dJ (t.extract a t.size):=by
   unfold bL;rw[ae (fun y=>hz (g5.symm.trans y.1))]
  have hT:(fX t a 0).2.2=(eB t a 0).2.2:=by
   unfold fX;simp only;split
   ·rfl
   ·exact ae hz
  rw[hU,hT];exact⟨g5,fun x=>absurd x hz⟩
theorem Bt(kind:Int)(s:ByteArray):(aZ kind s).2.1<=s.size:=by
 by_cases h:(aZ kind s).2.2=0
 ·exact(fd (kind:=kind) (s:=s) (l:=(aZ kind s).1) (n:=(aZ kind s).2.1) (by rw[<-h])).2.2
 ·rw[fZ h];exact ag _
theorem Ec(v k:Int){t:ByteArray}{a:Nat}(e:Int)(h:a<=t.size):(fv v k t a e).2.1<=t.size:=by
 unfold fv;split
 ·exact h
 ·have:=Bt k (t.extract a t.size);rw[aj]at this;simp only;omega
theorem pS(v:Int)(w:World):Calls prog 93 #[.int .i64 v] w fun e w'=>e= .returned (.bool (ba v))/\w=w':=by
 have HE:Hid (ba v=decide (v=4\/v=5)):=aa rfl
 by_cases h4:v=4
 ·have HX:Hid (ba v=true):=aa (by rw[HE.o];exact au (.inl h4));have e4:(v==4)=true:=aK.2 h4;clear h4;go_enter func93,ntmps93;go_wp2;go_ret;exact⟨by rw[HX.o];rfl,rfl⟩
 have e4:(v==4)=false:=ar.2 h4
 by_cases h5:v=5
 ·have HX:Hid (ba v=true):=aa (by rw[HE.o];exact au (.inr h5));have e5:(v==5)=true:=aK.2 h5;clear h4 h5;go_enter func93,ntmps93;go_wp2;go_ret;exact⟨by rw[HX.o];rfl,rfl⟩
 ·have HX:Hid (ba v=false):=aa (by rw[HE.o];exact ah (by omega));have e5:(v==5)=false:=ar.2 h5;clear h4 h5;go_enter func93,ntmps93;go_wp2;go_ret;exact⟨by rw[HX.o];rfl,rfl⟩
def BS(f:Fi):Int:=f.qos% 4+f.handling% 4*16+pc f.noLocal 4+pc f.asPub 8
def fiL(k:Int)(f:Fi):List UInt8:=ls (cQ f.topic)++(if k=8 then [UInt8.ofNat (BS f).toNat]else [])
def cdL(l:List Int):List UInt8:=l.map fun c=>UInt8.ofNat c.toNat
def Bg(v:Int)(p:Pk):List UInt8:=da p.id.toNat 2++gP v p.kind p.props
def sbS(v:Int)(p:Pk):List UInt8:=Bg v p++p.filters.flatMap (fiL p.kind)++cdL p.codes
def sbB(v:Int)(p:Pk):ByteArray×Int:=if sbE v p=0 then(⟨(sbS v p).toArray⟩,0)else(⟨#[]⟩,sbE v p)
def iU(v:Int)(n:Nat):Bool:=decide (63<n) || (decide (v=4)&&decide (3<n))
def vB(t:ByteArray)(n:Nat):Fi:=⟨t,((n% 4:Nat):Int),decide (n/ 4% 2=1),decide (n/ 8% 2=1),((n/ 16% 4:Nat):Int)⟩
def opR(v:Int)(t:ByteArray)(a:Nat)(e:Int):Nat×Nat×Int:=
 (br t a e 1,(aH t a e 1).2.1,if iU v (br t a e 1)=true then fh (aH t a e 1).2.2 7 else(aH t a e 1).2.2)
def fiR(v k:Int)(t:ByteArray)(a:Nat):Fi×Nat×Int:=
 if k=8 then(vB (rtC t a 0).1 (opR v t (rtC t a 0).2.1 (rtC t a 0).2.2).1,(opR v t (rtC t a 0).2.1 (rtC t a 0).2.2).2.1,(opR v t (rtC t a 0).2.1 (rtC t a 0).2.2).2.2)
 else(⟨(rtC t a 0).1,0,false,false,0⟩,(rtC t a 0).2.1,(rtC t a 0).2.2)
def lsR(v k:Int)(t:ByteArray):Nat->Nat->Int->List Fi->List Int->List Fi×List Int×Nat×Int
 | 0,a,e,fi,cd=>(fi,cd,a,e)
 | n+1,a,e,fi,cd=>
   if e≠0\/t.size<=a then(fi,cd,a,e)
   else if jm k=true then lsR v k t n (fiR v k t a).2.1 (fiR v k t a).2.2 (fi++[(fiR v k t a).1]) cd
   else lsR v k t n (a+1) 0 fi (cd++[((br t a 0 1:Nat):Int)])
def lh(v k:Int)(s:ByteArray):List Pr×Nat×Int:=fv v k s (aH s 0 0 2).2.1 (aH s 0 0 2).2.2
def li(v k:Int)(s:ByteArray):List Fi×List Int×Nat×Int:=lsR v k s (s.size+1) (lh v k s).2.1 (lh v k s).2.2 [] []
def jf(k:Int)(i:Nat)(l:List Pr)(fi:List Fi)(cd:List Int):Pk:={pk0 with kind:=k,id:=(i:Int),props:=l,filters:=fi,codes:=cd}
def jj(v k:Int)(s:ByteArray):Pk:=jf k (br s 0 0 2) (lh v k s).1 (li v k s).1 (li v k s).2.1
def sbR(v k:Int)(s:ByteArray):Pk×Int:=
 if ir v k=false then(pk0,2)
 else if(li v k s).2.2.2≠0 then(pk0,(li v k s).2.2.2)
 else if sbE v (jj v k s)≠0 then(pk0,sbE v (jj v k s))else(jj v k s,0)
theorem ue{v k:Int}(h:ir v k=true):(jm k=true/\(k=8\/k=10))\/(jm k=false/\(k=9\/k=11)):=by
 have h':=aR h
 by_cases hk:k=8\/k=10
 ·exact .inl ⟨au hk,hk⟩
 ·exact .inr ⟨ah hk,by omega⟩
theorem Iz{v:Int}{p:Pk}(h:p=sbQ v p)(ha:jm p.kind=true):p.codes=[]:=by
 rw[h];unfold sbQ;rw[if_pos ha];rfl
theorem Ib{v:Int}{p:Pk}(h:p=sbQ v p)(ha:jm p.kind=false):p.filters=[]:=by
 rw[h];unfold sbQ;rw[ae (by rw[ha];decide)];split<;>rfl
theorem Eh(t:ByteArray)(n:Nat)(h:n<64):BS (vB t n)=n:=by
 have:∀m:Fin 64,BS (vB t m.1)=m.1:=by
  intro m;have e:BS (vB t m.1)=BS (vB ⟨#[]⟩ m.1):=rfl;rw[e];clear e
  revert m
  decide+kernel
 exact this ⟨n,h⟩
theorem Fz{t:ByteArray}{a:Nat}{b:UInt8}{rest:List UInt8}(h:(ls t).drop a=b :: rest):a<t.size:=by
 have hl:=congrArg List.length h;rw[bU,bM,aN]at hl;omega
theorem tf{t:ByteArray}{a:Nat}{b:UInt8}{rest:List UInt8}(h:(ls t).drop a=b :: rest):br t a 0 1=b.toNat:=by
 have hlt:=Fz h;rw[show((1:Int))=((1:Nat):Int)from rfl,sc (k:=1) (x:=[b]) (rest:=rest) h rfl (by omega)];simp[es]
theorem vA{v k:Int}{t:ByteArray}{a:Nat}(hk:k=8\/k=10)(ha:a<=t.size)(h:(fiR v k t a).2.2=0):
  a<(fiR v k t a).2.1/\(fiR v k t a).2.1<=t.size/\(ls t).drop a=fiL k (fiR v k t a).1++(ls t).drop (fiR v k t a).2.1:=by
 have hT:∀(e0:(rtC t a 0).2.2=0),a+2<=(rtC t a 0).2.1/\(rtC t a 0).2.1<=t.size/\(ls t).drop a=ls (cQ (rtC t a 0).1)++(ls t).drop (rtC t a 0).2.1:=by
  intro e0;obtain⟨g1,g2⟩:=Fq ha 0;rw[g1]at e0;rw[g2 e0];obtain⟨-,h2,-,-,h5⟩:=sC e0;rw[si,List.append_assoc];refine⟨?_,h2,h5⟩;have hl:=congrArg List.length h5;rw[bU,List.length_append,List.length_append,fM,bU,aN,aN]at hl;omega
 unfold fiR at h⊢;rcases hk with rfl| rfl
 ·rw[if_pos rfl]at h⊢;simp only at h⊢;have hb:iU v (br t (rtC t a 0).2.1 (rtC t a 0).2.2 1)=false:=by
   cases hb:iU v (br t (rtC t a 0).2.1 (rtC t a 0).2.2 1)
   ·rfl
   ·unfold opR at h;rw[hb,if_pos rfl]at h;exact(gW h (by decide)).elim
  unfold opR at h⊢;rw[hb,ae (by decide)]at h;simp only at h⊢;obtain⟨h1,h2,h3⟩:=i7 (k:=1) h;obtain⟨t1,t2,t3⟩:=hT h1;rw[h1]at hb⊢;have h3':aH t (rtC t a 0).2.1 0 1=_:=h3;rw[h3'];simp only;refine⟨by omega,h2,?_⟩;obtain⟨b,hb1⟩:∃b,(ls t).drop (rtC t a 0).2.1=b :: (ls t).drop ((rtC t a 0).2.1+1):=⟨_,bQ (by rw[aN];omega)⟩;have hn:=tf hb1;have hlt:b.toNat<64:=by
   rw[hn]at hb;unfold iU at hb;simp only[Bool.or_eq_false_iff,Ip]at hb;omega
  rw[t3,hb1,hn];unfold fiL;rw[if_pos rfl,Eh _ _ hlt,dN,UInt8.ofNat_toNat,List.append_assoc];rfl
 ·rw[ae (by decide)]at h⊢;simp only at h⊢;obtain⟨t1,t2,t3⟩:=hT h;refine⟨by omega,t2,?_⟩;unfold fiL;rw[ae (by decide),cW];exact t3
theorem qo{v k:Int}{t:ByteArray}(hk:ir v k=true):∀(n a:Nat) (e:Int) (fi:List Fi) (cd:List Int),t.size- a<n->a<=t.size->(lsR v k t n a e fi cd).2.2.2=0->
  e=0/\∃l m,(lsR v k t n a e fi cd).1=fi++l/\(lsR v k t n a e fi cd).2.1=cd++m/\(ls t).drop a=l.flatMap (fiL k)++cdL m/\(jm k=true->m=[])/\(jm k=false->l=[])
 | n+1,a,e,fi,cd,hn,ha,h=>by
   unfold lsR at h⊢
   by_cases hc:e≠0\/t.size<=a
   ·rw[if_pos hc]at h⊢;simp only at h⊢;refine⟨h,[],[],by simp,by simp,?_,fun _=>rfl,fun _=>rfl⟩;have:t.size<=a:=hc.resolve_left (fun x=>x h);rw[gF (by rw[aN];omega)];rfl
   ·rw[ae hc]at h⊢;have he:e=0:=aU.1 fun x=>hc (.inl x);have hlt:a<t.size:=Nat.lt_of_not_le fun x=>hc (.inr x);refine⟨he,?_⟩;rcases ue hk with ⟨hask,hkk⟩ | ⟨hask,hkk⟩
    ·rw[if_pos hask]at h⊢
     by_cases hz:(fiR v k t a).2.2=0
     ·obtain⟨f1,f2,f3⟩:=vA hkk ha hz;obtain⟨-,l,m,g1,g2,g3,g4,g5⟩:=qo hk n _ _ _ _ (by omega) f2 h;refine⟨(fiR v k t a).1 :: l,m,by rw[g1];simp,g2,?_,g4,fun x=>by rw[hask]at x;cases x⟩;rw[f3,g3,cF,List.append_assoc]
     ·exfalso;cases n with
      | zero=>omega
      | succ n=>
        unfold lsR at h;rw[if_pos (.inl hz)]at h;exact hz h
    ·rw[ae (by rw[hask];decide)]at h⊢;obtain⟨-,l,m,g1,g2,g3,g4,g5⟩:=qo hk n _ _ _ _ (by omega) (by omega) h;obtain⟨b,hb1⟩:∃b,(ls t).drop a=b :: (ls t).drop (a+1):=⟨_,bQ (by rw[aN];omega)⟩;have hl:=g5 hask;subst hl;refine⟨[],((br t a 0 1:Nat):Int) :: m,g1,by rw[g2];simp,?_,fun x=>(by rw[hask]at x;cases x),fun _=>rfl⟩;rw[hb1,g3,tf hb1];simp[cdL]
theorem Bf{v k:Int}{s:ByteArray}{q:Pk}(h:sbR v k s=(q,0)):sbE v q=0/\sbS v q=ls s/\q.kind=k:=by
 unfold sbR at h;cases hk:ir v k
 ·rw[hk,if_pos rfl]at h;injection h with _ h;exact absurd h (by decide)
 rw[hk,ae (by decide)]at h
 by_cases hl:(li v k s).2.2.2=0
 rotate_left
 ·rw[if_pos hl]at h;injection h with _ h;exact absurd h hl
 rw[ae (fun x=>x hl)]at h
 by_cases hv:sbE v (jj v k s)=0
 rotate_left
 ·rw[if_pos hv]at h;injection h with _ h;exact absurd h hv
 rw[ae (fun x=>x hv)]at h
 injection h with h _
 subst h;refine⟨hv,?_,rfl⟩;have hle:(lh v k s).2.1<=s.size:=by
  have h0:=dy (t:=s) (a:=0) (ag _) 0 2;unfold lh;exact Ec _ _ _ h0
 unfold li at hl;obtain⟨e1,l,m,g1,g2,g3,g4,g5⟩:=qo hk _ _ _ _ _ (by omega) hle hl;have e1':=e1;unfold lh at e1';obtain⟨p1,p2,p3,p4,p5⟩:=yv (dy (t:=s) (a:=0) (ag _) 0 2) e1';obtain⟨t1,t2,t3⟩:=i7 (k:=2) p1;have t3':aH s 0 0 2=(s.extract 0 2,2,0):=t3;have hb:=lY (t:=s) (a:=0) (by omega);rw[cS]at hb;unfold sbS Bg jj jf;simp only;rw[List.append_assoc,List.append_assoc,dN,hb]
 congr 1
 have hpr:fv v k s (aH s 0 0 2).2.1 (aH s 0 0 2).2.2=lh v k s:=rfl;rw[hpr]at p5;rw[show(aH s 0 0 2).2.1=2 by rw[t3']]at p5;rw[show(0+2:Nat)=2 from rfl,p5]
 congr 1
 unfold li;rw[g1,g2,dX,dX,g3]
section
attribute [local go_sem ↓] bD bF bH bI bu
attribute [local go_sem] bc aD bh bg bK bJ bd aY be aO ax cI dC dB dt dj di dA dr dp dn bW co bO bZ bX cz cy cw cu ct cC cn bS bP bR
theorem vV{w w':World}{r:Option Nat}{g:Nat}{t:TypeId}{cs:Array Value}(hg:w.grownBy w' r)(h:Bk w g t cs)(hne:r≠some g):Bk w' g t cs:=
 (hg.block g h.lt (by first| exact hne| exact hne.symm)).trans h
theorem Fy:∀n:Fin 256,(bits BinOp.andNot IntKind.i64 (n.1:Int) 63 !=0)=decide (63<n.1)/\(bits BinOp.andNot IntKind.i64 (n.1:Int) 3 !=0)=decide (3<n.1)/\
  bits BinOp.and IntKind.i64 (n.1:Int) 3=((n.1% 4:Nat):Int)/\bits BinOp.and IntKind.i64 ((n.1:Int) / 16) 3=((n.1/ 16% 4:Nat):Int)/\
  (bits BinOp.and IntKind.i64 (n.1:Int) 4 !=0)=decide (n.1/ 4% 2=1)/\(bits BinOp.and IntKind.i64 (n.1:Int) 8 !=0)=decide (n.1/ 8% 2=1):=by decide+kernel
def dI(f:Fi):Array Value:=#[.string f.topic,.int .i64 f.qos,.bool f.noLocal,.bool f.asPub,.int .i64 f.handling]
theorem Cur.four{w:World}{g a gf:Nat}{t:ByteArray}{e:Int}(h:Cur w g t a e)(hne:gf≠g)(x1 x4 x2 x3:Value):Cur ((((w.setCell ⟨gf,1,none⟩ x1).setCell ⟨gf,4,none⟩ x4).setCell ⟨gf,2,none⟩ x2).setCell ⟨gf,3,none⟩ x3) g t a e:=
 ⟨(((h.1.other (fun e=>hne e.symm) _).other (fun e=>hne e.symm) _).other (fun e=>hne e.symm) _).other (fun e=>hne e.symm) _,h.2⟩
theorem lZ(w:World)(g gf:Nat)(x1 x4 x2 x3:Value):Mods (two g gf) w ((((w.setCell ⟨gf,1,none⟩ x1).setCell ⟨gf,4,none⟩ x4).setCell ⟨gf,2,none⟩ x2).setCell ⟨gf,3,none⟩ x3):=
 ((((Mods.refl w).set gf 1 (.inl (.inr rfl)) _).set gf 4 (.inl (.inr rfl)) _).set gf 2 (.inl (.inr rfl)) _).set gf 3 (.inl (.inr rfl)) _
theorem l8{w:World}{gf:Nat}{tp:ByteArray}(h:Bk w gf 32 (dI ⟨tp,0,false,false,0⟩))(q hd:Int)(nl ap:Bool):
  Bk ((((w.setCell ⟨gf,1,none⟩ (.int .i64 q)).setCell ⟨gf,4,none⟩ (.int .i64 hd)).setCell ⟨gf,2,none⟩ (.bool nl)).setCell ⟨gf,3,none⟩ (.bool ap)) gf 32 (dI ⟨tp,q,nl,ap,hd⟩):=
 (((h.upd 1 (.int .i64 q) (cs':=dI ⟨tp,q,false,false,0⟩) rfl).upd 4 (.int .i64 hd) (cs':=dI ⟨tp,q,false,false,hd⟩) rfl).upd 2 (.bool nl) (cs':=dI ⟨tp,q,nl,false,hd⟩) rfl).upd 3 (.bool ap) (cs':=dI ⟨tp,q,nl,ap,hd⟩) rfl
theorem wN(v:Int)(hv:v=4\/v=5)(g a:Nat)(t:ByteArray)(e:Int)(gf:Nat)(tp:ByteArray)(w:World)(h:Cur w g t a e)(hf:Bk w gf 32 (dI ⟨tp,0,false,false,0⟩))(hne:gf≠g):
  Calls prog 116 #[.int .i64 v,.pointer (some ⟨g,0,none⟩),.pointer (some ⟨gf,0,none⟩)] w fun e' w'=>
   e'= .returned (.tuple #[])/\Cur w' g t (opR v t a e).2.1 (opR v t a e).2.2/\Bk w' gf 32 (dI (vB tp (opR v t a e).1))/\Mods (two g gf) w w':=by
 have C0:=aa h;have F0:=aa hf;have NE:=aa hne
 have HO:Hid (opR v t a e=(br t a e 1,(aH t a e 1).2.1,if iU v (br t a e 1)=true then fh (aH t a e 1).2.2 7 else(aH t a e 1).2.2)):=aa rfl;have hlt:=iV t a e;clear h hf hne;go_enter func116,ntmps116
 go_wp2_with fail
 refine(dR g a t e 1 _ C0.o (by decide)).mono ?_;rintro e' w1 ⟨rfl,hc,hm⟩;have C1:=aa hc;have F1:=aa (F0.o.mods (Mods.of_grown (S:=fun i=>i=g) hm rfl) (fun e=>NE.o e));have M1:Hid (Mods (two g gf) w w1):=aa (Mods.of_grown hm (.inl rfl));clear hc hm;generalize br t a e 1=n at*;obtain⟨R,hR⟩:∃R,aH t a e 1=R:=⟨_,rfl⟩;rw[hR]at HO C1;clear hR;obtain⟨T,a1,e1⟩:=R;simp only at HO C1⊢;obtain⟨o1,o2,o3,o4,o5,o6⟩:=Fy ⟨n,hlt⟩;simp only at o1 o2 o3 o4 o5 o6;rcases hv with rfl| rfl
 ·have hN:Hid (decide (3<n)=iU 4 n):=aa (by unfold iU;rw[au rfl,aL,eG,Bool.or_eq_true];simp only[cH];omega)
  by_cases hb:3<n
  ·have HB:Hid (iU 4 n=true):=aa (by rw[<-hN.out,au hb]);rw[au hb]at o2;rw[HB.o,if_pos rfl]at HO;clear hb
   go_wp2_with fail
   refine(cB g a1 t e1 7 _ C1.o).mono ?_;rintro e' w2 ⟨rfl,hc,hm⟩;have C2:Hid (Cur w2 g t a1 (fh e1 7)):=aa hc;have F2:=aa (F1.o.mods (Mods.of_grown (S:=fun i=>i=g) hm rfl) (fun e=>NE.o e));have M2:Hid (Mods (two g gf) w w2):=aa (M1.o.trans (Mods.of_grown hm (.inl rfl)));clear hc hm;obtain⟨⟨c0,c1,c2⟩,f0,f1,f2⟩:=C2.o.cells;have q0:=F2.o.cell 0;have q1:=F2.o.cell 1;have q2:=F2.o.cell 2;have q3:=F2.o.cell 3;have q4:=F2.o.cell 4
   have r0:=F2.o.free 0;have r1:=F2.o.free 1;have r2:=F2.o.free 2;have r3:=F2.o.free 3;have r4:=F2.o.free 4
   simp only[dI,ay,aE,aB]at q0 q1 q2 q3 q4;go_wp2
   go_end0
   rw[HO.o];refine⟨rfl,?_,?_,?_⟩
   ·exact C2.o.four (fun e=>NE.o e) _ _ _ _
   ·exact l8 F2.o _ _ _ _
   ·exact M2.o.trans (lZ _ _ _ _ _ _ _)
  ·have HB:Hid (iU 4 n=false):=aa (by rw[<-hN.out,ah hb]);rw[ah hb]at o2;rw[HB.o,ae (by decide)]at HO;clear hb;obtain⟨⟨c0,c1,c2⟩,f0,f1,f2⟩:=C1.o.cells;have q0:=F1.o.cell 0;have q1:=F1.o.cell 1;have q2:=F1.o.cell 2;have q3:=F1.o.cell 3;have q4:=F1.o.cell 4
   have r0:=F1.o.free 0;have r1:=F1.o.free 1;have r2:=F1.o.free 2;have r3:=F1.o.free 3;have r4:=F1.o.free 4
   simp only[dI,ay,aE,aB]at q0 q1 q2 q3 q4;go_wp2
   go_end0
   rw[HO.o];refine⟨rfl,?_,?_,?_⟩
   ·exact C1.o.four (fun e=>NE.o e) _ _ _ _
   ·exact l8 F1.o _ _ _ _
   ·exact M1.o.trans (lZ _ _ _ _ _ _ _)
 ·have hN:Hid (decide (63<n)=iU 5 n):=aa (by unfold iU;rw[show decide ((5:Int)=4)=false from rfl,bj,Bool.or_false])
  by_cases hb:63<n
  ·have HB:Hid (iU 5 n=true):=aa (by rw[<-hN.out,au hb]);rw[au hb]at o1;rw[HB.o,if_pos rfl]at HO;clear hb
   go_wp2_with fail
   refine(cB g a1 t e1 7 _ C1.o).mono ?_;rintro e' w2 ⟨rfl,hc,hm⟩;have C2:Hid (Cur w2 g t a1 (fh e1 7)):=aa hc;have F2:=aa (F1.o.mods (Mods.of_grown (S:=fun i=>i=g) hm rfl) (fun e=>NE.o e));have M2:Hid (Mods (two g gf) w w2):=aa (M1.o.trans (Mods.of_grown hm (.inl rfl)));clear hc hm;obtain⟨⟨c0,c1,c2⟩,f0,f1,f2⟩:=C2.o.cells;have q0:=F2.o.cell 0;have q1:=F2.o.cell 1;have q2:=F2.o.cell 2;have q3:=F2.o.cell 3;have q4:=F2.o.cell 4
   have r0:=F2.o.free 0;have r1:=F2.o.free 1;have r2:=F2.o.free 2;have r3:=F2.o.free 3;have r4:=F2.o.free 4
   simp only[dI,ay,aE,aB]at q0 q1 q2 q3 q4;go_wp2
   go_end0
   rw[HO.o];refine⟨rfl,?_,?_,?_⟩
   ·exact C2.o.four (fun e=>NE.o e) _ _ _ _
   ·exact l8 F2.o _ _ _ _
   ·exact M2.o.trans (lZ _ _ _ _ _ _ _)
  ·have HB:Hid (iU 5 n=false):=aa (by rw[<-hN.out,ah hb]);rw[ah hb]at o1;rw[HB.o,ae (by decide)]at HO;clear hb;obtain⟨⟨c0,c1,c2⟩,f0,f1,f2⟩:=C1.o.cells;have q0:=F1.o.cell 0;have q1:=F1.o.cell 1;have q2:=F1.o.cell 2;have q3:=F1.o.cell 3;have q4:=F1.o.cell 4
   have r0:=F1.o.free 0;have r1:=F1.o.free 1;have r2:=F1.o.free 2;have r3:=F1.o.free 3;have r4:=F1.o.free 4
   simp only[dI,ay,aE,aB]at q0 q1 q2 q3 q4;go_wp2
   go_end0
   rw[HO.o];refine⟨rfl,?_,?_,?_⟩
   ·exact C1.o.four (fun e=>NE.o e) _ _ _ _
   ·exact l8 F1.o _ _ _ _
   ·exact M1.o.trans (lZ _ _ _ _ _ _ _)
theorem oP:(prog.info? 32).map (fun i=>(i.zero,i.size,i.bytes))=some (some (.agg #[.string ⟨#[]⟩,.int .i64 0,.bool false,.bool false,.int .i64 0]),5,40):=by kernel_rfl
end
end Go.Proofs.YtbdgkkmbnahgiaaGreatDoor
