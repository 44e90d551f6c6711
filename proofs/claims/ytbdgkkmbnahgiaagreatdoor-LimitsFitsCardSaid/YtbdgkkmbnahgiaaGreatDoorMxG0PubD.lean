/- A part of what the laws stand on: PubD, PubK, MCnt, MCnp. -/
import Derived.Test.YtbdgkkmbnahgiaaGreatDoorMxG0MPubB
import Derived.Shelf.Strings.OnBuilder
set_option maxRecDepth 10000
set_option maxHeartbeats 8000000
namespace Go.Proofs.YtbdgkkmbnahgiaaGreatDoor
open Go.RowKit Go.Proofs.Tryz
section
attribute [local go_sem ↓] bD bF bH bI bu
attribute [local go_sem] bc aD bh bg bK bJ bd aY be aO ax cI dC dB dt dj di dA dr dp dn bW co bO bZ bX cz cy cw cu ct cC cn bS bP bR
def Hh(l:List UInt8)(c:UInt8):Bool:=l.contains c
theorem Ji(b:UInt8)(l:List UInt8)(c:UInt8):Hh (b :: l) c=(c==b || Hh l c):=List.contains_cons
theorem Qn{a b:UInt8}(h:a≠b):(a.toNat:Int)≠(b.toNat:Int):=fun x=>h (UInt8.toNat_inj.1 (by omega))
theorem Iv(s:ByteArray)(c:UInt8)(w:World)(hs:s.size<=4611686018427387904):
  Calls prog 313 #[.string s,.int .u8 (c.toNat:Int)] w fun e w'=>e= .returned (.bool (Hh (ls s) c))/\w=w':=by
 have HS:=aa hs;clear hs
 go_enter func313,ntmps313;go_wp2
 go_loop [5] (fun i=>∃k:Nat,k<=s.size/\i= .int .i64 k/\Hh (ls s) c=Hh ((ls s).drop k) c) (fun i=>s.size- (intOf i).toNat)
 case atStart=>exact⟨0,by omega,rfl,rfl⟩
 case round=>
  obtain⟨k,hk,rfl,hc⟩:=hrel;have HC:=aa hc;clear hc
  by_cases hlt:k<s.size
  ·have hd:=bQ (show k<(ls s).length by rw[aN];exact hlt);rw[uY s k hlt]at hd;obtain⟨b,hb⟩:∃b,s[k]'hlt=b:=⟨_,rfl⟩;rw[hb]at hd;have HD:=aa hd;clear hd
   have b1:(0:Int)<=(k:Int):=by omega
   have b2:(k:Int)<(s.size:Int):=by omega
   have hsz:=HS.o
   by_cases h:b=c
   ·have e1:((b.toNat:Int)==(c.toNat:Int))=true:=aK.2 (by rw[h]);have HX:Hid (Hh (ls s) c=true):=aa (by rw[HC.o,HD.o,h,Ji,beq_self_eq_true,Bool.true_or]);clear h;go_wp2;go_ret;exact⟨by rw[HX.o];rfl,rfl⟩
   ·have e1:((b.toNat:Int)==(c.toNat:Int))=false:=ar.2 (Qn h);have HX:Hid (Hh (ls s) c=Hh ((ls s).drop (k+1)) c):=aa (by
     rw[HC.o,HD.o,Ji,ar.2 (fun x=>h x.symm),nB])
    clear h;go_wp2
    go_round
    case rel=>exact⟨k+1,by omega,by go_num,HX.o⟩
    case measure=>simp[intOf];omega
  ·have HX:Hid (Hh (ls s) c=false):=aa (by rw[HC.o,gF (by rw[aN];omega)];rfl);have b2:(s.size:Int)<=(k:Int):=by omega
   clear hlt;go_wp2;go_ret;exact⟨by rw[HX.o];rfl,rfl⟩
theorem Ky(s:ByteArray):mg s=(Hh (ls s) 43 || Hh (ls s) 35):=by
 unfold mg;generalize ls s=l
 induction l with
 | nil=>rfl
 | cons b l ih=>
   rw[List.any_cons,ih,Ji,Ji,lf]
   by_cases h1:b=43
   ·subst h1;simp
   ·by_cases h2:b=35
    ·subst h2;simp
    ·have e:decide (b.toNat=43\/b.toNat=35)=false:=ah (by
      rintro (x| x)
      ·exact h1 (UInt8.toNat_inj.1 x)
      ·exact h2 (UInt8.toNat_inj.1 x))
     rw[e,ar.2 (fun x=>h1 x.symm),ar.2 (fun x=>h2 x.symm)];simp
theorem Hg(s:ByteArray)(w:World)(hs:s.size<=4611686018427387904):
  Calls prog 241 #[.string s] w fun e w'=>e= .returned (.bool (fp s))/\w=w':=by
 have HE:Hid (fp s=((decide (s.size≠0)&&bN s)&& !(Hh (ls s) 43 || Hh (ls s) 35))):=aa (by unfold fp jY;rw[Ky]);have hem:=kR s;have HS:=aa hs;clear hs
 go_enter func241,ntmps241
 by_cases h0:s.size=0
 ·rw[au h0]at hem;have HX:Hid (fp s=false):=aa (by rw[HE.o,ah (fun x=>x h0)];rfl);clear h0;go_wp2;go_ret;exact⟨by rw[HX.o];rfl,rfl⟩
 rw[ah h0]at hem;have HE1:Hid (fp s=(bN s&& !(Hh (ls s) 43 || Hh (ls s) 35))):=aa (by rw[HE.o,au h0,aL]);clear h0
 go_wp2_with fail
 refine(xj s _ HS.o).mono ?_;rintro e w1 ⟨rfl,rfl⟩;cases hv:bN s
 ·have HX:Hid (fp s=false):=aa (by rw[HE1.o,hv];rfl);clear hv;go_wp2;go_ret;exact⟨by rw[HX.o];rfl,rfl⟩
 have HE2:Hid (fp s= !(Hh (ls s) 43 || Hh (ls s) 35)):=aa (by rw[HE1.o,hv,aL]);clear hv
 go_wp2_with fail
 refine(Iv s 43 _ HS.o).mono ?_;rintro e w1 ⟨rfl,rfl⟩;cases h1:Hh (ls s) 43;rotate_left
 ·have HX:Hid (fp s=false):=aa (by rw[HE2.o,h1];rfl);clear h1;go_wp2;go_ret;exact⟨by rw[HX.o];rfl,rfl⟩
 have HE3:Hid (fp s= !Hh (ls s) 35):=aa (by rw[HE2.o,h1,nB]);clear h1
 go_wp2_with fail
 refine(Iv s 35 _ HS.o).mono ?_;rintro e w1 ⟨rfl,rfl⟩;go_wp2;go_ret;exact⟨by rw[HE3.o];rfl,rfl⟩
end
section
attribute [local go_sem ↓] bD bF bH bI bu
attribute [local go_sem] bc aD bh bg bK bJ bd aY be aO ax cI dC dB dt dj di dA dr dp dn bW co bO bZ bX cz cy cw cu ct cC cn bS bP bR
abbrev NB(g0 g1:Nat)(p:Pk)(h k:Hs)(Y:ByteArray)(W x:World):Prop:=(kZ (.pointer (some ⟨g0,0,none⟩))).run prog x= .ok (pkV p h) x/\(kZ (.pointer (some ⟨g1,0,none⟩))).run prog x= .ok (pkV p k) x/\x.cell? ⟨g0,6,none⟩=some (.string Y)/\Below W.heap.size W x
section
variable {w W x y:World} {g0 g1:Nat} {p:Pk} {h k:Hs} {Y:ByteArray}
theorem NB.of(s:St w [(g0,p,h),(g1,p,k)] W)(hY:p.payload=Y)(hb:Below W.heap.size W x):NB g0 g1 p h k Y W x:=
 ⟨(s.below hb).ld 0 rfl,(s.below hb).ld 1 rfl,by rw[<-hY];exact(s.below hb).cell 0 rfl 6,hb⟩
theorem NB.next(n:NB g0 g1 p h k Y W x)(s:St w [(g0,p,h),(g1,p,k)] W)(hY:p.payload=Y)(hb:Below x.heap.size x y):NB g0 g1 p h k Y W y:=
 NB.of s hY (n.2.2.2.trans (hb.mono n.2.2.2.size))
theorem NB.in1(n:NB g0 g1 p h k Y W x)(s:St w [(g0,p,h),(g1,p,k)] W):PkIn x x.heap.size p k:=(s.below n.2.2.2).into 1 rfl
end
end
section
attribute [local go_sem ↓] bD bF bH bI bu
attribute [local go_sem] bc aD bh bg bK bJ bd aY be aO ax cI dC dB dt dj di dA dr dp dn bW co bO bZ bX cz cy cw cu ct cC cn bS bP bR
attribute [local go_sem ↓high] bu sD sE
attribute [local go_sem ↓] wh
attribute [local go_sem] Cv BD mX uw pU sO ta yp s9 yo sZ yn sV ym sU yl sT yk sS yj sR yi sQ yh sP yg pC uI pB uH pA uG py uF pu uE pr uC pq uB pp uA po uz pm uy pj ux sY pX sX pW sW pV
def gm(k:Int):Bool:=decide (k=1\/k=2)
theorem np(v:Int)(w:World):Calls prog 264 #[.int .i64 v] w fun e w'=>e= .returned (.bool (ba v))/\w=w':=by
 go_enter func264,ntmps264;go_wp2
 all_goals
  go_ret;refine⟨eT ?_,rfl⟩;unfold ba
  by_cases h4:v=4<;>by_cases h5:v=5<;>simp_all
theorem oU(k:Int)(w:World):Calls prog 265 #[.int .i64 k] w fun e w'=>e= .returned (.bool (gm k))/\w=w':=by
 go_enter func265,ntmps265;go_wp2
 all_goals
  go_ret;refine⟨eT ?_,rfl⟩;unfold gm
  by_cases h4:k=1<;>by_cases h5:k=2<;>simp_all
def kS(p:Pk):Pk:=
 if p.kind=2 then {pk0 with kind:=p.kind,props:=p.props,session:=p.session,code:=p.code}
 else {pk0 with kind:=p.kind,props:=p.props,clean:=p.clean,alive:=p.alive,client:=p.client,hasWill:=p.hasWill,will:=(if p.hasWill=true then p.will else wl0),hasUser:=p.hasUser,user:=(if p.hasUser=true then p.user else⟨#[]⟩),hasPass:=p.hasPass,pass:=(if p.hasPass=true then p.pass else⟨#[]⟩)}
def qJ(p:Pk)(h:Hs):Hs:={hs0 with props:=h.props,wp:=(if p.kind≠2/\p.hasWill=true then h.wp else hd0)}
theorem qI{p:Pk}(h:p.kind=2):kS p= {pk0 with kind:=p.kind,props:=p.props,session:=p.session,code:=p.code}:=by unfold kS;rw[if_pos h]
theorem vJ{p:Pk}(h:p.kind≠2){a b c:Bool}(ha:p.hasWill=a)(hb:p.hasUser=b)(hc:p.hasPass=c):kS p= {pk0 with kind:=p.kind,props:=p.props,clean:=p.clean,alive:=p.alive,client:=p.client,hasWill:=a,will:=(if a=true then p.will else wl0),hasUser:=b,user:=(if b=true then p.user else⟨#[]⟩),hasPass:=c,pass:=(if c=true then p.pass else⟨#[]⟩)}:=by unfold kS;rw[ae h,ha,hb,hc]
theorem Dl{p:Pk}(x:gz p):gz (kS p):=by
 unfold kS;split
 ·exact⟨ag _,ag _,ag _,x.2.2.2⟩
 ·refine⟨?_,ag _,ag _,x.2.2.2⟩;show(if p.hasWill=true then p.will else wl0).props.length<=_;split
  ·exact x.1
  ·exact ag _
theorem E6{w:World}{B:Nat}{p:Pk}{h:Hs}(x:PkIn w B p h):PkIn w B (kS p) (qJ p h):=by
 by_cases h2:p.kind=2
 ·have e1:qJ p h= {hs0 with props:=h.props}:=by unfold qJ;rw[ae (fun y=>y.1 h2)];rfl
  rw[qI h2,e1];exact⟨Rd.nil _ _ _ _,Rd.nil _ _ _ _,Rd.nil _ _ _ _,x.props,ag _,ag _,ag _,x.caps.2.2.2⟩
 ·rw[vJ h2 rfl rfl rfl];cases hw:p.hasWill
  ·have e1:qJ p h= {hs0 with props:=h.props}:=by unfold qJ;rw[ae (fun y=>by rw[hw]at y;cases y.2)];rfl
   rw[e1];exact⟨Rd.nil _ _ _ _,Rd.nil _ _ _ _,Rd.nil _ _ _ _,x.props,ag _,ag _,ag _,x.caps.2.2.2⟩
  ·have e1:qJ p h= {hs0 with props:=h.props,wp:=h.wp}:=by unfold qJ;rw[if_pos ⟨h2,hw⟩]
   rw[e1];exact⟨x.wp,Rd.nil _ _ _ _,Rd.nil _ _ _ _,x.props,x.caps.1,ag _,ag _,x.caps.2.2.2⟩
theorem zm(k:Int)(l:List Pr)(A:Option Addr)(n:Nat)(w:World):(qP #[(0,.int .i64 k),(20,.slice A l.length n)]).run prog w= .ok (pkV {pk0 with kind:=k,props:=l} {hs0 with props:=⟨A,n⟩}) w:=by kernel_rfl
theorem ug(p:Pk)(h:Hs)(Q:Pk)(H:Hs)(x:World)(hq:kS p=Q)(hh:qJ p h=H)(hi:PkIn x x.heap.size p h)(hn:gz p):
  Calls prog 117 #[pkV p h,pkV Q H] x fun e y=>e= .returned (.bool (decide (p=kS p)))/\Below x.heap.size x y:=by
 subst hq hh;exact jE p (kS p) h (qJ p h) x hi (E6 hi) hn (Dl hn)
theorem AB(p:Pk)(h:Hs)(w:World)(ip:PkIn w w.heap.size p h)(ok:PkOk p):
  Calls prog 326 #[pkV p h] w fun e w'=>e= .returned (.bool (decide (p=kS p)))/\Below w.heap.size w w':=by
 have OK:=aa ok;have IP:=aa ip;obtain⟨W,hW,hst⟩:=mF w p {pk0 with kind:=p.kind,props:=p.props} h {hs0 with props:=⟨h.props.a,h.props.c⟩};have HW:=aa hW;have hlt:=hW.lt;have j0:=fun cs=>(hW.bk_pw cs).cell;have i0:=(Bk.fresh w PkT (pkC p h)).cell;have hl0:∀cs,(kZ (.pointer (some ⟨w.heap.size,0,none⟩))).run prog (pw W (w.heap.size+1) cs).drew= .ok (pkV p h) (pw W (w.heap.size+1) cs).drew:=fun cs=>cf ((hW.bk_pw cs).drewN 1);have hl1:∀q k,(kZ (.pointer (some ⟨w.heap.size+1,0,none⟩))).run prog (pw W (w.heap.size+1) (pkC q k)).drew= .ok (pkV q k) (pw W (w.heap.size+1) (pkC q k)).drew:=fun q k=>cf ((uJ W (w.heap.size+1) (pkC q k) hlt).drewN 1);have hlw:∀cs,(Ev (.pointer (some ⟨w.heap.size,15,none⟩))).run prog (pw W (w.heap.size+1) cs).drew= .ok (wlV p.will h.wp) (pw W (w.heap.size+1) cs).drew:=fun cs=>Gj ((hW.bk_pw cs).drewN 1);have hbd:=zm p.kind p.props h.props.a h.props.c;have HQI:Hid (∀x,Below w.heap.size w x->PkIn x x.heap.size p h):=aa fun x hx=>(IP.o.below hx).wider hx.size;clear ip ok hW;go_enter func326,ntmps326
 by_cases h2:p.kind=2
 ·have e2:(p.kind==2)=true:=aK.2 h2;have H2:=aa h2;clear h2
  go_wp2_with fail
  go_region
  go_wp2_with fail
  refine(ug p h _ _ _ ((qI H2.o).trans rfl) (by unfold qJ;rw[ae (fun y=>y.1 H2.o)];rfl) (HQI.o _ ((HW.o.kept _).drew)) OK.o.len).mono ?_;rintro e w1 ⟨rfl,hb⟩;have HB:=aa (((HW.o.kept _).drew).trans (hb.mono ((HW.o.kept _).drew).size));clear hb
  go_wp2;go_ret;exact⟨rfl,HB.o⟩
 ·have e2:(p.kind==2)=false:=ar.2 h2;have H2:=aa h2;clear h2
  go_wp2_with fail
  go_region
  cases ha:p.hasWill<;>cases hb:p.hasUser<;>cases hc:p.hasPass
  all_goals
   have HABC:=aa (And.intro ha (And.intro hb hc))
   go_wp2_with fail
   refine(ug p h _ _ _ ((vJ H2.o HABC.o.1 HABC.o.2.1 HABC.o.2.2).trans rfl)
    (by unfold qJ;first| (rw[ae (fun y=>by have:=HABC.o.1;rw[y.2]at this;cases this)];rfl) | (rw[if_pos ⟨H2.o,HABC.o.1⟩])) (HQI.o _ ((HW.o.kept _).drew)) OK.o.len).mono ?_
   rintro e w1 ⟨rfl,hb'⟩;have HB:=aa (((HW.o.kept _).drew).trans (hb'.mono ((HW.o.kept _).drew).size));clear hb'
   go_wp2;go_ret;exact⟨rfl,HB.o⟩
end
section
attribute [local go_sem ↓] bD bF bH bI bu
attribute [local go_sem] bc aD bh bg bK bJ bd aY be aO ax cI dC dB dt dj di dA dr dp dn bW co bO bZ bX cz cy cw cu ct cC cn bS bP bR
def i9(v:Int)(p:Pk):Bool:=if v=4 then ww p.code else may p.kind p.code
def dU(v:Int)(p:Pk):Bool:=
 if v=4/\0<p.props.length+p.will.props.length then false
 else if p.kind=2 then i9 v p&&(decide (p.code=0) || !p.session)
 else if v=4/\((p.client.size=0/\p.clean=false)\/(p.hasPass=true/\p.hasUser=false))then false
 else decide (0<=p.alive/\p.alive<65536/\0<=p.will.qos/\p.will.qos<=2)
theorem xx(v:Int)(p:Pk)(h:Hs)(w:World)(ip:PkIn w w.heap.size p h)(ok:PkOk p):
  Calls prog 327 #[.int .i64 v,pkV p h] w fun e w'=>e= .returned (.bool (dU v p))/\Below w.heap.size w w':=by
 have OK:=aa ok;have S0:=aa ((St.start w).push ip);have HE:Hid (dU v p=if v=4/\0<p.props.length+p.will.props.length then false
  else if p.kind=2 then i9 v p&&(decide (p.code=0) || !p.session)
  else if v=4/\((p.client.size=0/\p.clean=false)\/(p.hasPass=true/\p.hasUser=false))then false
  else decide (0<=p.alive/\p.alive<65536/\0<=p.will.qos/\p.will.qos<=2)):=aa rfl
 have k0:=S0.o.cell 0 rfl;have hsum:IntKind.i64.wrap ((p.props.length:Int)+(p.will.props.length:Int))=(p.props.length:Int)+(p.will.props.length:Int):=by
  rw[aQ];have:=ok.lens;omega
 have hem:=kR p.client;clear ip ok;go_enter func327,ntmps327
 by_cases h1:v=4/\0<p.props.length+p.will.props.length
 ·have HX:Hid (dU v p=false):=aa (by rw[HE.o,if_pos h1]);have e4:(v==4)=true:=aK.2 h1.1;have d1:(0:Int)<(p.props.length:Int)+(p.will.props.length:Int):=by omega
  clear h1;go_wp2;go_ret;exact⟨by rw[HX.o];rfl,S0.o.kept⟩
 have HE1:Hid (dU v p=if p.kind=2 then i9 v p&&(decide (p.code=0) || !p.session)
  else if v=4/\((p.client.size=0/\p.clean=false)\/(p.hasPass=true/\p.hasUser=false))then false
  else decide (0<=p.alive/\p.alive<65536/\0<=p.will.qos/\p.will.qos<=2)):=aa (by rw[HE.o,ae h1])
 obtain⟨b4,hb4⟩:∃b:Bool,(v==4)=b:=⟨_,rfl⟩;have D1:b4=true->(p.props.length:Int)+(p.will.props.length:Int)<=0:=fun hb=>by
  have:v=4:=aK.1 (hb4.trans hb);have:=fun z=>h1 ⟨this,z⟩;omega
 have V4:(v=4)↔b4=true:=by rw[<-hb4];exact aK.symm
 have HV4:=aa V4;clear h1 V4
 by_cases h2:p.kind=2
 ·have e2:(p.kind==2)=true:=aK.2 h2;have HE2:Hid (dU v p=(i9 v p&&(decide (p.code=0) || !p.session))):=aa (by rw[HE1.o,if_pos h2]);clear h2;cases b4
  ·have HC:Hid (i9 v p=may p.kind p.code):=aa (by unfold i9;rw[ae (fun y=>by have:=HV4.o.1 y;cases this)]);clear D1
   go_wp2_with fail
   refine(m7 p.kind p.code _).mono ?_;rintro e w1 ⟨rfl,hb⟩;have S1:=aa (S0.o.below hb);clear hb k0
   have k1:=S1.o.cell 0 rfl;cases hm:may p.kind p.code
   ·have HX:Hid (dU v p=false):=aa (by rw[HE2.o,HC.o,hm];rfl);clear hm;go_wp2;go_ret;exact⟨by rw[HX.o];rfl,S1.o.kept⟩
   ·by_cases hc:p.code=0
    ·have ec:(p.code==0)=true:=aK.2 hc;have HX:Hid (dU v p=true):=aa (by rw[HE2.o,HC.o,hm,au hc];rfl);clear hm hc;go_wp2;go_ret;exact⟨by rw[HX.o];rfl,S1.o.kept⟩
    ·have ec:(p.code==0)=false:=ar.2 hc;have HX:Hid (dU v p= !p.session):=aa (by rw[HE2.o,HC.o,hm,ah hc];rfl);clear hm hc;go_wp2;go_ret;exact⟨by rw[HX.o];rfl,S1.o.kept⟩
  ·have HC:Hid (i9 v p=ww p.code):=aa (by unfold i9;rw[if_pos (HV4.o.2 rfl)]);have d1:=D1 rfl;clear D1
   go_wp2_with fail
   refine(m7 p.kind p.code _).mono ?_;rintro e w1 ⟨rfl,hb⟩;have S1:=aa (S0.o.below hb);clear hb k0
   have k1:=S1.o.cell 0 rfl
   go_wp2_with fail
   refine(wv p.code _).mono ?_;rintro e w2 ⟨rfl,rfl⟩;cases hm:ww p.code
   ·have HX:Hid (dU v p=false):=aa (by rw[HE2.o,HC.o,hm];rfl);clear hm;go_wp2;go_ret;exact⟨by rw[HX.o];rfl,S1.o.kept⟩
   ·by_cases hc:p.code=0
    ·have ec:(p.code==0)=true:=aK.2 hc;have HX:Hid (dU v p=true):=aa (by rw[HE2.o,HC.o,hm,au hc];rfl);clear hm hc;go_wp2;go_ret;exact⟨by rw[HX.o];rfl,S1.o.kept⟩
    ·have ec:(p.code==0)=false:=ar.2 hc;have HX:Hid (dU v p= !p.session):=aa (by rw[HE2.o,HC.o,hm,ah hc];rfl);clear hm hc;go_wp2;go_ret;exact⟨by rw[HX.o];rfl,S1.o.kept⟩
 ·have e2:(p.kind==2)=false:=ar.2 h2;have HE2:Hid (dU v p=if v=4/\((p.client.size=0/\p.clean=false)\/(p.hasPass=true/\p.hasUser=false))then false
   else decide (0<=p.alive/\p.alive<65536/\0<=p.will.qos/\p.will.qos<=2)):=aa (by rw[HE1.o,ae h2])
  clear h2;have NUM:∀(hn:dU v p=decide (0<=p.alive/\p.alive<65536/\0<=p.will.qos/\p.will.qos<=2)),
   (¬0<=p.alive/\dU v p=false)\/(0<=p.alive/\¬p.alive<65536/\dU v p=false)\/(0<=p.alive/\p.alive<65536/\¬0<=p.will.qos/\dU v p=false)\/(0<=p.alive/\p.alive<65536/\0<=p.will.qos/\dU v p=decide (p.will.qos<=2)):=fun hn=>by
   rw[hn]
   by_cases a1:0<=p.alive
   ·by_cases a2:p.alive<65536
    ·by_cases a3:0<=p.will.qos
     ·exact .inr (.inr (.inr ⟨a1,a2,a3,eb.2 ⟨fun y=>y.2.2.2,fun y=>⟨a1,a2,a3,y⟩⟩⟩))
     ·exact .inr (.inr (.inl ⟨a1,a2,a3,ah (fun y=>a3 y.2.2.1)⟩))
    ·exact .inr (.inl ⟨a1,a2,ah (fun y=>a2 y.2.1)⟩)
   ·exact .inl ⟨a1,ah (fun y=>a1 y.1)⟩
  have HNUM:=aa NUM;clear NUM;cases b4
  ·have HN:=aa (HNUM.o (by rw[HE2.o,ae (fun y=>by have:=HV4.o.1 y.1;cases this)]));clear D1;rcases HN.o with ⟨a1,hx⟩ | ⟨a1,a2,hx⟩ | ⟨a1,a2,a3,hx⟩ | ⟨a1,a2,a3,hx⟩
   ·have HX:=aa hx;have a1':p.alive<0:=by omega
    clear hx a1;go_wp2;go_ret;exact⟨by rw[HX.o];rfl,S0.o.kept⟩
   ·have HX:=aa hx;have a2':65536<=p.alive:=by omega
    clear hx a2;go_wp2;go_ret;exact⟨by rw[HX.o];rfl,S0.o.kept⟩
   ·have HX:=aa hx;have a3':p.will.qos<0:=by omega
    clear hx a3;go_wp2;go_ret;exact⟨by rw[HX.o];rfl,S0.o.kept⟩
   ·have HX:=aa hx;clear hx;go_wp2;go_ret;exact⟨by rw[HX.o];rfl,S0.o.kept⟩
  ·have d1:=D1 rfl;clear D1
   by_cases hc:p.client.size=0/\p.clean=false
   ·have HX:Hid (dU v p=false):=aa (by rw[HE2.o,if_pos ⟨HV4.o.2 rfl,.inl hc⟩]);rw[au hc.1]at hem;have ec:=hc.2;clear hc;go_wp2;go_ret;exact⟨by rw[HX.o];rfl,S0.o.kept⟩
   ·by_cases hq:p.hasPass=true/\p.hasUser=false
    ·have HX:Hid (dU v p=false):=aa (by rw[HE2.o,if_pos ⟨HV4.o.2 rfl,.inr hq⟩]);obtain⟨q1,q2⟩:=hq
     by_cases hz:p.client.size=0
     ·rw[au hz]at hem;have ec:p.clean=true:=by
       cases e:p.clean
       ·exact absurd ⟨hz,e⟩ hc
       ·rfl
      clear hc hz;go_wp2;go_ret;exact⟨by rw[HX.o];rfl,S0.o.kept⟩
     ·rw[ah hz]at hem;clear hc hz;go_wp2;go_ret;exact⟨by rw[HX.o];rfl,S0.o.kept⟩
    ·have HN:=aa (HNUM.o (by rw[HE2.o,ae (fun y=>y.2.elim hc hq)]));have HC:=aa (And.intro hc hq);have hcz:(p.client.toList.isEmpty=false)\/(p.client.toList.isEmpty=true/\p.clean=true):=by
      by_cases hz:p.client.size=0
      ·rw[au hz]at hem;refine .inr ⟨hem,?_⟩;cases e:p.clean
       ·exact absurd ⟨hz,e⟩ hc
       ·rfl
      ·rw[ah hz]at hem;exact .inl hem
     have hqz:p.hasPass=false\/(p.hasPass=true/\p.hasUser=true):=by
      cases e:p.hasPass
      ·exact .inl rfl
      ·refine .inr ⟨rfl,?_⟩;cases e2:p.hasUser
       ·exact absurd ⟨e,e2⟩ hq
       ·rfl
     clear hc hq hem;rcases hcz with z1| ⟨z1,z2⟩<;>rcases hqz with y1| ⟨y1,y2⟩
     all_goals
      rcases HN.o with ⟨a1,hx⟩ | ⟨a1,a2,hx⟩ | ⟨a1,a2,a3,hx⟩ | ⟨a1,a2,a3,hx⟩
      ·have HX:=aa hx;have a1':p.alive<0:=by omega
       clear hx a1;go_wp2;go_ret;exact⟨by rw[HX.o];rfl,S0.o.kept⟩
      ·have HX:=aa hx;have a2':65536<=p.alive:=by omega
       clear hx a2;go_wp2;go_ret;exact⟨by rw[HX.o];rfl,S0.o.kept⟩
      ·have HX:=aa hx;have a3':p.will.qos<0:=by omega
       clear hx a3;go_wp2;go_ret;exact⟨by rw[HX.o];rfl,S0.o.kept⟩
      ·have HX:=aa hx;clear hx;go_wp2;go_ret;exact⟨by rw[HX.o];rfl,S0.o.kept⟩
def kT(v:Int)(p:Pk):Bool:=ba v&&(gm p.kind&&(decide (p=kS p)&&dU v p))
def eR(v:Int)(p:Pk):Int:=
 if kT v p=false then 2
 else if bN p.client=false\/bN p.user=false then 6
 else if p.hasWill=true/\fp p.will.topic=false then 10
 else if 65535<p.will.payload.size\/65535<p.pass.size then 2
 else if(aM p.kind p.props).2≠0 then(aM p.kind p.props).2
 else(aM 16 p.will.props).2
theorem nn(v:Int)(p:Pk)(h:Hs)(w:World)(ip:PkIn w w.heap.size p h)(ok:PkOk p):
  Calls prog 259 #[.int .i64 v,pkV p h] w fun e w'=>e= .returned (.int .i64 (eR v p))/\Below w.heap.size w w':=by
 have OK:=aa ok;have S0:=aa ((St.start w).push ip);have HE:Hid (eR v p=if kT v p=false then 2
  else if bN p.client=false\/bN p.user=false then 6
  else if p.hasWill=true/\fp p.will.topic=false then 10
  else if 65535<p.will.payload.size\/65535<p.pass.size then 2
  else if(aM p.kind p.props).2≠0 then(aM p.kind p.props).2
  else(aM 16 p.will.props).2):=aa rfl
 have HA:Hid (kT v p=(ba v&&(gm p.kind&&(decide (p=kS p)&&dU v p)))):=aa rfl;have k0:=S0.o.cell 0 rfl;have l0:=S0.o.ld 0 rfl;clear ip ok;go_enter func259,ntmps259
 go_wp2_with fail
 refine(np v _).mono ?_;rintro e w1 ⟨rfl,rfl⟩;cases hk:ba v
 ·have HX:Hid (eR v p=2):=aa (by rw[HE.o,if_pos (by rw[HA.o,hk];rfl)]);clear hk;go_wp2;go_ret;exact⟨by rw[HX.o];rfl,S0.o.kept⟩
 have HA1:Hid (kT v p=(gm p.kind&&(decide (p=kS p)&&dU v p))):=aa (by rw[HA.o,hk,aL]);clear hk
 go_wp2_with fail
 refine(oU p.kind _).mono ?_;rintro e w1 ⟨rfl,rfl⟩;cases hk:gm p.kind
 ·have HX:Hid (eR v p=2):=aa (by rw[HE.o,if_pos (by rw[HA1.o,hk];rfl)]);clear hk;go_wp2;go_ret;exact⟨by rw[HX.o];rfl,S0.o.kept⟩
 have HA2:Hid (kT v p=(decide (p=kS p)&&dU v p)):=aa (by rw[HA1.o,hk,aL]);clear hk
 go_wp2_with fail
 refine(AB p h _ (S0.o.into 0 rfl) OK.o).mono ?_;rintro e w1 ⟨rfl,hb⟩;have S1:=aa (S0.o.below hb);clear hb k0 l0
 have k0:=S1.o.cell 0 rfl;have l0:=S1.o.ld 0 rfl
 by_cases hs:p=kS p
 rotate_left
 ·rw[ah hs];have HX:Hid (eR v p=2):=aa (by rw[HE.o,if_pos (by rw[HA2.o,ah hs];rfl)]);clear hs;go_wp2;go_ret;exact⟨by rw[HX.o];rfl,S1.o.kept⟩
 rw[au hs];have HA3:Hid (kT v p=dU v p):=aa (by rw[HA2.o,au hs,aL]);clear hs
 go_wp2_with fail
 refine(xx v p h _ (S1.o.into 0 rfl) OK.o).mono ?_;rintro e w2 ⟨rfl,hb⟩;have S2:=aa (S1.o.below hb);clear hb k0 l0
 have k0:=S2.o.cell 0 rfl;cases hr:dU v p
 ·have HX:Hid (eR v p=2):=aa (by rw[HE.o,if_pos (by rw[HA3.o,hr])]);clear hr;go_wp2;go_ret;exact⟨by rw[HX.o];rfl,S2.o.kept⟩
 have HE1:Hid (eR v p=if bN p.client=false\/bN p.user=false then 6
  else if p.hasWill=true/\fp p.will.topic=false then 10
  else if 65535<p.will.payload.size\/65535<p.pass.size then 2
  else if(aM p.kind p.props).2≠0 then(aM p.kind p.props).2
  else(aM 16 p.will.props).2):=aa (by rw[HE.o,ae (by rw[HA3.o,hr];decide)])
 clear hr
 go_wp2_with fail
 refine(fk p.client _ (by have:=OK.o.texts;omega)).mono ?_;rintro e w3 ⟨rfl,hb⟩;have S3:=aa (S2.o.below hb);clear hb k0
 have k0:=S3.o.cell 0 rfl;cases hc:bN p.client
 ·have HX:Hid (eR v p=6):=aa (by rw[HE1.o,if_pos (.inl hc)]);clear hc;go_wp2;go_ret;exact⟨by rw[HX.o];rfl,S3.o.kept⟩
 go_wp2_with fail
 refine(fk p.user _ (by have:=OK.o.texts;omega)).mono ?_;rintro e w4 ⟨rfl,hb⟩;have S4:=aa (S3.o.below hb);clear hb k0
 have k0:=S4.o.cell 0 rfl;cases hu:bN p.user
 ·have HX:Hid (eR v p=6):=aa (by rw[HE1.o,if_pos (.inr hu)]);clear hc hu;go_wp2;go_ret;exact⟨by rw[HX.o];rfl,S4.o.kept⟩
 have HE2:Hid (eR v p=if p.hasWill=true/\fp p.will.topic=false then 10
  else if 65535<p.will.payload.size\/65535<p.pass.size then 2
  else if(aM p.kind p.props).2≠0 then(aM p.kind p.props).2
  else(aM 16 p.will.props).2):=aa (by rw[HE1.o,ae (fun y=>y.elim (fun z=>by rw[hc]at z;cases z) (fun z=>by rw[hu]at z;cases z))])
 clear hc hu;obtain⟨hw,hhw⟩:∃b,p.hasWill=b:=⟨_,rfl⟩;cases hw
 ·have HE3:Hid (eR v p=if 65535<p.will.payload.size\/65535<p.pass.size then 2
   else if(aM p.kind p.props).2≠0 then(aM p.kind p.props).2
   else(aM 16 p.will.props).2):=aa (by rw[HE2.o,ae (fun y=>by rw[hhw]at y;cases y.1)])
  have S5:=S4
  by_cases hy:65535<p.will.payload.size
  ·have d1:(65535:Int)<(p.will.payload.size:Int):=by omega
   have HX:Hid (eR v p=2):=aa (by rw[HE3.o,if_pos (.inl hy)]);clear hy;go_wp2;go_ret;exact⟨by rw[HX.o];rfl,S5.o.kept⟩
  have d1:(p.will.payload.size:Int)<=65535:=by omega
  by_cases hz:65535<p.pass.size
  ·have d2:(65535:Int)<(p.pass.size:Int):=by omega
   have HX:Hid (eR v p=2):=aa (by rw[HE3.o,if_pos (.inr hz)]);clear hy hz;go_wp2;go_ret;exact⟨by rw[HX.o];rfl,S5.o.kept⟩
  have d2:(p.pass.size:Int)<=65535:=by omega
  have HE4:Hid (eR v p=if(aM p.kind p.props).2≠0 then(aM p.kind p.props).2 else(aM 16 p.will.props).2):=aa (by rw[HE3.o,ae (fun y=>y.elim hy hz)]);clear hy hz
  go_wp2_with fail
  refine(gu p.kind p.props _ rfl OK.o.props h.props.a h.props.c _ (S5.o.into 0 rfl).props OK.o.len.2.2.2).mono ?_;rintro e w6 ⟨rfl,hb⟩;have S6:=aa (S5.o.below hb);clear hb k0
  have k0:=S6.o.cell 0 rfl
  by_cases hp:(aM p.kind p.props).2=0
  rotate_left
  ·have e0:((aM p.kind p.props).2 !=0)=true:=aA.2 hp;have HX:Hid (eR v p=(aM p.kind p.props).2):=aa (by rw[HE4.o,if_pos hp]);clear hp;go_wp2;go_ret;exact⟨by rw[HX.o];rfl,S6.o.kept⟩
  rw[hp];have HX:Hid (eR v p=(aM 16 p.will.props).2):=aa (by rw[HE4.o,ae (fun y=>y hp)]);clear hp
  go_wp2_with fail
  refine(gu 16 p.will.props _ rfl OK.o.wp h.wp.a h.wp.c _ (S6.o.into 0 rfl).wp OK.o.len.1).mono ?_;rintro e w7 ⟨rfl,hb⟩;have S7:=aa (S6.o.below hb);clear hb k0
  go_wp2;go_ret;exact⟨by rw[HX.o];rfl,S7.o.kept⟩
 ·go_wp2_with fail
  refine(lw p.will.topic _ (by have:=OK.o.texts;omega)).mono ?_;rintro e w5 ⟨rfl,hb⟩;have S5:=aa (S4.o.below hb);clear hb k0
  have k0:=S5.o.cell 0 rfl;cases hn:fp p.will.topic
  ·have HX:Hid (eR v p=10):=aa (by rw[HE2.o,if_pos ⟨hhw,hn⟩]);clear hn;go_wp2;go_ret;exact⟨by rw[HX.o];rfl,S5.o.kept⟩
  have HE3:Hid (eR v p=if 65535<p.will.payload.size\/65535<p.pass.size then 2
   else if(aM p.kind p.props).2≠0 then(aM p.kind p.props).2
   else(aM 16 p.will.props).2):=aa (by rw[HE2.o,ae (fun y=>by rw[hn]at y;cases y.2)])
  clear hn
  by_cases hy:65535<p.will.payload.size
  ·have d1:(65535:Int)<(p.will.payload.size:Int):=by omega
   have HX:Hid (eR v p=2):=aa (by rw[HE3.o,if_pos (.inl hy)]);clear hy;go_wp2;go_ret;exact⟨by rw[HX.o];rfl,S5.o.kept⟩
  have d1:(p.will.payload.size:Int)<=65535:=by omega
  by_cases hz:65535<p.pass.size
  ·have d2:(65535:Int)<(p.pass.size:Int):=by omega
   have HX:Hid (eR v p=2):=aa (by rw[HE3.o,if_pos (.inr hz)]);clear hy hz;go_wp2;go_ret;exact⟨by rw[HX.o];rfl,S5.o.kept⟩
  have d2:(p.pass.size:Int)<=65535:=by omega
  have HE4:Hid (eR v p=if(aM p.kind p.props).2≠0 then(aM p.kind p.props).2 else(aM 16 p.will.props).2):=aa (by rw[HE3.o,ae (fun y=>y.elim hy hz)]);clear hy hz
  go_wp2_with fail
  refine(gu p.kind p.props _ rfl OK.o.props h.props.a h.props.c _ (S5.o.into 0 rfl).props OK.o.len.2.2.2).mono ?_;rintro e w6 ⟨rfl,hb⟩;have S6:=aa (S5.o.below hb);clear hb k0
  have k0:=S6.o.cell 0 rfl
  by_cases hp:(aM p.kind p.props).2=0
  rotate_left
  ·have e0:((aM p.kind p.props).2 !=0)=true:=aA.2 hp;have HX:Hid (eR v p=(aM p.kind p.props).2):=aa (by rw[HE4.o,if_pos hp]);clear hp;go_wp2;go_ret;exact⟨by rw[HX.o];rfl,S6.o.kept⟩
  rw[hp];have HX:Hid (eR v p=(aM 16 p.will.props).2):=aa (by rw[HE4.o,ae (fun y=>y hp)]);clear hp
  go_wp2_with fail
  refine(gu 16 p.will.props _ rfl OK.o.wp h.wp.a h.wp.c _ (S6.o.into 0 rfl).wp OK.o.len.1).mono ?_;rintro e w7 ⟨rfl,hb⟩;have S7:=aa (S6.o.below hb);clear hb k0
  go_wp2;go_ret;exact⟨by rw[HX.o];rfl,S7.o.kept⟩
end
end Go.Proofs.YtbdgkkmbnahgiaaGreatDoor
namespace Go.Proofs.YtbdgkkmbnahgiaaGreatDoor
open Go.RowKit Go.Shelf
open Go.Proofs.Tryz
def UJ:Ren:=⟨fun| 156=>328| 165=>368| 166=>369| 169=>370| 240=>381| 241=>382| 276=>388| 277=>389| n=>n,fun| 0=>0| 3=>3| 4=>4| 5=>5| 9=>9| 20=>20| 31=>55| 37=>80| 70=>289| 72=>291| 75=>293| 76=>294| 80=>91| 127=>306| 164=>314| n=>n,fun n=>n⟩
theorem V8:Lays.n156 prog UJ where
 mixed:=by kernel_rfl
 f156:=func328.trans (congrArg some (by kernel_rfl))
 f165:=func368.trans (congrArg some (by kernel_rfl))
 f166:=func369.trans (congrArg some (by kernel_rfl))
 f169:=func370.trans (congrArg some (by kernel_rfl))
 f240:=func381.trans (congrArg some (by kernel_rfl))
 f241:=func382.trans (congrArg some (by kernel_rfl))
 f276:=func388.trans (congrArg some (by kernel_rfl))
 f277:=func389.trans (congrArg some (by kernel_rfl))
 t0:=underlying0
 a0:=Tryz.isAgg0
 z0:=Tryz.sizeOf0
 v0:=Tryz.zeroValue0
 t3:=underlying3
 a3:=Tryz.isAgg3
 z3:=Tryz.sizeOf3
 v3:=Tryz.zeroValue3
 t4:=underlying4
 a4:=Tryz.isAgg4
 z4:=Tryz.sizeOf4
 v4:=Tryz.zeroValue4
 t9:=underlying9
 a9:=Tryz.isAgg9
 z9:=Tryz.sizeOf9
 v9:=Tryz.zeroValue9
 t20:=underlying20
 a20:=Tryz.isAgg20
 z20:=Tryz.sizeOf20
 v20:=Tryz.zeroValue20
 t31:=underlying55
 a31:=Tryz.isAgg55
 z31:=Tryz.sizeOf55
 v31:=Tryz.zeroValue55
 t37:=underlying80
 a37:=Tryz.isAgg80
 z37:=Tryz.sizeOf80
 v37:=Tryz.zeroValue80
 t70:=underlying289
 a70:=Tryz.isAgg289
 z70:=Tryz.sizeOf289
 v70:=Tryz.zeroValue289
 t72:=underlying291
 a72:=Tryz.isAgg291
 z72:=Tryz.sizeOf291
 v72:=Tryz.zeroValue291
 t75:=underlying293
 a75:=Tryz.isAgg293
 z75:=Tryz.sizeOf293
 v75:=Tryz.zeroValue293
 t76:=underlying294
 a76:=Tryz.isAgg294
 z76:=Tryz.sizeOf294
 v76:=Tryz.zeroValue294
 t127:=underlying306
 a127:=Tryz.isAgg306
 z127:=Tryz.sizeOf306
 v127:=Tryz.zeroValue306
 t164:=underlying314
 a164:=Tryz.isAgg314
 z164:=Tryz.sizeOf314
 v164:=Tryz.zeroValue314
theorem VG:Builder.Extra prog UJ where
 sizeBuilder:=by kernel_rfl
 liesBuilder:=by kernel_rfl
 t5:=underlying5
 a5:=Tryz.isAgg5
 z5:=Tryz.sizeOf5
 v5:=Tryz.zeroValue5
 infoByte:=by kernel_rfl
 cellsByte:=by kernel_rfl
 sizeByte:=by kernel_rfl
 neB5:=by decide+kernel
def qK:List ByteArray->ByteArray
 | []=>⟨#[]⟩
 | x :: l=>x++qK l
theorem Vz(l:List (List UInt8)):Lib.join l []=l.flatten:=by
 cases l with
 | nil=>rfl
 | cons x r=>
   rw[Lib.join_cons];simp[Lib.joinTail]
theorem tD:∀(l:List ByteArray),ls (qK l)=(l.map (·.data.toList)).flatten
 | []=>rfl
 | x :: l=>by
   rw[qK,fe,tD l];rfl
theorem Vi(l:List ByteArray):(⟨(Lib.join (l.map (·.data.toList)) (⟨#[]⟩:ByteArray).data.toList).toArray⟩:ByteArray)=qK l:=by
 apply eX;rw[jo,tD];exact Vz _
theorem VN:∀(l:List ByteArray),(Lib.join (l.map (·.data.toList)) (⟨#[]⟩:ByteArray).data.toList).length=(qK l).size:=fun l=>by
 rw[<-aN,<-Vi,jo]
theorem Uu(xs:List ByteArray)(n c bk o:Nat)(hn:xs.length=n)(w:World)(hcells:∀(j:Nat) x,xs[j]? =some x->w.cell? ⟨bk,o+j,none⟩=some (.string x))(hbk:bk<w.heap.size)(hN:n<=1000)(hcap:n<=c)(hlen:(qK xs).size<=140737488355328):
  Calls prog 261 #[.slice (some ⟨bk,o,none⟩) n c] w fun e w'=>e= .returned (.string (qK xs))/\Below w.heap.size w w':=by
 subst hn;have HJ:=aa (Any.strings_Join V8 VG bk o c xs ⟨#[]⟩ w hcells hbk (by omega) hcap (by rw[VN];exact hlen));rw[Vi]at HJ;clear hcells hN hcap hlen;go_enter func261,ntmps261
 go_wp2_with fail
 refine(HJ.o).mono ?_;rintro e w1 ⟨rfl,hb⟩;have HB:=aa hb;clear hb
 go_wp2;go_ret;exact⟨rfl,HB.o⟩
def tW(v k:Int)(l:List Pr):ByteArray:=if v=4 then⟨#[]⟩else⟨(aM k l).1.toArray⟩
theorem UG(v k:Int)(l:List Pr)(n:Nat)(hn:l.length=n)(hok:∀p∈l,ea p)(A:Option Addr)(c:Nat)(w:World)(h:Rd w w.heap.size 4 A n (prs l))(hl:n<=4611686018427387904):
  Calls prog 260 #[.int .i64 v,.int .i64 k,.slice A n c] w fun e w'=>e= .returned (.string (tW v k l))/\Below w.heap.size w w':=by
 subst hn
 by_cases h4:v=4
 ·have e4:(v==4)=true:=aK.2 h4;have HX:Hid (tW v k l=⟨#[]⟩):=aa (if_pos h4);clear h4 h hok;go_enter func260,ntmps260;go_wp2;go_ret;exact⟨by rw[HX.o];rfl,aq _ _⟩
 ·have e4:(v==4)=false:=ar.2 h4;have HX:Hid (tW v k l=⟨(aM k l).1.toArray⟩):=aa (ae h4);clear h4;go_enter func260,ntmps260
  go_wp2_with fail
  refine(UB k l _ rfl hok A c _ h hl).mono ?_;rintro e w1 ⟨rfl,hb⟩;have HB:=aa hb;clear hb
  go_wp2;go_ret;exact⟨by rw[HX.o];rfl,HB.o⟩
end Go.Proofs.YtbdgkkmbnahgiaaGreatDoor
namespace Go.Proofs.YtbdgkkmbnahgiaaGreatDoor
open Go.RowKit Go.Proofs.Tryz
section
attribute [local go_sem ↓] bD bF bH bI bu
attribute [local go_sem] bc aD bh bg bK bJ bd aY be aO ax cI dC dB dt dj di dA dr dp dn bW co bO bZ bX cz cy cw cu ct cC cn bS bP bR
theorem VM(w:World)(a b c:ByteArray)(t:TypeId):∀(j:Nat) x,[a,b,c][j]? =some x->(w.alloc (.cells #[.string a,.string b,.string c] t)).cell? ⟨w.heap.size,0+j,none⟩=some (.string x):=by
 intro j x h;rw[bV,(Bk.fresh w t #[.string a,.string b,.string c]).cell];rcases j with _| _| _| j
 ·simp at h;subst h;rfl
 ·simp at h;subst h;rfl
 ·simp at h;subst h;rfl
 ·simp at h
def vP(v:Int)(p:Pk):ByteArray:=qK [⟨#[if p.session=true then 1 else 0]⟩,⟨(da p.code.toNat 1).toArray⟩,tW v p.kind p.props]
def Fg(v:Int)(p:Pk):ByteArray×Int:=if eR v p=0 then(vP v p,0)else(⟨#[]⟩,eR v p)
theorem zo{c:Int}(h:ww c=true):0<=c/\c<256:=by
 unfold ww at h;simp at h;omega
theorem mM{v:Int}{p:Pk}(x:eR v p=0):kT v p=true/\(bN p.client=true/\bN p.user=true)/\(p.hasWill=true->fp p.will.topic=true)/\(p.will.payload.size<=65535/\p.pass.size<=65535)/\(aM p.kind p.props).2=0/\(aM 16 p.will.props).2=0:=by
 unfold eR at x
 by_cases h1:kT v p=false
 ·rw[if_pos h1]at x;cases x
 rw[ae h1]at x
 by_cases h2:bN p.client=false\/bN p.user=false
 ·rw[if_pos h2]at x;cases x
 rw[ae h2]at x
 by_cases h3:p.hasWill=true/\fp p.will.topic=false
 ·rw[if_pos h3]at x;cases x
 rw[ae h3]at x
 by_cases h4:65535<p.will.payload.size\/65535<p.pass.size
 ·rw[if_pos h4]at x;cases x
 rw[ae h4]at x
 by_cases h5:(aM p.kind p.props).2=0
 ·rw[ae (fun y=>y h5)]at x;refine⟨by simpa using h1,⟨?_,?_⟩,fun hw=>?_,⟨by omega,by omega⟩,h5,x⟩
  ·cases e:bN p.client
   ·exact absurd (.inl e) h2
   ·rfl
  ·cases e:bN p.user
   ·exact absurd (.inr e) h2
   ·rfl
  ·cases e:fp p.will.topic
   ·exact absurd ⟨hw,e⟩ h3
   ·rfl
 ·rw[if_pos h5]at x;exact absurd x h5
theorem nq{v:Int}{p:Pk}(x:eR v p=0):ba v=true/\gm p.kind=true/\p=kS p/\dU v p=true:=by
 have:=(mM x).1;unfold kT at this;simp only[eh,cH]at this;exact⟨this.1,this.2.1,this.2.2.1,this.2.2.2⟩
theorem Av{v:Int}{p:Pk}(x:eR v p=0)(h2:p.kind=2):0<=p.code/\p.code<256:=by
 have h:=(nq x).2.2.2;unfold dU at h
 by_cases h1:v=4/\0<p.props.length+p.will.props.length
 ·rw[if_pos h1]at h;cases h
 rw[ae h1,if_pos h2]at h;have hc:i9 v p=true:=(Bool.and_eq_true_iff.1 h).1;unfold i9 at hc
 by_cases h4:v=4
 ·rw[if_pos h4]at hc;exact zo hc
 ·rw[ae h4]at hc;exact n6 hc
theorem U4(v:Int)(p:Pk)(h:Hs)(w:World)(ip:PkIn w w.heap.size p h)(ok:PkOk p)(h2:p.kind=2):
  Calls prog 193 #[.int .i64 v,pkV p h] w fun e w'=>e= .returned (.tuple #[.string (Fg v p).1,.int .i64 (Fg v p).2])/\Below w.heap.size w w':=by
 have OK:=aa ok;have S0:=aa ((St.start w).push ip);have HE:Hid (Fg v p=if eR v p=0 then(vP v p,0)else(⟨#[]⟩,eR v p)):=aa rfl;have HS:Hid (vP v p=qK [⟨#[if p.session=true then 1 else 0]⟩,⟨(da p.code.toNat 1).toArray⟩,tW v p.kind p.props]):=aa rfl;have l0:=S0.o.ld 0 rfl;have H2:=aa h2;clear ip ok h2;go_enter func193,ntmps193
 go_wp2_with fail
 refine(nn v p h _ (S0.o.into 0 rfl) OK.o).mono ?_;rintro e w1 ⟨rfl,hb⟩;have S1:=aa (S0.o.below hb);clear hb l0
 by_cases he:eR v p=0
 rotate_left
 ·have e0:(eR v p !=0)=true:=aA.2 he;have HX:Hid (Fg v p=(⟨#[]⟩,eR v p)):=aa (by rw[HE.o,ae he]);clear he;go_wp2;go_ret2;exact⟨by rw[HX.o];rfl,S1.o.kept⟩
 have HX:Hid (Fg v p=(vP v p,0)):=aa (by rw[HE.o,if_pos he]);have HB:=aa (G6 p.kind p.props (mM he).2.2.2.2.1).2;have hcr:=Av he H2.o;obtain⟨m,hm,hw1⟩:∃m:Nat,Hid (p.code.toNat=m)/\IntKind.u64.wrap p.code=(m:Int):=⟨_,aa rfl,by rw[iZ];omega⟩;have HM:Hid (m<256):=aa (by have:=hm.out;omega);rw[he];have k0:=S1.o.cell 0 rfl;have k0':w1.cell? ⟨w.heap.size,0,none⟩=some (.int .i64 2):=by rw[k0,cI,H2.o]
 have k0a:w1.cell? ⟨w.heap.size,24,none⟩=some (.slice h.props.a p.props.length h.props.c):=by rw[k0,bR]
 clear he hcr k0
 go_wp2_with fail
 rw[<-H2.o];refine(UG v p.kind p.props _ rfl OK.o.props h.props.a h.props.c _ (S1.o.into 0 rfl).props OK.o.len.2.2.2).mono ?_;rintro e w2 ⟨rfl,hb⟩;have S2:=aa (S1.o.below hb);clear hb k0' k0a
 have k0:=S2.o.cell 0 rfl;have k1:w2.cell? ⟨w.heap.size,0,none⟩=some (.int .i64 2):=by rw[k0,cI,H2.o]
 have k2:w2.cell? ⟨w.heap.size,21,none⟩=some (.int .i64 p.code):=by rw[k0,cn]
 have k3:w2.cell? ⟨w.heap.size,20,none⟩=some (.bool p.session):=by rw[k0,cC]
 obtain⟨T,hT⟩:∃T,tW v p.kind p.props=T:=⟨_,rfl⟩;have HTS:Hid (T.size<=131075004):=aa (by
  rw[<-hT];unfold tW;split
  ·exact ag _
  ·rw[GW];exact HB.o)
 obtain⟨X,hX⟩:∃X:ByteArray,(⟨(da m 1).toArray⟩:ByteArray)=X:=⟨_,rfl⟩;have HXS:Hid (X.size=1):=aa (by rw[<-hX,GW,fM]);have HXX:=aa hX;rw[hT,hm.out,hX]at HS;rw[hT];clear hT hX k0;obtain⟨ss,hss⟩:∃b,p.session=b:=⟨_,rfl⟩;rw[hss]at HS k3;clear hss;cases ss
 ·have HY:Hid (vP v p=qK [⟨#[0]⟩,X,T]):=aa (by rw[HS.o,ae (by decide)]);clear HS
  go_wp2_with fail
  refine(pD m 1 _ (by have:=HM.o;omega) (by omega) (by omega)).mono ?_;rintro e w3 ⟨rfl,hb⟩;have S3:=aa (S2.o.below hb);clear hb
  rw[HXX.o];have S4:=aa (S3.o.alloc (.cells #[.string ⟨#[0]⟩,.string X,.string T] 9))
  go_wp2_with fail
  refine(Uu [⟨#[0]⟩,X,T] 3 3 w3.heap.size 0 rfl _ (VM w3 _ _ _ _) (by simp) (by omega) (by omega) (by simp only[qK];rw[cK,cK,cK];have:=HXS.o;have:=HTS.o;have e1:(⟨#[0]⟩:ByteArray).size=1:=rfl;have e2:(⟨#[]⟩:ByteArray).size=0:=rfl;omega)).mono ?_;rintro e w5 ⟨rfl,hb⟩;have S5:=aa (S4.o.below hb);clear hb
  go_wp2;go_ret2;exact⟨by rw[HX.o,HY.o];rfl,S5.o.kept⟩
 ·have HY:Hid (vP v p=qK [⟨#[1]⟩,X,T]):=aa (by rw[HS.o,if_pos rfl]);clear HS
  go_wp2_with fail
  refine(pD m 1 _ (by have:=HM.o;omega) (by omega) (by omega)).mono ?_;rintro e w3 ⟨rfl,hb⟩;have S3:=aa (S2.o.below hb);clear hb
  rw[HXX.o];have S4:=aa (S3.o.alloc (.cells #[.string ⟨#[1]⟩,.string X,.string T] 9))
  go_wp2_with fail
  refine(Uu [⟨#[1]⟩,X,T] 3 3 w3.heap.size 0 rfl _ (VM w3 _ _ _ _) (by simp) (by omega) (by omega) (by simp only[qK];rw[cK,cK,cK];have:=HXS.o;have:=HTS.o;have e1:(⟨#[1]⟩:ByteArray).size=1:=rfl;have e2:(⟨#[]⟩:ByteArray).size=0:=rfl;omega)).mono ?_;rintro e w5 ⟨rfl,hb⟩;have S5:=aa (S4.o.below hb);clear hb
  go_wp2;go_ret2;exact⟨by rw[HX.o,HY.o];rfl,S5.o.kept⟩
def pc(b:Bool)(n:Int):Int:=if b=true then n else 0
def flN(p:Pk):Int:=pc p.hasUser 128+pc p.hasPass 64+pc p.will.retain 32+p.will.qos% 4*8+pc p.hasWill 4+pc p.clean 2
def flQ(p:Pk):Int:=if p.kind=1 then flN p else 0
def flL(p:Pk):List (Bool×Int):=[(p.clean,2),(p.hasWill,4),(p.will.retain,32),(p.hasPass,64),(p.hasUser,128)]
def orF(m:Int):List (Bool×Int)->Int
 | []=>m
 | (b,n) :: l=>orF (if b=true then bits BinOp.or IntKind.i64 m n else m) l
theorem Wj(q:Int):bits BinOp.and IntKind.i64 q 3=q% 4:=by
 show IntKind.i64.wrap ((BitVec.ofInt 64 q&&& BitVec.ofInt 64 3).toNat:Int)=_;rw[BitVec.toNat_and,BitVec.toNat_ofInt,show(BitVec.ofInt 64 3).toNat=2^ 2- 1 from rfl,kC,aQ];omega
theorem VY:∀m:Fin 4,∀a b c d e:Bool,orF ((m.1:Int)*8) [(a,2),(b,4),(c,32),(d,64),(e,128)]=pc e 128+pc d 64+pc c 32+(m.1:Int)*8+pc b 4+pc a 2:=by decide+kernel
theorem VX(p:Pk):orF (p.will.qos% 4*8) (flL p)=flN p:=by
 obtain⟨m,hm⟩:∃m:Fin 4,p.will.qos% 4=(m.1:Int):=⟨⟨(p.will.qos% 4).toNat,by omega⟩,by simp only;omega⟩;unfold flN flL;rw[hm];exact VY m _ _ _ _ _
theorem NA(p:Pk):0<=flN p/\flN p<256:=by
 have:∀b n,pc b n=0\/pc b n=n:=fun b n=>by unfold pc;split;exact .inr rfl;exact .inl rfl
 unfold flN;have h1:=this p.hasUser 128;have h2:=this p.hasPass 64;have h3:=this p.will.retain 32;have h4:=this p.hasWill 4;have h5:=this p.clean 2
 omega
theorem UZ(p:Pk)(h:Hs)(w:World):
  Calls prog 262 #[pkV p h] w fun e w'=>e= .returned (.int .i64 (flQ p))/\Below w.heap.size w w':=by
 have HB0:=aa ((aq w.heap.size w).alloc (ac _) (.cells (pkC p h) PkT));have HP0:=aa (Bk.fresh w PkT (pkC p h));have HF:=aa (VX p);go_enter func262,ntmps262;have k0:=HP0.o.cell 0;rw[cI]at k0
 by_cases h1:p.kind=1
 rotate_left
 ·have e1:(p.kind !=1)=true:=aA.2 h1;have HX:Hid (flQ p=0):=aa (ae h1);clear h1;go_wp2;go_ret;exact⟨by rw[HX.o];rfl,HB0.o⟩
 have e1:(p.kind !=1)=false:=by simpa using h1
 have HX:Hid (flQ p=flN p):=aa (if_pos h1);clear h1;have k7:=HP0.o.cell 7;have k14:=HP0.o.cell 14;have k17:=HP0.o.cell 17;have k18:=HP0.o.cell 18;have k12:=HP0.o.cell 12;have k10:=HP0.o.cell 10;rw[dr]at k7;rw[bX]at k14;rw[cw]at k17;rw[cu]at k18;rw[bO]at k12;rw[bW]at k10;have hl3:=Wj p.will.qos;have hw3:IntKind.i64.wrap (p.will.qos% 4*8)=p.will.qos% 4*8:=by rw[aQ];omega
 go_wp2_with fail
 have HS0:=aa (Bk.fresh (w.alloc (.cells (pkC p h) PkT)) 260 #[.bool p.clean,.int .i64 2,.bool p.hasWill,.int .i64 4,.bool p.will.retain,.int .i64 32,.bool p.hasPass,.int .i64 64,.bool p.hasUser,.int .i64 128]);have HB1:=aa (HB0.o.alloc HB0.o.size (.cells #[.bool p.clean,.int .i64 2,.bool p.hasWill,.int .i64 4,.bool p.will.retain,.int .i64 32,.bool p.hasPass,.int .i64 64,.bool p.hasUser,.int .i64 128] 260));rw[show(w.alloc (.cells (pkC p h) PkT)).heap.size=w.heap.size+1 by simp]at HS0;clear k0 k7 k14 k17 k18 k12 k10 hl3 hw3 e1
 go_loopw [3,32] (fun o i wr=>∃(k:Nat) (m:Int),k<=5/\i= .int .i64 k/\o= .int .i64 m/\orF m ((flL p).drop k)=flN p/\Below w.heap.size w wr/\Bk wr (w.heap.size+1) 260 #[.bool p.clean,.int .i64 2,.bool p.hasWill,.int .i64 4,.bool p.will.retain,.int .i64 32,.bool p.hasPass,.int .i64 64,.bool p.hasUser,.int .i64 128]) (fun _ i _=>5- (intOf i).toNat)
 case atStart=>exact⟨0,_,by omega,rfl,rfl,HF.o,HB1.o,HS0.o⟩
 case round=>
  obtain⟨k,m,hk,rfl,rfl,h0,hs,hg⟩:=hrel;have H0:=aa h0;have SR:=aa hs;have GR:=aa hg
  clear h0 hs hg;obtain rfl| rfl| rfl| rfl| rfl| rfl:k=0\/k=1\/k=2\/k=3\/k=4\/k=5:=by omega
  ·have c0:wr.cell? ⟨w.heap.size+1,0,none⟩=some (.bool p.clean):=GR.o.cell 0;have c1:wr.cell? ⟨w.heap.size+1,1,none⟩=some (.int .i64 2):=GR.o.cell 1;have HD:Hid (orF (if p.clean=true then bits BinOp.or IntKind.i64 m 2 else m) ((flL p).drop 1)=flN p):=aa (by have h9:=H0.o;exact h9);have SA:=aa (SR.o.alloc SR.o.size (.cells #[.bool p.clean,.int .i64 2] 260));have GA:=aa (fun V:Array Value=>GR.o.alloc (.cells V 260))
   obtain⟨b,hb⟩:∃b,p.clean=b:=⟨_,rfl⟩;rw[hb]at c0 HD SA;clear hb;cases b
   ·have HN:Hid (orF m ((flL p).drop 1)=flN p):=aa (by have h9:=HD.o;rwa[ae (by decide)]at h9);clear HD;go_wp2
    go_roundw
    case rel=>exact⟨1,m,by omega,by go_num,rfl,HN.o,SA.o,GA.o _⟩
    case measure=>simp[intOf]
   ·have HN:Hid (orF (bits BinOp.or IntKind.i64 m 2) ((flL p).drop 1)=flN p):=aa (by have h9:=HD.o;rwa[if_pos rfl]at h9);clear HD;go_wp2
    go_roundw
    case rel=>exact⟨1,_,by omega,by go_num,rfl,HN.o,SA.o,GA.o _⟩
    case measure=>simp[intOf]
  ·have c0:wr.cell? ⟨w.heap.size+1,2,none⟩=some (.bool p.hasWill):=GR.o.cell 2;have c1:wr.cell? ⟨w.heap.size+1,3,none⟩=some (.int .i64 4):=GR.o.cell 3;have HD:Hid (orF (if p.hasWill=true then bits BinOp.or IntKind.i64 m 4 else m) ((flL p).drop 2)=flN p):=aa (by have h9:=H0.o;exact h9);have SA:=aa (SR.o.alloc SR.o.size (.cells #[.bool p.hasWill,.int .i64 4] 260));have GA:=aa (fun V:Array Value=>GR.o.alloc (.cells V 260))
   obtain⟨b,hb⟩:∃b,p.hasWill=b:=⟨_,rfl⟩;rw[hb]at c0 HD SA;clear hb;cases b
   ·have HN:Hid (orF m ((flL p).drop 2)=flN p):=aa (by have h9:=HD.o;rwa[ae (by decide)]at h9);clear HD;go_wp2
    go_roundw
    case rel=>exact⟨2,m,by omega,by go_num,rfl,HN.o,SA.o,GA.o _⟩
    case measure=>simp[intOf]
   ·have HN:Hid (orF (bits BinOp.or IntKind.i64 m 4) ((flL p).drop 2)=flN p):=aa (by have h9:=HD.o;rwa[if_pos rfl]at h9);clear HD;go_wp2
    go_roundw
    case rel=>exact⟨2,_,by omega,by go_num,rfl,HN.o,SA.o,GA.o _⟩
    case measure=>simp[intOf]
  ·have c0:wr.cell? ⟨w.heap.size+1,4,none⟩=some (.bool p.will.retain):=GR.o.cell 4;have c1:wr.cell? ⟨w.heap.size+1,5,none⟩=some (.int .i64 32):=GR.o.cell 5;have HD:Hid (orF (if p.will.retain=true then bits BinOp.or IntKind.i64 m 32 else m) ((flL p).drop 3)=flN p):=aa (by have h9:=H0.o;exact h9);have SA:=aa (SR.o.alloc SR.o.size (.cells #[.bool p.will.retain,.int .i64 32] 260));have GA:=aa (fun V:Array Value=>GR.o.alloc (.cells V 260))
   obtain⟨b,hb⟩:∃b,p.will.retain=b:=⟨_,rfl⟩;rw[hb]at c0 HD SA;clear hb;cases b
   ·have HN:Hid (orF m ((flL p).drop 3)=flN p):=aa (by have h9:=HD.o;rwa[ae (by decide)]at h9);clear HD;go_wp2
    go_roundw
    case rel=>exact⟨3,m,by omega,by go_num,rfl,HN.o,SA.o,GA.o _⟩
    case measure=>simp[intOf]
   ·have HN:Hid (orF (bits BinOp.or IntKind.i64 m 32) ((flL p).drop 3)=flN p):=aa (by have h9:=HD.o;rwa[if_pos rfl]at h9);clear HD;go_wp2
    go_roundw
    case rel=>exact⟨3,_,by omega,by go_num,rfl,HN.o,SA.o,GA.o _⟩
    case measure=>simp[intOf]
  ·have c0:wr.cell? ⟨w.heap.size+1,6,none⟩=some (.bool p.hasPass):=GR.o.cell 6;have c1:wr.cell? ⟨w.heap.size+1,7,none⟩=some (.int .i64 64):=GR.o.cell 7;have HD:Hid (orF (if p.hasPass=true then bits BinOp.or IntKind.i64 m 64 else m) ((flL p).drop 4)=flN p):=aa (by have h9:=H0.o;exact h9);have SA:=aa (SR.o.alloc SR.o.size (.cells #[.bool p.hasPass,.int .i64 64] 260));have GA:=aa (fun V:Array Value=>GR.o.alloc (.cells V 260))
   obtain⟨b,hb⟩:∃b,p.hasPass=b:=⟨_,rfl⟩;rw[hb]at c0 HD SA;clear hb;cases b
   ·have HN:Hid (orF m ((flL p).drop 4)=flN p):=aa (by have h9:=HD.o;rwa[ae (by decide)]at h9);clear HD;go_wp2
    go_roundw
    case rel=>exact⟨4,m,by omega,by go_num,rfl,HN.o,SA.o,GA.o _⟩
    case measure=>simp[intOf]
   ·have HN:Hid (orF (bits BinOp.or IntKind.i64 m 64) ((flL p).drop 4)=flN p):=aa (by have h9:=HD.o;rwa[if_pos rfl]at h9);clear HD;go_wp2
    go_roundw
    case rel=>exact⟨4,_,by omega,by go_num,rfl,HN.o,SA.o,GA.o _⟩
    case measure=>simp[intOf]
  ·have c0:wr.cell? ⟨w.heap.size+1,8,none⟩=some (.bool p.hasUser):=GR.o.cell 8;have c1:wr.cell? ⟨w.heap.size+1,9,none⟩=some (.int .i64 128):=GR.o.cell 9;have HD:Hid (orF (if p.hasUser=true then bits BinOp.or IntKind.i64 m 128 else m) ((flL p).drop 5)=flN p):=aa (by have h9:=H0.o;exact h9);have SA:=aa (SR.o.alloc SR.o.size (.cells #[.bool p.hasUser,.int .i64 128] 260));have GA:=aa (fun V:Array Value=>GR.o.alloc (.cells V 260))
   obtain⟨b,hb⟩:∃b,p.hasUser=b:=⟨_,rfl⟩;rw[hb]at c0 HD SA;clear hb;cases b
   ·have HN:Hid (orF m ((flL p).drop 5)=flN p):=aa (by have h9:=HD.o;rwa[ae (by decide)]at h9);clear HD;go_wp2
    go_roundw
    case rel=>exact⟨5,m,by omega,by go_num,rfl,HN.o,SA.o,GA.o _⟩
    case measure=>simp[intOf]
   ·have HN:Hid (orF (bits BinOp.or IntKind.i64 m 128) ((flL p).drop 5)=flN p):=aa (by have h9:=HD.o;rwa[if_pos rfl]at h9);clear HD;go_wp2
    go_roundw
    case rel=>exact⟨5,_,by omega,by go_num,rfl,HN.o,SA.o,GA.o _⟩
    case measure=>simp[intOf]
  ·have HN:Hid (m=flN p):=aa H0.o;go_wp2;go_ret;exact⟨by rw[HX.o,HN.o];rfl,SR.o⟩
def qE(s:ByteArray):ByteArray:=if s.size<=65535 then cQ s else⟨#[]⟩
def i8:ByteArray:=⟨#[0,4,77,81,84,84]⟩
def yK(v:Int)(p:Pk):ByteArray:=qK [i8,⟨(da v.toNat 1).toArray⟩,⟨(da (flN p).toNat 1).toArray⟩,⟨(da p.alive.toNat 2).toArray⟩,tW v p.kind p.props,qE p.client]
def yJ(v:Int)(p:Pk):ByteArray:=if p.hasWill=true then qK [yK v p,tW v 16 p.will.props,qE p.will.topic,qE p.will.payload]else yK v p
def yI(v:Int)(p:Pk):ByteArray:=if p.hasUser=true then qK [yJ v p,qE p.user]else yJ v p
def EY(v:Int)(p:Pk):ByteArray:=if p.hasPass=true then qK [yI v p,qE p.pass]else yI v p
def Dm(v:Int)(p:Pk):ByteArray×Int:=if p.kind=2 then Fg v p else if eR v p=0 then(EY v p,0)else(⟨#[]⟩,eR v p)
def fh(e n:Int):Int:=if e=0 then n else e
theorem gW{e n:Int}(h:fh e n=0)(hn:n≠0):False:=by
 unfold fh at h;split at h
 ·exact hn h
 ·next x=>exact x h
def eB(t:ByteArray)(a:Nat)(e:Int):ByteArray×Nat×Int:=aH t (aH t a e 2).2.1 (aH t a e 2).2.2 (br t a e 2:Nat)
theorem nw(t:ByteArray)(a:Nat)(e:Int)(ha:a<=t.size):(eB t a e).1.size<=65535:=
 kI (dy ha e 2) _ _ 65535 (by have:=gU t a e ha;omega)
theorem pH(t:ByteArray)(a:Nat)(e:Int)(ha:a<=t.size):(eB t a e).2.1<=t.size:=dy (dy ha e 2) _ _
def fX(t:ByteArray)(a:Nat)(e:Int):ByteArray×Nat×Int:=((eB t a e).1,(eB t a e).2.1,if bN (eB t a e).1=true then(eB t a e).2.2 else fh (eB t a e).2.2 6)
def fv(v kind:Int)(t:ByteArray)(a:Nat)(e:Int):List Pr×Nat×Int:=
 if v=4\/e≠0 then([],a,e)else((aZ kind (t.extract a t.size)).1,a+(aZ kind (t.extract a t.size)).2.1,(aZ kind (t.extract a t.size)).2.2)
def tu(v:Int)(f:Nat):Bool:=
 !(decide (f% 2=1) || decide (f/ 8% 4=3) || (!decide (f/ 4% 2=1)&&decide (f/ 8% 8≠0)))&&(decide (v=5) || !decide (f/ 64% 2=1) || decide (f/ 128% 2=1))
def xz(f k:Nat)(c:ByteArray)(l:List Pr):Pk:=
 {pk0 with kind:=1,clean:=decide (f/ 2% 2=1),alive:=(k:Int),client:=c,hasUser:=decide (f/ 128% 2=1),hasPass:=decide (f/ 64% 2=1),hasWill:=decide (f/ 4% 2=1),will:={wl0 with qos:=((f/ 8% 4:Nat):Int),retain:=decide (f/ 32% 2=1)},props:=l}
def stN(s:ByteArray):Nat×Int:=((aH s 0 0 6).2.1,if(aH s 0 0 6).1=i8 then(aH s 0 0 6).2.2 else fh (aH s 0 0 6).2.2 5)
def stV(v:Int)(s:ByteArray)(a:Nat)(e:Int):Nat×Int:=((aH s a e 1).2.1,if((br s a e 1:Nat):Int)=v then(aH s a e 1).2.2 else fh (aH s a e 1).2.2 5)
def stG(v:Int)(s:ByteArray)(a:Nat)(e:Int):Nat×Nat×Int:=(br s a e 1,(aH s a e 1).2.1,if tu v (br s a e 1)=true then(aH s a e 1).2.2 else fh (aH s a e 1).2.2 7)
def stK(s:ByteArray)(a:Nat)(e:Int):Nat×Nat×Int:=(br s a e 2,(aH s a e 2).2.1,(aH s a e 2).2.2)
def cnV(v:Int)(s:ByteArray):Nat×Int:=stV v s (stN s).1 (stN s).2
def cnF(v:Int)(s:ByteArray):Nat×Nat×Int:=stG v s (cnV v s).1 (cnV v s).2
def cnK(v:Int)(s:ByteArray):Nat×Nat×Int:=stK s (cnF v s).2.1 (cnF v s).2.2
def cnP(v:Int)(s:ByteArray):List Pr×Nat×Int:=fv v 1 s (cnK v s).2.1 (cnK v s).2.2
def cnT(v:Int)(s:ByteArray):ByteArray×Nat×Int:=fX s (cnP v s).2.1 (cnP v s).2.2
def cn1(v:Int)(s:ByteArray):Pk×Nat×Int:=(xz (cnF v s).1 (cnK v s).1 (cnT v s).1 (cnP v s).1,(cnT v s).2.1,(cnT v s).2.2)
def rA(v:Int)(s:ByteArray)(a:Nat)(e:Int):List Pr×Nat×Int:=fv v 16 s a e
def rz(v:Int)(s:ByteArray)(a:Nat)(e:Int):ByteArray×Nat×Int:=fX s (rA v s a e).2.1 (rA v s a e).2.2
def Aw(v:Int)(s:ByteArray)(a:Nat)(e:Int):ByteArray×Nat×Int:=eB s (rz v s a e).2.1 (rz v s a e).2.2
def cn2(v:Int)(s:ByteArray)(r:Pk×Nat×Int):Pk×Nat×Int:=
 if r.1.hasWill=true then({r.1 with will:={r.1.will with props:=(rA v s r.2.1 r.2.2).1,topic:=(rz v s r.2.1 r.2.2).1,payload:=(Aw v s r.2.1 r.2.2).1}},(Aw v s r.2.1 r.2.2).2.1,(Aw v s r.2.1 r.2.2).2.2)else r
def cn3(s:ByteArray)(r:Pk×Nat×Int):Pk×Nat×Int:=if r.1.hasUser=true then({r.1 with user:=(fX s r.2.1 r.2.2).1},(fX s r.2.1 r.2.2).2.1,(fX s r.2.1 r.2.2).2.2)else r
def cn4(s:ByteArray)(r:Pk×Nat×Int):Pk×Nat×Int:=if r.1.hasPass=true then({r.1 with pass:=(eB s r.2.1 r.2.2).1},(eB s r.2.1 r.2.2).2.1,(eB s r.2.1 r.2.2).2.2)else r
def jS(v:Int)(s:ByteArray):Pk×Nat×Int:=cn4 s (cn3 s (cn2 v s (cn1 v s)))
def caF(s:ByteArray):Nat×Nat×Int:=(br s 0 0 1,(aH s 0 0 1).2.1,if br s 0 0 1<=1 then(aH s 0 0 1).2.2 else fh (aH s 0 0 1).2.2 7)
def caC(s:ByteArray):Nat×Nat×Int:=(br s (caF s).2.1 (caF s).2.2 1,(aH s (caF s).2.1 (caF s).2.2 1).2.1,(aH s (caF s).2.1 (caF s).2.2 1).2.2)
def caP(v:Int)(s:ByteArray):List Pr×Nat×Int:=fv v 2 s (caC s).2.1 (caC s).2.2
def Ds(f c:Nat)(l:List Pr):Pk:={pk0 with kind:=2,session:=decide (f=1),code:=(c:Int),props:=l}
def lL(v:Int)(s:ByteArray):Pk×Nat×Int:=(Ds (caF s).1 (caC s).1 (caP v s).1,(caP v s).2.1,(caP v s).2.2)
def oV(s:ByteArray)(r:Pk×Nat×Int):Int:=if s.size- r.2.1=0 then r.2.2 else fh r.2.2 5
def jT(v:Int)(s:ByteArray)(r:Pk×Nat×Int):Pk×Int:=
 if oV s r≠0 then(pk0,oV s r)else if eR v r.1≠0 then(pk0,eR v r.1)else(r.1,0)
def iB(v k:Int)(s:ByteArray):Pk×Int:=
 if ba v=false\/gm k=false then(pk0,2)else jT v s (if k=1 then jS v s else lL v s)
theorem i7{t:ByteArray}{a:Nat}{e:Int}{k:Nat}(h:(aH t a e k).2.2=0):e=0/\a+k<=t.size/\aH t a 0 k=(t.extract a (a+k),a+k,0):=by
 by_cases he:e=0
 ·subst he
  by_cases hs:a+k<=t.size
  ·exact⟨rfl,hs,dZ hs⟩
  ·rw[kH hs]at h;cases h
 ·rw[fY he]at h;exact absurd h he
theorem xU{t:ByteArray}{a k:Nat}(_h:a+k<=t.size):(ls t).drop a=ls (t.extract a (a+k))++(ls t).drop (a+k):=by
 rw[db,<-et,cg]
theorem xC{t:ByteArray}{a:Nat}{e:Int}(h:(eB t a e).2.2=0):e=0/\(eB t a e).2.1<=t.size/\(eB t a e).1.size<=65535/\(ls t).drop a=da (eB t a e).1.size 2++(ls (eB t a e).1++(ls t).drop (eB t a e).2.1):=by
 obtain⟨h1,h2,h3⟩:=i7 h;obtain⟨he,h5,h6⟩:=i7 (k:=2) h1;subst he;have h6':aH t a 0 2=(t.extract a (a+2),a+2,0):=h6;have hle:a<=t.size:=by omega
 have hlt:=nw t a 0 hle;have hE:eB t a 0=(t.extract (a+2) (a+2+br t a 0 2),a+2+br t a 0 2,0):=by
  rw[h6']at h3 h2;unfold eB;rw[h6'];exact h3
 rw[h6']at h2;simp only at h2;rw[hE]at hlt⊢;simp only at hlt⊢;have hsz:(t.extract (a+2) (a+2+br t a 0 2)).size=br t a 0 2:=by rw[aj];omega
 refine⟨trivial,h2,hlt,?_⟩;rw[hsz,<-xU h2];exact lY h5
theorem sC{t:ByteArray}{a:Nat}{e:Int}(h:(fX t a e).2.2=0):e=0/\(fX t a e).2.1<=t.size/\(fX t a e).1.size<=65535/\bN (fX t a e).1=true/\(ls t).drop a=da (fX t a e).1.size 2++(ls (fX t a e).1++(ls t).drop (fX t a e).2.1):=by
 unfold fX at h⊢;simp only at h⊢
 by_cases hv:bN (eB t a e).1=true
 ·rw[if_pos hv]at h;obtain⟨h1,h2,h3,h4⟩:=xC h;exact⟨h1,h2,h3,hv,h4⟩
 ·rw[ae hv]at h;exact(gW h (by decide)).elim
def gP(v k:Int)(l:List Pr):List UInt8:=if v=4 then []else(aM k l).1
theorem pL(v k:Int)(l:List Pr):ls (tW v k l)=gP v k l:=by
 unfold tW gP;split
 ·rfl
 ·exact jo _
theorem yv{v k:Int}{t:ByteArray}{a:Nat}{e:Int}(ha:a<=t.size)(h:(fv v k t a e).2.2=0):e=0/\(fv v k t a e).2.1<=t.size/\(v=4->(fv v k t a e).1=[])/\(aM k (fv v k t a e).1).2=0/\(ls t).drop a=gP v k (fv v k t a e).1++(ls t).drop (fv v k t a e).2.1:=by
 unfold fv at h⊢
 by_cases hv:v=4\/e≠0
 ·rw[if_pos hv]at h⊢;simp only at h⊢;have h4:v=4:=hv.resolve_right (fun x=>x h);refine⟨h,ha,fun _=>trivial,by rw[vL],?_⟩;unfold gP;rw[if_pos h4];rfl
 ·rw[ae hv]at h⊢;simp only at h⊢;have he:e=0:=aU.1 fun x=>hv (.inr x);have h4:v≠4:=fun x=>hv (.inl x);obtain⟨g1,g2,g3⟩:=fd (kind:=k) (s:=t.extract a t.size) (l:=(aZ k (t.extract a t.size)).1) (n:=(aZ k (t.extract a t.size)).2.1) (by rw[<-h]);rw[aj]at g3;refine⟨he,by omega,fun x=>absurd x h4,g1,?_⟩;unfold gP;rw[ae h4,g2,ju,<-et,cg]
theorem JK{t:ByteArray}{a:Nat}{x:ByteArray}{rest:List UInt8}(ha:a<=t.size)(hx:x.size<=65535)(h:(ls t).drop a=da x.size 2++(ls x++rest)):eB t a 0=(x,a+2+x.size,0)/\a+2+x.size<=t.size/\(ls t).drop (a+2+x.size)=rest:=by
 have hl:=congrArg List.length h;rw[bU,List.length_append,List.length_append,fM,aN,aN]at hl;have hn:br t a 0 2=x.size:=by rw[show((2:Int))=((2:Nat):Int)from rfl,sc (k:=2) h (fM _ _) ha,H7 _ (by omega)]
 have h2:aH t a 0 2=(t.extract a (a+2),a+2,0):=dZ (k:=2) (by omega);have hd:(ls t).drop (a+2)=ls x++rest:=by rw[<-et,h,GU (fM _ _)]
 refine⟨?_,by omega,by rw[<-et,hd,GU (aN _)]⟩;unfold eB;rw[h2,hn];simp only;rw[dZ (by omega)]
 congr 1
 refine eX ?_;rw[db,hd,<-aN,List.take_left'];rfl
theorem Jg{t:ByteArray}{a:Nat}{x:ByteArray}{rest:List UInt8}(ha:a<=t.size)(hv:bN x=true)(h:(ls t).drop a=da x.size 2++(ls x++rest)):fX t a 0=(x,a+2+x.size,0)/\a+2+x.size<=t.size/\(ls t).drop (a+2+x.size)=rest:=by
 have hx:x.size<=65535:=by
  unfold bN at hv;rw[eh]at hv;exact aR hv.1
 obtain⟨h1,h2,h3⟩:=JK ha hx h;refine⟨?_,h2,h3⟩;unfold fX;rw[h1];simp only;rw[if_pos hv]
theorem JG{v k:Int}{l:List Pr}{t:ByteArray}{a:Nat}{rest:List UInt8}(ha:a<=t.size)(h4:v=4->l=[])(hb:(aM k l).2=0)(hn:∀p∈l,p.n<4294967296)(h:(ls t).drop a=gP v k l++rest):
  fv v k t a 0=(l,a+(gP v k l).length,0)/\a+(gP v k l).length<=t.size/\(ls t).drop (a+(gP v k l).length)=rest:=by
 have hl:=congrArg List.length h;rw[bU,List.length_append,aN]at hl;refine⟨?_,by omega,by rw[<-et,h,GU rfl]⟩;unfold fv;unfold gP at h⊢
 by_cases hv:v=4
 ·rw[if_pos (.inl hv),if_pos hv,h4 hv];rfl
 ·rw[ae (fun x=>x.elim hv (fun y=>y rfl)),ae hv];rw[ae hv]at h;rw[Jb hb hn (s:=t.extract a t.size) (rest:=rest) (by rw[ju,h])]
def fS(p:Pk)(r:List UInt8):List UInt8:=if p.hasPass=true then da p.pass.size 2++(ls p.pass++r)else r
def fU(p:Pk)(r:List UInt8):List UInt8:=if p.hasUser=true then da p.user.size 2++(ls p.user++r)else r
def fW(v:Int)(p:Pk)(r:List UInt8):List UInt8:=if p.hasWill=true then gP v 16 p.will.props++(da p.will.topic.size 2++(ls p.will.topic++(da p.will.payload.size 2++(ls p.will.payload++r))))else r
def f1(v:Int)(p:Pk)(r:List UInt8):List UInt8:=ls i8++(da v.toNat 1++(da (flN p).toNat 1++(da p.alive.toNat 2++(gP v 1 p.props++(da p.client.size 2++(ls p.client++r))))))
theorem lK(x:ByteArray)(l:List ByteArray):ls (qK (x :: l))=ls x++ls (qK l):=by
 rw[tD,tD];rfl
theorem nt:ls (qK [])=[]:=by rw[tD];rfl
theorem lI{x:ByteArray}(h:x.size<=65535):ls (qE x)=da x.size 2++ls x:=by
 unfold qE;rw[if_pos h];have:=oa x ⟨#[]⟩;rw[show ls (⟨#[]⟩:ByteArray)=[]from rfl,cW]at this;rw[<-this]
 congr 1
 exact eX (by unfold cQ;simp[ls])
theorem uV{x:ByteArray}(hv:fp x=true):bN x=true:=by
 unfold fp jY at hv;simp only[eh]at hv;exact hv.1.2
structure CnGood (v:Int) (p:Pk):Prop where
 ver:v=4\/v=5
 kind:p.kind=1
 same:p=kS p
 old:v=4->p.props=[]/\p.will.props=[]
 alive:0<=p.alive/\p.alive<65536
 qos:0<=p.will.qos/\p.will.qos<=2
 pair:v=4->p.hasPass=true->p.hasUser=true
 client:bN p.client=true
 user:bN p.user=true
 topic:p.hasWill=true->bN p.will.topic=true
 payload:p.will.payload.size<=65535
 pass:p.pass.size<=65535
 props:(aM 1 p.props).2=0
 wprops:(aM 16 p.will.props).2=0
theorem Gk{v:Int}{p:Pk}(g:CnGood v p)(r:List UInt8):ls (EY v p)++r=f1 v p (fW v p (fU p (fS p r))):=by
 have e1:=lI (gL g.client);have e2:=lI (gL g.user);have e3:=lI g.pass;have e4:=lI g.payload;have h1:∀R,ls (yK v p)++R=f1 v p R:=fun R=>by
  unfold yK f1;simp only[lK,nt,jo,pL,e1,g.kind,List.append_assoc,cW]
 have h2:∀R,ls (yJ v p)++R=f1 v p (fW v p R):=fun R=>by
  unfold yJ fW
  by_cases h:p.hasWill=true
  ·rw[if_pos h,if_pos h,<-h1];simp only[lK,nt,pL,lI (gL (g.topic h)),e4,List.append_assoc,cW]
  ·rw[ae h,ae h,h1]
 have h3:∀R,ls (yI v p)++R=f1 v p (fW v p (fU p R)):=fun R=>by
  unfold yI fU
  by_cases h:p.hasUser=true
  ·rw[if_pos h,if_pos h,<-h2];simp only[lK,nt,e2,List.append_assoc,cW]
  ·rw[ae h,ae h,h2]
 unfold EY fS
 by_cases h:p.hasPass=true
 ·rw[if_pos h,if_pos h,<-h3];simp only[lK,nt,e3,List.append_assoc,cW]
 ·rw[ae h,ae h,h3]
end
end Go.Proofs.YtbdgkkmbnahgiaaGreatDoor
