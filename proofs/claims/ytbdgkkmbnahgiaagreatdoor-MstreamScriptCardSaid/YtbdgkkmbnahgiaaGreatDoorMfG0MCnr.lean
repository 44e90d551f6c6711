/- A part of what the laws stand on: MCnr, RfX. -/
import Derived.Test.YtbdgkkmbnahgiaaGreatDoorMfG0MRft
set_option maxRecDepth 10000
set_option maxHeartbeats 8000000
namespace Go.Proofs.YtbdgkkmbnahgiaaGreatDoor
open Go.RowKit Go.Proofs.Tryz
section
attribute [local go_sem ↓] bD bF bH bI bu
attribute [local go_sem] bc aD bh bg bK bJ bd aY be aO ax cI dC dB dt dj di dA dr dp dn bW co bO bZ bX cz cy cw cu ct cC cn bS bP bR
theorem Te(v:Int)(hv:v=4\/v=5)(f:Nat)(hf:f<256)(w:World):
  Calls prog 279 #[.int .i64 v,.int .i64 f] w fun e w'=>e= .returned (.bool (!tu v f))/\w=w':=by
 obtain⟨b1,m1⟩:∃b,((f:Int) % 2==1)=b:=⟨_,rfl⟩;obtain⟨b3,m3⟩:∃b,((wrap64 ((f:Int) / 8)).tmod 4==3)=b:=⟨_,rfl⟩;obtain⟨b4,m4⟩:∃b,((wrap64 ((f:Int) / 4)).tmod 2==1)=b:=⟨_,rfl⟩;obtain⟨b8,m8⟩:∃b,((wrap64 ((f:Int) / 8)).tmod 8 !=0)=b:=⟨_,rfl⟩;obtain⟨b64,m64⟩:∃b,(wrap64 ((f:Int) / 64)==1)=b:=⟨_,rfl⟩;obtain⟨bv4,mv4⟩:∃b,(v==4)=b:=⟨_,rfl⟩;have HW:Hid ((!tu v f)=(b1 || b3 || (!b4&&b8) || (bv4&&b64))):=aa (by
  have w8:wrap64 ((f:Int) / 8)=(f:Int) / 8:=by have:=aQ ((f:Int) / 8);simp only[wrap64];omega
  have w4:wrap64 ((f:Int) / 4)=(f:Int) / 4:=by simp only[wrap64];omega
  have w64:wrap64 ((f:Int) / 64)=(f:Int) / 64:=by simp only[wrap64];omega
  rw[w8,QP (by omega)]at m3 m8;rw[w4,QP (by omega)]at m4;rw[w64]at m64;have q1:decide (f% 2=1)=b1:=by rw[<-m1,eG,cH,aK];omega
  have q3:decide (f/ 8% 4=3)=b3:=by rw[<-m3,eG,cH,aK];omega
  have q4:decide (f/ 4% 2=1)=b4:=by rw[<-m4,eG,cH,aK];omega
  have q8:decide (f/ 8% 8≠0)=b8:=by rw[<-m8,eG,cH,aA];omega
  have q64:decide (f/ 64=1)=b64:=by rw[<-m64,eG,cH,aK];omega
  have qv:decide (v=4)=bv4:=mv4;rw[<-Tl hv hf];unfold SV;rw[q1,q3,q4,q8,q64,qv])
 generalize (!tu v f)=R at*;have hf0:(0:Int)<=(f:Int):=by omega
 clear hv hf;go_enter func279,ntmps279;cases b1
 ·cases b3
  ·cases b4
   ·cases b8
    ·cases bv4
     ·go_wp2;go_ret;exact⟨by rw[HW.o];rfl,rfl⟩
     ·cases b64
      ·go_wp2;go_ret;exact⟨by rw[HW.o];rfl,rfl⟩
      ·go_wp2;go_ret;exact⟨by rw[HW.o];rfl,rfl⟩
    ·go_wp2;go_ret;exact⟨by rw[HW.o];rfl,rfl⟩
   ·cases bv4
    ·go_wp2;go_ret;exact⟨by rw[HW.o];rfl,rfl⟩
    ·cases b64
     ·go_wp2;go_ret;exact⟨by rw[HW.o];rfl,rfl⟩
     ·go_wp2;go_ret;exact⟨by rw[HW.o];rfl,rfl⟩
  ·go_wp2;go_ret;exact⟨by rw[HW.o];rfl,rfl⟩
 ·go_wp2;go_ret;exact⟨by rw[HW.o];rfl,rfl⟩
theorem He(s:ByteArray)(w:World)(hs:s.size<=65535):
  Calls prog 253 #[.string s] w fun e w'=>e= .returned (.string (qE s))/\Below w.heap.size w w':=by
 have HD:Hid (qE s=cQ s):=aa (if_pos hs);go_enter func253,ntmps253
 go_wp2_with fail
 refine(Hw s _ hs).mono ?_;rintro e w1 ⟨rfl,hb⟩;go_wp2;go_ret;exact⟨by rw[HD.o];rfl,hb⟩
theorem QW(g a:Nat)(t:ByteArray)(e:Int)(w:World)(h:IC w g t a e):
  Calls prog 281 #[.pointer (some ⟨g,0,none⟩)] w fun e' w'=>e'= .returned (.string (rbC t a e).1)/\IC w' g t (rbC t a e).2.1 (rbC t a e).2.2/\w.grownBy w' (some g):=by
 have C0:=aa h;have HE:Hid (rbC t a e=if e≠0 then(⟨#[]⟩,a,e)else((dJ (t.extract a t.size)).1,a+(dJ (t.extract a t.size)).2.1,(dJ (t.extract a t.size)).2.2)):=aa rfl;obtain⟨⟨c0,c1,c2⟩,f0,f1,f2⟩:=h.cells;have HA:=aa h.2;clear h;go_enter func281,ntmps281
 by_cases he:e=0
 rotate_left
 ·have e0:(e !=0)=true:=aA.2 he;have HX:Hid (rbC t a e=(⟨#[]⟩,a,e)):=aa (by rw[HE.o,if_pos he]);clear he;go_wp2;go_ret;rw[HX.o];exact⟨rfl,C0.o,lz _ _⟩
 have e0:(e !=0)=false:=by rw[he];rfl
 have HX:Hid (rbC t a e=((dJ (t.extract a t.size)).1,a+(dJ (t.extract a t.size)).2.1,(dJ (t.extract a t.size)).2.2)):=aa (by rw[HE.o,ae (fun x=>x he)]);clear he HE
 go_wp2_with fail
 refine(QZ g a t e _ C0.o).mono ?_;rintro e' w1 ⟨rfl,hb⟩;have C1:=aa (C0.o.below hb);have M1:=aa (hJ hb (some g));clear hb c0 c1 c2 f0 f1 f2
 go_wp2_with fail
 refine(QC _ _ (by rw[aj];have:=HA.o;omega)).mono ?_;rintro e' w2 ⟨rfl,rfl⟩;have HL:=aa (Bu (t.extract a t.size)).1;have HZ:Hid ((t.extract a t.size).size=t.size- a):=aa (by rw[aj];omega);rw[HZ.o]at HL;clear HZ;generalize dJ (t.extract a t.size)=r at*;obtain⟨s,n,x⟩:=r;simp only at HX HL⊢;obtain⟨⟨c0,c1,c2⟩,f0,f1,f2⟩:=C1.o.cells;have hw:IntKind.i64.wrap ((a:Int)+(n:Int))=((a+n:Nat):Int):=by rw[aQ];have:=HA.o;have:=HL.o;omega
 go_wp2;go_ret;rw[HX.o];refine⟨rfl,⟨(C1.o.1.upd 2 (.int .i64 x) (cs':=Am t a x) ?_).upd 1 (.int .i64 ((a+n:Nat):Int)) (cs':=Am t (a+n) x) ?_,by have:=HA.o;have:=HL.o;exact⟨by show a+n<=t.size;omega,HA.o.2⟩⟩,M1.o.trans ((cP _ _ _ _).trans (cP _ _ _ _))⟩
 ·simp[Am]
 ·simp[Am]
theorem Rg(g a:Nat)(t:ByteArray)(e:Int)(w:World)(h:IC w g t a e):
  Calls prog 280 #[.pointer (some ⟨g,0,none⟩)] w fun e' w'=>e'= .returned (.string (rtC t a e).1)/\IC w' g t (rtC t a e).2.1 (rtC t a e).2.2/\w.grownBy w' (some g):=by
 have C0:=aa h;have HE:Hid (rtC t a e=if e≠0 then(⟨#[]⟩,a,e)else((bL (t.extract a t.size)).1,a+(bL (t.extract a t.size)).2.1,(bL (t.extract a t.size)).2.2)):=aa rfl;obtain⟨⟨c0,c1,c2⟩,f0,f1,f2⟩:=h.cells;have HA:=aa h.2;clear h;go_enter func280,ntmps280
 by_cases he:e=0
 rotate_left
 ·have e0:(e !=0)=true:=aA.2 he;have HX:Hid (rtC t a e=(⟨#[]⟩,a,e)):=aa (by rw[HE.o,if_pos he]);clear he;go_wp2;go_ret;rw[HX.o];exact⟨rfl,C0.o,lz _ _⟩
 have e0:(e !=0)=false:=by rw[he];rfl
 have HX:Hid (rtC t a e=((bL (t.extract a t.size)).1,a+(bL (t.extract a t.size)).2.1,(bL (t.extract a t.size)).2.2)):=aa (by rw[HE.o,ae (fun x=>x he)]);clear he HE
 go_wp2_with fail
 refine(QZ g a t e _ C0.o).mono ?_;rintro e' w1 ⟨rfl,hb⟩;have C1:=aa (C0.o.below hb);have M1:=aa (hJ hb (some g));clear hb c0 c1 c2 f0 f1 f2
 go_wp2_with fail
 refine(Rl _ _ (by rw[aj];have:=HA.o;omega)).mono ?_;rintro e' w2 ⟨rfl,rfl⟩;have HL:=aa (uq (t.extract a t.size)).1;have HZ:Hid ((t.extract a t.size).size=t.size- a):=aa (by rw[aj];omega);rw[HZ.o]at HL;clear HZ;generalize bL (t.extract a t.size)=r at*;obtain⟨s,n,x⟩:=r;simp only at HX HL⊢;obtain⟨⟨c0,c1,c2⟩,f0,f1,f2⟩:=C1.o.cells;have hw:IntKind.i64.wrap ((a:Int)+(n:Int))=((a+n:Nat):Int):=by rw[aQ];have:=HA.o;have:=HL.o;omega
 go_wp2;go_ret;rw[HX.o];refine⟨rfl,⟨(C1.o.1.upd 2 (.int .i64 x) (cs':=Am t a x) ?_).upd 1 (.int .i64 ((a+n:Nat):Int)) (cs':=Am t (a+n) x) ?_,by have:=HA.o;have:=HL.o;exact⟨by show a+n<=t.size;omega,HA.o.2⟩⟩,M1.o.trans ((cP _ _ _ _).trans (cP _ _ _ _))⟩
 ·simp[Am]
 ·simp[Am]
end
section
attribute [local go_sem ↓] bD bF bH bI bu
attribute [local go_sem] bc aD bh bg bK bJ bd aY be aO ax cI dC dB dt dj di dA dr dp dn bW co bO bZ bX cz cy cw cu ct cC cn bS bP bR
attribute [local go_sem ↓high] bu sD sE
attribute [local go_sem ↓] wh
attribute [local go_sem] Cv BD mX pU pB py
theorem NX(k:Int)(b:Bool)(c:Int)(l:List Pr)(A:Option Addr)(n:Nat)(w:World):(qP #[(0,.int .i64 k),(16,.bool b),(17,.int .i64 c),(20,.slice A l.length n)]).run prog w= .ok (pkV {pk0 with kind:=k,props:=l,session:=b,code:=c} {hs0 with props:=⟨A,n⟩}) w:=by kernel_rfl
theorem NW(k:Int)(c:Bool)(a:Int)(s:ByteArray)(u p o:Bool)(l:List Pr)(A:Option Addr)(n:Nat)(w:World):(qP #[(0,.int .i64 k),(7,.bool c),(8,.int .i64 a),(9,.string s),(10,.bool u),(12,.bool p),(14,.bool o),(20,.slice A l.length n)]).run prog w= .ok (pkV {pk0 with kind:=k,props:=l,clean:=c,alive:=a,client:=s,hasUser:=u,hasPass:=p,hasWill:=o} {hs0 with props:=⟨A,n⟩}) w:=by kernel_rfl
theorem LK(v:Int)(p:Pk)(h:Hs)(w:World):
  Calls prog 310 #[.int .i64 v,pkV p h] w fun e w'=>e= .returned (pkV (kS p) (qJ p h))/\Below w.heap.size w w':=by
 have hb2:=ic w (.cells (pkC p h) PkT) (.cells (pkC pk0 hs0) PkT);have B1:Bk ((w.alloc (.cells (pkC p h) PkT)).alloc (.cells (pkC pk0 hs0) PkT)) w.heap.size PkT (pkC p h):=(Bk.fresh w PkT (pkC p h)).alloc _;have B2:Bk ((w.alloc (.cells (pkC p h) PkT)).alloc (.cells (pkC pk0 hs0) PkT)) (w.heap.size+1) PkT (pkC pk0 hs0):=by
  have:=Bk.fresh (w.alloc (.cells (pkC p h) PkT)) PkT (pkC pk0 hs0);rwa[show(w.alloc (.cells (pkC p h) PkT)).heap.size=w.heap.size+1 by simp]at this
 have hz:((w.alloc (.cells (pkC p h) PkT)).alloc (.cells (pkC pk0 hs0) PkT)).heap.size=w.heap.size+2:=by simp
 generalize hW:(w.alloc (.cells (pkC p h) PkT)).alloc (.cells (pkC pk0 hs0) PkT)=W at hb2 B1 B2 hz;have HB:=aa hb2;have H1:=aa B1;have H2:=aa B2;have HZ:=aa hz
 clear hb2 B1 B2;have k1:=fun i=>H1.o.cell i;have st:=fun q k=>aW H2.o q k;have ua:=NX p.kind p.session p.code p.props h.props.a h.props.c;have ub:=NW p.kind p.clean p.alive p.client p.hasUser p.hasPass p.hasWill p.props h.props.a h.props.c
 by_cases h2:p.kind=2
 ·have e2:(p.kind==2)=true:=aK.2 h2;have E1:Hid (qJ p h= {hs0 with props:=h.props}):=aa (by unfold qJ;rw[ae (fun y=>y.1 h2)];rfl);have E2:Hid (kS p= {pk0 with kind:=p.kind,props:=p.props,session:=p.session,code:=p.code}):=aa (qI h2);clear h2 ub hz;go_enter func310,ntmps310;go_wp2;refine av (fz rfl _ rfl (cO H2.o _ _)) rfl ?_;rw[E1.o,E2.o];exact⟨rfl,bT HB.o HB.o.size (IT _) _ _⟩
 ·have e2:(p.kind==2)=false:=ar.2 h2;have H2':=aa h2;have HH:Hid (qJ p h= {hs0 with props:=h.props,wp:=(if p.hasWill=true then h.wp else hd0)}):=aa (by
   unfold qJ
   by_cases hw:p.hasWill=true
   ·rw[if_pos ⟨h2,hw⟩,if_pos hw]
   ·rw[ae (fun y=>hw y.2),ae hw])
  have B3:=Bk.fresh W PkT (pkC pk0 hs0);rw[hz]at B3;have hlt:w.heap.size+2<(W.alloc (.cells (pkC pk0 hs0) PkT)).heap.size:=B3.lt;have b1':Bk (W.alloc (.cells (pkC pk0 hs0) PkT)) w.heap.size PkT (pkC p h):=H1.o.alloc _;have b2':Bk (W.alloc (.cells (pkC pk0 hs0) PkT)) (w.heap.size+1) PkT (pkC pk0 hs0):=H2.o.alloc _;have bb:Below w.heap.size w (W.alloc (.cells (pkC pk0 hs0) PkT)):=HB.o.alloc HB.o.size _;have hs0':∀q k,(zc (.pointer (some ⟨w.heap.size+2,0,none⟩)) (pkV q k)).run prog (W.alloc (.cells (pkC pk0 hs0) PkT))= .ok () (pw (W.alloc (.cells (pkC pk0 hs0) PkT)) (w.heap.size+2) (pkC q k)):=fun q k=>by
   have h1:=ax W pk0 q hs0 k;have h2:pw (W.alloc (.cells (pkC pk0 hs0) PkT)) (w.heap.size+2) (pkC q k)=W.alloc (.cells (pkC q k) PkT):=by
    have hx:(pw (W.alloc (.cells (pkC pk0 hs0) PkT)) W.heap.size (pkC q k))=W.alloc (.cells (pkC q k) PkT):=by
     have hh:(W.heap.push (.cells (pkC pk0 hs0) PkT (0,0))).setIfInBounds W.heap.size (.cells (pkC q k) PkT (0,0))=W.heap.push (.cells (pkC q k) PkT (0,0)):=by
      apply Il;intro i;rw[Array.getElem?_push]
      by_cases hi:W.heap.size=i
      ·subst hi;simp
      ·rw[eK hi,Array.getElem?_push,ae (fun e=>hi e.symm),ae (fun e=>hi e.symm)]
     exact congrArg (fun x=>{W with heap:=x}) hh
    rw[hz]at hx;exact hx
   rw[hz]at h1;rw[h2];exact h1
  generalize hV:W.alloc (.cells (pkC pk0 hs0) PkT)=V at hlt b1' b2' bb hs0';have N1:=aa b1';have N2:=aa b2';have NB:=aa bb;have NL:=aa hlt
  clear b1' b2' bb B3 h2 ua;have f1:∀cs,Bk (pw V (w.heap.size+2) cs) w.heap.size PkT (pkC p h):=fun cs=>(uv V (w.heap.size+2) cs (by omega)).trans N1.o;have j1:=fun cs=>(f1 cs).cell;have jl:=fun cs=>Gj (f1 cs);clear f1;have jb:Hid (∀cs,Bk (pw V (w.heap.size+2) cs) (w.heap.size+1) PkT (pkC pk0 hs0)):=aa (fun cs=>(uv V (w.heap.size+2) cs (by omega)).trans N2.o);have js:=fun cs q k=>aW (jb.out cs) q k;have JB:Hid (∀cs,Below w.heap.size w (pw V (w.heap.size+2) cs)):=aa (fun cs=>BC V (w.heap.size+2) cs NB.o (by omega));go_enter func310,ntmps310;cases ha:p.hasWill<;>cases hb:p.hasUser<;>cases hc:p.hasPass
  all_goals
   have HQ:=aa (vJ H2'.o ha hb hc);have HA:=aa ha;rw[ha,hb,hc]at ub;go_wp2;refine av (fz rfl _ rfl (cO (jb.out _) _ _)) rfl ?_;refine⟨?_,bT (JB.o _) (JB.o _).size (IT _) _ _⟩;rw[HQ.o];rw[HH.o,HA.o];rfl
theorem LU{b:Bool}{p:Pk}(hn:b=decide (0<=p.alive/\p.alive<65536/\0<=p.will.qos/\p.will.qos<=2)):
   (¬0<=p.alive/\b=false)\/(0<=p.alive/\¬p.alive<65536/\b=false)\/(0<=p.alive/\p.alive<65536/\¬0<=p.will.qos/\b=false)\/(0<=p.alive/\p.alive<65536/\0<=p.will.qos/\b=decide (p.will.qos<=2)):=by
 rw[hn]
 by_cases a1:0<=p.alive
 ·by_cases a2:p.alive<65536
  ·by_cases a3:0<=p.will.qos
   ·exact .inr (.inr (.inr ⟨a1,a2,a3,eb.2 ⟨fun y=>y.2.2.2,fun y=>⟨a1,a2,a3,y⟩⟩⟩))
   ·exact .inr (.inr (.inl ⟨a1,a2,a3,ah (fun y=>a3 y.2.2.1)⟩))
  ·exact .inr (.inl ⟨a1,a2,ah (fun y=>a2 y.2.1)⟩)
 ·exact .inl ⟨a1,ah (fun y=>a1 y.1)⟩
theorem KH(v:Int)(p:Pk)(h:Hs)(w:World)(ip:PkIn w w.heap.size p h)(ok:PkOk p):
  Calls prog 239 #[.int .i64 v,pkV p h] w fun e w'=>e= .returned (.bool (kT v p))/\Below w.heap.size w w':=by
 have OK:=aa ok;have S0:=aa ((St.start w).push ip);have hz0:(w.alloc (.cells (pkC p h) PkT)).heap.size=w.heap.size+1:=by simp
 generalize hW:w.alloc (.cells (pkC p h) PkT)=W at S0 hz0;have HZ:=aa hz0;clear hz0
 have HE:Hid (kT v p=(ba v&&(gm p.kind&&(decide (p=kS p)&&dU v p)))):=aa rfl;have HR:Hid (dU v p=if v=4/\0<p.props.length+p.will.props.length then false
  else if p.kind=2 then i9 v p&&(decide (p.code=0) || !p.session)
  else if v=4/\((p.client.size=0/\p.clean=false)\/(p.hasPass=true/\p.hasUser=false))then false
  else decide (0<=p.alive/\p.alive<65536/\0<=p.will.qos/\p.will.qos<=2)):=aa rfl
 have hem:=kR p.client;have q0:=jw (W:=W) (fun x hx=>(pS v x).mono (by rintro e w' ⟨rfl,rfl⟩;exact⟨rfl,aq _ _⟩));have q1:=jw (W:=W) (fun x hx=>LK v p h x);have q2:=jw (W:=W) (fun x hx=>GP p (kS p) h (qJ p h) x ((S0.o.below hx).into 0 rfl) (E6 ((S0.o.below hx).into 0 rfl)) OK.o.len (Dl OK.o.len));have k0:=cell_regrown (show W.cell? ⟨w.heap.size,0,none⟩=some (.int .i64 p.kind)from S0.o.cell 0 rfl 0);have l0:=qp (S0.o.bk 0 rfl);have HBW:Hid (∀d os,Below W.heap.size W (Sort.grow (redrawn W d) os)):=aa (fun d os=>below_regrown W d os);clear ip ok;go_enter func239,ntmps239;cases hk:ba v
 ·rw[hk]at q0;have HX:Hid (kT v p=false):=aa (by rw[HE.o,hk,bj]);clear hk
  go_wp2_with fail
  refine wp_region_quiet_below (by kernel_rfl) (by kernel_rfl) ?_
  repeat (go_big_quiet_step (first| with_reducible exact q0 _ _| with_reducible exact q1 _ _| with_reducible exact q2 _ _))
  refine kE ?_;intro _ hw';obtain⟨⟨dq,osq⟩,hw''⟩:=hw';subst hw'';have S2:=aa (S0.o.below (HBW.o dq osq));clear q0 q1 q2 k0 l0 HBW;generalize Sort.grow (redrawn _ dq) osq=wq at*;go_wp2;go_ret;exact⟨by rw[HX.o];rfl,S2.o.kept⟩
 rw[hk]at q0;have HV:Hid (v=4\/v=5):=aa (aR hk);have HE1:Hid (kT v p=(gm p.kind&&(decide (p=kS p)&&dU v p))):=aa (by rw[HE.o,hk,aL]);clear hk HE;cases ho:gm p.kind
 ·have HX:Hid (kT v p=false):=aa (by rw[HE1.o,ho,bj]);have n1:(p.kind !=1)=true:=aA.2 (fun y=>by have:=Gy ho;exact this (.inl y));have n2:(p.kind !=2)=true:=aA.2 (fun y=>by have:=Gy ho;exact this (.inr y));clear ho
  go_wp2_with fail
  refine wp_region_quiet_below (by kernel_rfl) (by kernel_rfl) ?_
  repeat (go_big_quiet_step (first| with_reducible exact q0 _ _| with_reducible exact q1 _ _| with_reducible exact q2 _ _))
  refine kE ?_;intro _ hw';obtain⟨⟨dq,osq⟩,hw''⟩:=hw';subst hw'';have S2:=aa (S0.o.below (HBW.o dq osq));clear q0 q1 q2 k0 l0 HBW;generalize Sort.grow (redrawn _ dq) osq=wq at*;go_wp2;go_ret;exact⟨by rw[HX.o];rfl,S2.o.kept⟩
 have HO:=aa (aR ho);have HE2:Hid (kT v p=(decide (p=kS p)&&dU v p)):=aa (by rw[HE1.o,ho,aL]);clear ho HE1;obtain⟨sm,hsm⟩:∃b:Bool,decide (p=kS p)=b:=⟨_,rfl⟩;rw[hsm]at q2;have HSM:=aa hsm;clear hsm
 by_cases h2:p.kind=2
 ·have n1:(p.kind !=1)=true:=aA.2 (by omega);have n2:(p.kind !=2)=false:=by simp[h2]
  have e2:(p.kind==2)=true:=aK.2 h2;have H2:=aa h2;clear h2;cases sm
  ·have HX:Hid (kT v p=false):=aa (by rw[HE2.o,HSM.o,bj])
   go_wp2_with fail
   refine wp_region_quiet_below (by kernel_rfl) (by kernel_rfl) ?_
   repeat (go_big_quiet_step (first| with_reducible exact q0 _ _| with_reducible exact q1 _ _| with_reducible exact q2 _ _))
   refine kE ?_;intro _ hw';obtain⟨⟨dq,osq⟩,hw''⟩:=hw';subst hw'';have S2:=aa (S0.o.below (HBW.o dq osq));clear q0 q1 q2 k0 l0 HBW;generalize Sort.grow (redrawn _ dq) osq=wq at*;go_wp2;go_ret;exact⟨by rw[HX.o];rfl,S2.o.kept⟩
  have HE3:Hid (kT v p=dU v p):=aa (by rw[HE2.o,HSM.o,aL])
  go_wp2_with fail
  refine wp_region_quiet_below (by kernel_rfl) (by kernel_rfl) ?_
  repeat (go_big_quiet_step (first| with_reducible exact q0 _ _| with_reducible exact q1 _ _| with_reducible exact q2 _ _))
  refine kE ?_;intro _ hw';obtain⟨⟨dq,osq⟩,hw''⟩:=hw';subst hw'';have S2:=aa (S0.o.below (HBW.o dq osq));clear q0 q1 q2 k0 l0 HBW;generalize Sort.grow (redrawn _ dq) osq=wq at*;have k0:=S2.o.cell 0 rfl;rcases HV.o with h4| h4
  ·have e4:(v==4)=true:=aK.2 h4;have e5:(v==5)=false:=ar.2 (by omega)
   by_cases hp:0<p.props.length
   ·have HX:Hid (kT v p=false):=aa (by rw[HE3.o,HR.o,if_pos ⟨h4,by omega⟩]);clear h4;go_wp2;go_ret;exact⟨by rw[HX.o];rfl,S2.o.kept⟩
   by_cases hw:0<p.will.props.length
   ·have HX:Hid (kT v p=false):=aa (by rw[HE3.o,HR.o,if_pos ⟨h4,by omega⟩]);clear h4;go_wp2;go_ret;exact⟨by rw[HX.o];rfl,S2.o.kept⟩
   have N0:¬(v=4/\0<p.props.length+p.will.props.length):=fun y=>by omega
   have HC:Hid (kT v p=(ww p.code&&(decide (p.code=0) || !p.session))):=aa (by rw[HE3.o,HR.o,ae N0,if_pos H2.o];unfold i9;rw[if_pos h4]);clear h4 N0
   go_wp2_with fail
   refine(KD p.code _).mono ?_;rintro e w3 ⟨rfl,hb⟩;subst hb;have S3:=S2;cases hm:ww p.code
   ·have HX:Hid (kT v p=false):=aa (by rw[HC.o,hm];rfl);clear hm;go_wp2;go_ret;exact⟨by rw[HX.o];rfl,S3.o.kept⟩
   by_cases hs:p.session=true
   ·have HX:Hid (kT v p=decide (p.code=0)):=aa (by rw[HC.o,hm,hs];simp);clear hm;have hd:decide (p.code=0)=(p.code==0):=by rfl
    go_wp2;go_ret;exact⟨by rw[HX.o];first| rfl| simp,S3.o.kept⟩
   ·have hs':p.session=false:=by simpa using hs
    have HX:Hid (kT v p=true):=aa (by rw[HC.o,hm,hs'];simp);clear hm hs;go_wp2;go_ret;exact⟨by rw[HX.o];rfl,S3.o.kept⟩
  ·have e4:(v==4)=false:=ar.2 (by omega);have e5:(v==5)=true:=aK.2 h4;have N0:¬(v=4/\0<p.props.length+p.will.props.length):=fun y=>by omega
   have HC:Hid (kT v p=(may 2 p.code&&(decide (p.code=0) || !p.session))):=aa (by rw[HE3.o,HR.o,ae N0,if_pos H2.o];unfold i9;rw[ae (fun y=>by omega),H2.o]);clear h4 N0
   go_wp2_with fail
   refine(Ht 2 p.code _).mono ?_;rintro e w3 ⟨rfl,hb⟩;have S3:=aa (S2.o.below hb);clear hb k0
   have k0:=S3.o.cell 0 rfl;cases hm:may 2 p.code
   ·have HX:Hid (kT v p=false):=aa (by rw[HC.o,hm];rfl);clear hm;go_wp2;go_ret;exact⟨by rw[HX.o];rfl,S3.o.kept⟩
   by_cases hs:p.session=true
   ·have HX:Hid (kT v p=decide (p.code=0)):=aa (by rw[HC.o,hm,hs];simp);clear hm;have hd:decide (p.code=0)=(p.code==0):=by rfl
    go_wp2;go_ret;exact⟨by rw[HX.o];first| rfl| simp,S3.o.kept⟩
   ·have hs':p.session=false:=by simpa using hs
    have HX:Hid (kT v p=true):=aa (by rw[HC.o,hm,hs'];simp);clear hm hs;go_wp2;go_ret;exact⟨by rw[HX.o];rfl,S3.o.kept⟩
 ·have n1:(p.kind !=1)=false:=by have:p.kind=1:=HO.o.resolve_right h2;simp[this]
  have e2:(p.kind==2)=false:=ar.2 h2;have H2:=aa h2;clear h2;cases sm
  ·have HX:Hid (kT v p=false):=aa (by rw[HE2.o,HSM.o,bj])
   go_wp2_with fail
   refine wp_region_quiet_below (by kernel_rfl) (by kernel_rfl) ?_
   repeat (go_big_quiet_step (first| with_reducible exact q0 _ _| with_reducible exact q1 _ _| with_reducible exact q2 _ _))
   refine kE ?_;intro _ hw';obtain⟨⟨dq,osq⟩,hw''⟩:=hw';subst hw'';have S2:=aa (S0.o.below (HBW.o dq osq));clear q0 q1 q2 k0 l0 HBW;generalize Sort.grow (redrawn _ dq) osq=wq at*;go_wp2;go_ret;exact⟨by rw[HX.o];rfl,S2.o.kept⟩
  have HE3:Hid (kT v p=dU v p):=aa (by rw[HE2.o,HSM.o,aL])
  go_wp2_with fail
  refine wp_region_quiet_below (by kernel_rfl) (by kernel_rfl) ?_
  repeat (go_big_quiet_step (first| with_reducible exact q0 _ _| with_reducible exact q1 _ _| with_reducible exact q2 _ _))
  refine kE ?_;intro _ hw';obtain⟨⟨dq,osq⟩,hw''⟩:=hw';subst hw'';have S2:=aa (S0.o.below (HBW.o dq osq));clear q0 q1 q2 k0 l0 HBW;generalize Sort.grow (redrawn _ dq) osq=wq at*;have k0:=S2.o.cell 0 rfl;rcases HV.o with h4| h4
  ·have e4:(v==4)=true:=aK.2 h4;have e5:(v==5)=false:=ar.2 (by omega)
   by_cases hp:0<p.props.length
   ·have HX:Hid (kT v p=false):=aa (by rw[HE3.o,HR.o,if_pos ⟨h4,by omega⟩]);clear h4;go_wp2;go_ret;exact⟨by rw[HX.o];rfl,S2.o.kept⟩
   by_cases hw:0<p.will.props.length
   ·have HX:Hid (kT v p=false):=aa (by rw[HE3.o,HR.o,if_pos ⟨h4,by omega⟩]);clear h4;go_wp2;go_ret;exact⟨by rw[HX.o];rfl,S2.o.kept⟩
   have N0:¬(v=4/\0<p.props.length+p.will.props.length):=fun y=>by omega
   have HC:Hid (kT v p=if v=4/\((p.client.size=0/\p.clean=false)\/(p.hasPass=true/\p.hasUser=false))then false
    else decide (0<=p.alive/\p.alive<65536/\0<=p.will.qos/\p.will.qos<=2)):=aa (by rw[HE3.o,HR.o,ae N0,ae H2.o])
   have H4:=aa h4;clear h4 N0
   by_cases ha:p.client.size=0/\p.clean=false
   ·have HX:Hid (kT v p=false):=aa (HC.o.trans (if_pos ⟨H4.o,.inl ha⟩));obtain⟨ha1,ha2⟩:=ha;rw[au ha1]at hem;go_wp2;go_ret;exact⟨by rw[HX.o];rfl,S2.o.kept⟩
   by_cases hq:p.hasPass=true/\p.hasUser=false
   ·have HX:Hid (kT v p=false):=aa (HC.o.trans (if_pos ⟨H4.o,.inr hq⟩));obtain⟨hq1,hq2⟩:=hq;clear ha;go_wp2
    all_goals
     go_ret;exact⟨by rw[HX.o];rfl,S2.o.kept⟩
   have HN:=aa (LU (HC.o.trans (ae (fun y=>y.2.elim ha hq))));have Z:((p.client.toList.isEmpty=true/\p.clean=true)\/p.client.toList.isEmpty=false)/\((p.hasPass=true/\p.hasUser=true)\/p.hasPass=false):=by
    rw[hem]
    constructor
    ·by_cases c0:p.client.size=0
     ·cases c1:p.clean
      ·exact absurd ⟨c0,c1⟩ ha
      ·exact .inl ⟨au c0,rfl⟩
     ·exact .inr (ah c0)
    ·cases c0:p.hasPass
     ·exact .inr rfl
     ·cases c1:p.hasUser
      ·exact absurd ⟨c0,c1⟩ hq
      ·exact .inl ⟨rfl,rfl⟩
   clear ha hq hem;obtain⟨Z1,Z2⟩:=Z;rcases Z1 with ⟨z1,z2⟩ | z1<;>rcases Z2 with ⟨z3,z4⟩ | z3
   all_goals
    rcases HN.o with ⟨a1,hx⟩ | ⟨a1,a2,hx⟩ | ⟨a1,a2,a3,hx⟩ | ⟨a1,a2,a3,hx⟩
    ·have HX:=aa hx;have a1':p.alive<0:=by omega
     clear hx a1;go_wp2;go_ret;exact⟨by rw[HX.o];rfl,S2.o.kept⟩
    ·have HX:=aa hx;have a2':¬p.alive<=65535:=by omega
     clear hx a2;go_wp2;go_ret;exact⟨by rw[HX.o];rfl,S2.o.kept⟩
    ·have HX:=aa hx;have a2':p.alive<=65535:=by omega
     have a3':p.will.qos<0:=by omega
     clear hx a2 a3;go_wp2;go_ret;exact⟨by rw[HX.o];rfl,S2.o.kept⟩
    ·have HX:=aa hx;have a2':p.alive<=65535:=by omega
     clear hx a2;go_wp2;go_ret;exact⟨by rw[HX.o];rfl,S2.o.kept⟩
  ·have e4:(v==4)=false:=ar.2 (by omega);have e5:(v==5)=true:=aK.2 h4;have N0:¬(v=4/\0<p.props.length+p.will.props.length):=fun y=>by omega
   have HC:Hid (kT v p=if v=4/\((p.client.size=0/\p.clean=false)\/(p.hasPass=true/\p.hasUser=false))then false
    else decide (0<=p.alive/\p.alive<65536/\0<=p.will.qos/\p.will.qos<=2)):=aa (by rw[HE3.o,HR.o,ae N0,ae H2.o])
   have HN:=aa (LU (HC.o.trans (ae (fun y=>by omega))));clear h4 N0;rcases HN.o with ⟨a1,hx⟩ | ⟨a1,a2,hx⟩ | ⟨a1,a2,a3,hx⟩ | ⟨a1,a2,a3,hx⟩
   ·have HX:=aa hx;have a1':p.alive<0:=by omega
    clear hx a1;go_wp2;go_ret;exact⟨by rw[HX.o];rfl,S2.o.kept⟩
   ·have HX:=aa hx;have a2':¬p.alive<=65535:=by omega
    clear hx a2;go_wp2;go_ret;exact⟨by rw[HX.o];rfl,S2.o.kept⟩
   ·have HX:=aa hx;have a2':p.alive<=65535:=by omega
    have a3':p.will.qos<0:=by omega
    clear hx a2 a3;go_wp2;go_ret;exact⟨by rw[HX.o];rfl,S2.o.kept⟩
   ·have HX:=aa hx;have a2':p.alive<=65535:=by omega
    clear hx a2;go_wp2;go_ret;exact⟨by rw[HX.o];rfl,S2.o.kept⟩
end
section
attribute [local go_sem ↓] bD bF bH bI bu
attribute [local go_sem] bc aD bh bg bK bJ bd aY be aO ax cI dC dB dt dj di dA dr dp dn bW co bO bZ bX cz cy cw cu ct cC cn bS bP bR
theorem Ic(v:Int)(p:Pk)(h:Hs)(w:World)(ip:PkIn w w.heap.size p h)(ok:PkOk p):
  Calls prog 181 #[.int .i64 v,pkV p h] w fun e w'=>e= .returned (.int .i64 (eR v p))/\Below w.heap.size w w':=by
 have OK:=aa ok;have S0:=aa ((St.start w).push ip);have HE:Hid (eR v p=if kT v p=false then 2
  else if bN p.client=false\/bN p.user=false then 6
  else if p.hasWill=true/\fp p.will.topic=false then 10
  else if 65535<p.will.payload.size\/65535<p.pass.size then 2
  else if(aM p.kind p.props).2≠0 then(aM p.kind p.props).2
  else(aM 16 p.will.props).2):=aa rfl
 have HA:Hid (kT v p=(ba v&&(gm p.kind&&(decide (p=kS p)&&dU v p)))):=aa rfl;have k0:=S0.o.cell 0 rfl;have l0:=S0.o.ld 0 rfl;clear ip ok;go_enter func181,ntmps181
 go_wp2_with fail
 refine(KH v p h _ (S0.o.into 0 rfl) OK.o).mono ?_;rintro e w1 ⟨rfl,hb⟩;have S2:=aa (S0.o.below hb);clear hb k0 l0
 have k0:=S2.o.cell 0 rfl;cases hr:kT v p
 ·have HX:Hid (eR v p=2):=aa (by rw[HE.o,if_pos hr]);clear hr;go_wp2;go_ret;exact⟨by rw[HX.o];rfl,S2.o.kept⟩
 have HZ:Hid (GI v p.kind p.props=(aM p.kind p.props).2/\GI v 16 p.will.props=(aM 16 p.will.props).2):=aa (by
  have hh:dU v p=true:=by
   have:=HA.o.symm.trans hr;simp only[eh]at this;exact this.2.2.2
  have h4:¬(v=4/\0<p.props.length+p.will.props.length):=fun y=>by
   unfold dU at hh;rw[if_pos y]at hh;cases hh
  exact⟨Ir (fun y=>by omega),Ir (fun y=>by omega)⟩)
 have HE1:Hid (eR v p=if bN p.client=false\/bN p.user=false then 6
  else if p.hasWill=true/\fp p.will.topic=false then 10
  else if 65535<p.will.payload.size\/65535<p.pass.size then 2
  else if(aM p.kind p.props).2≠0 then(aM p.kind p.props).2
  else(aM 16 p.will.props).2):=aa (by rw[HE.o,ae (by rw[hr];decide)])
 clear hr
 go_wp2_with fail
 refine(xj p.client _ (by have:=OK.o.texts;omega)).mono ?_;rintro e w3 ⟨rfl,rfl⟩;have S3:=S2;cases hc:bN p.client
 ·have HX:Hid (eR v p=6):=aa (by rw[HE1.o,if_pos (.inl hc)]);clear hc;go_wp2;go_ret;exact⟨by rw[HX.o];rfl,S3.o.kept⟩
 go_wp2_with fail
 refine(xj p.user _ (by have:=OK.o.texts;omega)).mono ?_;rintro e w4 ⟨rfl,rfl⟩;have S4:=S3;cases hu:bN p.user
 ·have HX:Hid (eR v p=6):=aa (by rw[HE1.o,if_pos (.inr hu)]);clear hc hu;go_wp2;go_ret;exact⟨by rw[HX.o];rfl,S4.o.kept⟩
 have HE2:Hid (eR v p=if p.hasWill=true/\fp p.will.topic=false then 10
  else if 65535<p.will.payload.size\/65535<p.pass.size then 2
  else if(aM p.kind p.props).2≠0 then(aM p.kind p.props).2
  else(aM 16 p.will.props).2):=aa (by rw[HE1.o,ae (fun y=>y.elim (fun z=>by rw[hc]at z;cases z) (fun z=>by rw[hu]at z;cases z))])
 clear hc hu;obtain⟨hw,hhw⟩:∃b,p.hasWill=b:=⟨_,rfl⟩;cases hw
 ·have HE3:Hid (eR v p=if 65535<p.will.payload.size\/65535<p.pass.size then 2
   else if(aM p.kind p.props).2≠0 then(aM p.kind p.props).2
   else(aM 16 p.will.props).2):=aa (by rw[HE2.o,ae (fun y=>by rw[hhw]at y;cases y.1)])
  have S5:=S4
  by_cases hy:65535<p.will.payload.size
  ·have d1:(65535:Int)<(p.will.payload.size:Int):=by omega
   have HX:Hid (eR v p=2):=aa (by rw[HE3.o,if_pos (.inl hy)]);clear hy;go_wp2;go_ret;exact⟨by rw[HX.o];rfl,S5.o.kept⟩
  have d1:(p.will.payload.size:Int)<=65535:=by omega
  by_cases hz:65535<p.pass.size
  ·have d2:(65535:Int)<(p.pass.size:Int):=by omega
   have HX:Hid (eR v p=2):=aa (by rw[HE3.o,if_pos (.inr hz)]);clear hy hz;go_wp2;go_ret;exact⟨by rw[HX.o];rfl,S5.o.kept⟩
  have d2:(p.pass.size:Int)<=65535:=by omega
  have HE4:Hid (eR v p=if(aM p.kind p.props).2≠0 then(aM p.kind p.props).2 else(aM 16 p.will.props).2):=aa (by rw[HE3.o,ae (fun y=>y.elim hy hz)]);clear hy hz
  go_wp2_with fail
  refine(Gx v p.kind p.props _ rfl OK.o.props h.props.a h.props.c _ (S5.o.into 0 rfl).props OK.o.len.2.2.2 (S5.o.into 0 rfl).caps.2.2.2).mono ?_;rintro e w6 ⟨rfl,hb⟩;rw[HZ.o.1];have S6:=aa (S5.o.below hb);clear hb k0
  have k0:=S6.o.cell 0 rfl
  by_cases hp:(aM p.kind p.props).2=0
  rotate_left
  ·have e0:((aM p.kind p.props).2 !=0)=true:=aA.2 hp;have HX:Hid (eR v p=(aM p.kind p.props).2):=aa (by rw[HE4.o,if_pos hp]);clear hp;go_wp2;go_ret;exact⟨by rw[HX.o];rfl,S6.o.kept⟩
  rw[hp];have HX:Hid (eR v p=(aM 16 p.will.props).2):=aa (by rw[HE4.o,ae (fun y=>y hp)]);clear hp
  go_wp2_with fail
  refine(Gx v 16 p.will.props _ rfl OK.o.wp h.wp.a h.wp.c _ (S6.o.into 0 rfl).wp OK.o.len.1 (S6.o.into 0 rfl).caps.1).mono ?_;rintro e w7 ⟨rfl,hb⟩;rw[HZ.o.2];have S7:=aa (S6.o.below hb);clear hb k0
  go_wp2;go_ret;exact⟨by rw[HX.o];rfl,S7.o.kept⟩
 ·go_wp2_with fail
  refine(Hg p.will.topic _ (by have:=OK.o.texts;omega)).mono ?_;rintro e w5 ⟨rfl,rfl⟩;have S5:=S4;cases hn:fp p.will.topic
  ·have HX:Hid (eR v p=10):=aa (by rw[HE2.o,if_pos ⟨hhw,hn⟩]);clear hn;go_wp2;go_ret;exact⟨by rw[HX.o];rfl,S5.o.kept⟩
  have HE3:Hid (eR v p=if 65535<p.will.payload.size\/65535<p.pass.size then 2
   else if(aM p.kind p.props).2≠0 then(aM p.kind p.props).2
   else(aM 16 p.will.props).2):=aa (by rw[HE2.o,ae (fun y=>by rw[hn]at y;cases y.2)])
  clear hn
  by_cases hy:65535<p.will.payload.size
  ·have d1:(65535:Int)<(p.will.payload.size:Int):=by omega
   have HX:Hid (eR v p=2):=aa (by rw[HE3.o,if_pos (.inl hy)]);clear hy;go_wp2;go_ret;exact⟨by rw[HX.o];rfl,S5.o.kept⟩
  have d1:(p.will.payload.size:Int)<=65535:=by omega
  by_cases hz:65535<p.pass.size
  ·have d2:(65535:Int)<(p.pass.size:Int):=by omega
   have HX:Hid (eR v p=2):=aa (by rw[HE3.o,if_pos (.inr hz)]);clear hy hz;go_wp2;go_ret;exact⟨by rw[HX.o];rfl,S5.o.kept⟩
  have d2:(p.pass.size:Int)<=65535:=by omega
  have HE4:Hid (eR v p=if(aM p.kind p.props).2≠0 then(aM p.kind p.props).2 else(aM 16 p.will.props).2):=aa (by rw[HE3.o,ae (fun y=>y.elim hy hz)]);clear hy hz
  go_wp2_with fail
  refine(Gx v p.kind p.props _ rfl OK.o.props h.props.a h.props.c _ (S5.o.into 0 rfl).props OK.o.len.2.2.2 (S5.o.into 0 rfl).caps.2.2.2).mono ?_;rintro e w6 ⟨rfl,hb⟩;rw[HZ.o.1];have S6:=aa (S5.o.below hb);clear hb k0
  have k0:=S6.o.cell 0 rfl
  by_cases hp:(aM p.kind p.props).2=0
  rotate_left
  ·have e0:((aM p.kind p.props).2 !=0)=true:=aA.2 hp;have HX:Hid (eR v p=(aM p.kind p.props).2):=aa (by rw[HE4.o,if_pos hp]);clear hp;go_wp2;go_ret;exact⟨by rw[HX.o];rfl,S6.o.kept⟩
  rw[hp];have HX:Hid (eR v p=(aM 16 p.will.props).2):=aa (by rw[HE4.o,ae (fun y=>y hp)]);clear hp
  go_wp2_with fail
  refine(Gx v 16 p.will.props _ rfl OK.o.wp h.wp.a h.wp.c _ (S6.o.into 0 rfl).wp OK.o.len.1 (S6.o.into 0 rfl).caps.1).mono ?_;rintro e w7 ⟨rfl,hb⟩;rw[HZ.o.2];have S7:=aa (S6.o.below hb);clear hb k0
  go_wp2;go_ret;exact⟨by rw[HX.o];rfl,S7.o.kept⟩
theorem Nt:qE ⟨#[77,81,84,84]⟩=i8:=by decide+kernel
end
section
attribute [local go_sem ↓] bD bF bH bI bu
attribute [local go_sem] bc aD bh bg bK bJ bd aY be aO ax cI dC dB dt dj di dA dr dp dn bW co bO bZ bX cz cy cw cu ct cC cn bS bP bR
structure RK (w:World) (g gp gc:Nat) (k i c:Int) (l:List Pr) (A:Option Addr) (n:Nat) (t:ByteArray) (a:Nat) (e:Int) (x:World):Prop where
 kept:Below w.heap.size w x
 res:Bk x g PkT (pkC pk0 hs0)
 pk:Bk x gp PkT (pkC (aP k i c l) {hs0 with props:=⟨A,n⟩})
 cur:IC x gc t a e
 rd:Rd x x.heap.size 4 A l.length (prs l)
 cap:l.length<=n
 ne:g≠gp/\g≠gc/\gp≠gc
 base:w.heap.size<=g/\w.heap.size<=gp/\w.heap.size<=gc
section
variable {w x y:World} {g gp gc:Nat} {k i c:Int} {l:List Pr} {A:Option Addr} {n:Nat} {t:ByteArray} {a a':Nat} {e e':Int}
theorem RK.below(h:RK w g gp gc k i c l A n t a e x)(hb:Below x.heap.size x y):RK w g gp gc k i c l A n t a e y:=
 ⟨h.kept.trans (hb.mono h.kept.size),h.res.below hb h.res.lt,h.pk.below hb h.pk.lt,h.cur.below hb,(h.rd.below hb).wider hb.size,h.cap,h.ne,h.base⟩
theorem RK.turn(h:RK w g gp gc k i c l A n t a e x)(hc:IC y gc t a' e')(hm:x.grownBy y (some gc)):RK w g gp gc k i c l A n t a' e' y:=
 ⟨dw h.kept hm h.kept.size h.base.2.2,h.res.mods (S:=fun z=>z=gc) (Mods.of_grown hm rfl) h.ne.2.1,h.pk.mods (S:=fun z=>z=gc) (Mods.of_grown hm rfl) h.ne.2.2,hc,
  (h.rd.other h.cur.1 (Io _ _ _) hm (ac _)).wider hm.size,h.cap,h.ne,h.base⟩
theorem P6{w:World}{g:Nat}{k i c:Int}{l:List Pr}{A:Option Addr}{n:Nat}(h:Bk w g PkT (pkC (aP k i 0 []) hs0)):Bk ((w.setCell ⟨g,21,.none⟩ (.int .i64 c)).setCell ⟨g,24,.none⟩ (.slice A l.length n)) g PkT (pkC (aP k i c l) {hs0 with props:=⟨A,n⟩}):=
 (h.upd 21 (.int .i64 c) (td k i 0 c [] hs0)).upd 24 _ (uT k i c [] l A n hs0)
theorem RK.put(h:RK w g gp gc k i 0 [] Option.none 0 t a e x){A':Option Addr}{n':Nat}{l':List Pr}{c':Int}(hr:Rd x x.heap.size 4 A' l'.length (prs l'))(hn:l'.length<=n'):
  RK w g gp gc k i c' l' A' n' t a e ((x.setCell ⟨gp,21,.none⟩ (.int .i64 c')).setCell ⟨gp,24,.none⟩ (.slice A' l'.length n')):=by
 have hm:=(cP x gp 21 (.int .i64 c')).trans (cP _ gp 24 (.slice A' l'.length n'));exact⟨dw h.kept hm h.kept.size h.base.2.1,(h.res.other h.ne.1 _).other h.ne.1 _,P6 h.pk,⟨(h.cur.1.other (Ne.symm h.ne.2.2) _).other (Ne.symm h.ne.2.2) _,h.cur.2⟩,(hr.other h.pk (dY _ _) hm (ac _)).wider hm.size,hn,h.ne,h.base⟩
theorem RK.stay(h:RK w g gp gc k i c l A n t a e x)(hm:Mods (fun z=>z=gc) x y):PkIn y y.heap.size (aP k i c l) {hs0 with props:=⟨A,n⟩}:=
 PkIn.R1 ((h.rd.other h.cur.1 (Io _ _ _) hm.grown (ac _)).wider hm.size) h.cap k i c
theorem RK.drewN(h:RK w g gp gc k i c l A n t a e x)(m:Nat):RK w g gp gc k i c l A n t a e (x.drewN m):=h.below (aV (aq _ _) m)
theorem RK.done{r:Pk×Int}{kk:Hs}(h:RK w g gp gc k i c l A n t a e x)(_hi:PkIn y y.heap.size r.1 kk)(hm:x.grownBy y (some gc))(hst:∀z,y.grownBy z (some g)->PkIn z z.heap.size r.1 kk):
  Below w.heap.size w (dE y g r.1 kk)/\Bk (dE y g r.1 kk) g PkT (pkC r.1 kk)/\PkIn (dE y g r.1 kk) (dE y g r.1 kk).heap.size r.1 kk:=
 ⟨bT (dw h.kept hm h.kept.size h.base.2.2) (aC h.kept.size hm.size) h.base.1 _ _,cO (h.res.mods (S:=fun z=>z=gc) (Mods.of_grown hm rfl) h.ne.2.1) _ _,hst _ (cJ _ _ _ _)⟩
theorem RK.into(h:RK w g gp gc k i c l A n t a e x):PkIn x x.heap.size (aP k i c l) {hs0 with props:=⟨A,n⟩}:=PkIn.R1 h.rd h.cap k i c
end
theorem PkIn.other_blk{w w':World}{g:Nat}{p:Pk}{h:Hs}{t:TypeId}{cs:Array Value}(hi:PkIn w w.heap.size p h)(h1:p.codes=[])(h2:p.filters=[])(hb:Bk w g t cs)(hcs:∀(i:Nat) (n:Int),cs[i]? ≠some (Value.int IntKind.u32 n))(hm:w.grownBy w' (some g)):PkIn w' w'.heap.size p h:=
 ⟨(hi.wp.other hb hcs hm (ac _)).wider hm.size,(hi.codes.grown hm (ac _) (fun _ _ _ hx=>absurd (by rw[h1];rfl) hx)).wider hm.size,
   (hi.filters.grown hm (ac _) (fun _ _ _ hx=>absurd (by rw[h2];rfl) hx)).wider hm.size,(hi.props.other hb hcs hm (ac _)).wider hm.size,hi.caps⟩
theorem QI{p:Pk}{t:ByteArray}{a:Nat}{e x:Int}(h1:p.codes=[])(h2:p.filters=[]):(Qx p t a e x).1.codes=[]/\(Qx p t a e x).1.filters=[]:=by
 unfold Qx;split
 ·exact⟨rfl,rfl⟩
 ·exact⟨h1,h2⟩
theorem RM(v k:Int)(s:ByteArray)(w:World)(hs:s.size<=140737488351232):
  Calls prog 149 #[.int .i64 v,.int .i64 k,.string s] w (mu (iW v k s) w):=by
 have HS:=aa hs;have HB0:=aa ((aq w.heap.size w).alloc (ac _) (.cells (pkC pk0 hs0) PkT));have HR0:=aa (Bk.fresh w PkT (pkC pk0 hs0));have hst:=aW HR0.o;go_enter func149,ntmps149
 go_wp2_with fail
 refine(pS v _).mono ?_;rintro e w1 ⟨rfl,rfl⟩;cases hk:ba v
 ·have HX:Hid (iW v k s=(pk0,2)):=aa (by unfold iW;rw[if_pos (show pe v k=false from ah (fun x=>by have h2:=Gy (show decide (v=4\/v=5)=false from hk);exact h2 x.1))]);clear hk;go_wp2;refine av (aI rfl _ rfl (cO HR0.o _ _)) rfl ?_;exact cL HX.o (bT HB0.o HB0.o.size (ac _) _ _)
 by_cases h4:k<4
 ·have HX:Hid (iW v k s=(pk0,2)):=aa (by unfold iW;rw[if_pos (show pe v k=false from ah (fun x=>by omega))]);clear hk;go_wp2;refine av (aI rfl _ rfl (cO HR0.o _ _)) rfl ?_;exact cL HX.o (bT HB0.o HB0.o.size (ac _) _ _)
 have d4:decide (k<(4:Int))=false:=ah h4
 by_cases h7:7<k
 ·have HX:Hid (iW v k s=(pk0,2)):=aa (by unfold iW;rw[if_pos (show pe v k=false from ah (fun x=>by omega))]);clear hk h4;go_wp2;refine av (aI rfl _ rfl (cO HR0.o _ _)) rfl ?_;exact cL HX.o (bT HB0.o HB0.o.size (ac _) _ _)
 have d7:decide ((7:Int)<k)=false:=ah h7;have HKN:Hid (pe v k=true):=aa (au ⟨aR (show decide (v=4\/v=5)=true from hk),by omega,by omega⟩);have HRR:=aa (Ty (s:=s) HKN.o);clear hk h4 h7 hst
 go_wp2_with fail
 refine(QN s _ (by have:=HS.o;omega)).mono ?_;rintro e w1 ⟨rfl,hcu,hb⟩;have hgc:(w.alloc (.cells (pkC pk0 hs0) PkT)).heap.size=w.heap.size+1:=by simp
 have HB1:=aa (HB0.o.trans (hb.mono HB0.o.size));have HR1:=aa (HR0.o.below hb HR0.o.lt)
 rw[hgc]at hcu⊢;have HC1:=aa hcu;clear hcu hb hgc
 go_wp2_with fail
 refine(Qz (w.heap.size+1) 0 s 0 2 _ HC1.o (by decide)).mono ?_;rintro e w2 ⟨rfl,hcu,hm⟩;have HB2:=aa (dw HB1.o hm HB1.o.size (by omega));have HR2:=aa (HR1.o.mods (S:=fun z=>z=w.heap.size+1) (Mods.of_grown hm rfl) (by omega));have HC2:=aa hcu
 have HZ:=aa HC2.o.lt;have hid:=gU s 0 0 (by omega);have HQ:Hid (rkQ v k s=aP k (br s 0 0 2:Nat) (rkR v k s).1 (rkR v k s).2.1):=aa rfl;have HRK:Hid (rkR v k s=Qu v k s (aH s 0 0 2).2.1 (aH s 0 0 2).2.2):=aa rfl;clear hcu hm;generalize br s 0 0 2=m at*;generalize (aH s 0 0 2).2.1=a1 at*;generalize (aH s 0 0 2).2.2=e1 at*;obtain⟨id,hm1⟩:∃id:Int,id=(m:Int):=⟨_,rfl⟩;have hw:IntKind.i64.wrap (m:Int)=id:=by rw[hm1,aQ];omega
 rw[<-hm1]at HQ;clear hid hm1;have I3:Hid (RK w w.heap.size w2.heap.size (w.heap.size+1) k id 0 [] none 0 s a1 e1 (w2.alloc (.cells (pkC (aP k id 0 []) hs0) PkT))):=aa
  ⟨HB2.o.alloc HB2.o.size _,HR2.o.alloc _,Bk.fresh _ _ _,⟨HC2.o.1.alloc _,HC2.o.2⟩,Rd.nil _ _ _ _,ac _,⟨by have:=HZ.o;omega,by omega,by have:=HZ.o;omega⟩,ac _,by have:=HZ.o;omega,by omega⟩
 go_wp2_with fail
 rw[vS];refine(QV v k (w.heap.size+1) a1 s e1 _ I3.o.cur HS.o).mono ?_;rintro e' x1 ⟨A,q,rfl,hlc,hr,hcu,hm⟩;rw[<-HRK.o]at hlc hr hcu⊢;have HOK:Hid (PkOk (rkQ v k s)):=aa (by rw[HQ.o,HRK.o];exact Tg HS.o);generalize rkR v k s=R at*;obtain⟨c,l,a2,e2⟩:=R;simp only at hlc hr hcu HQ HRR⊢;rw[HQ.o]at HRR HOK;have I4:=aa (I3.o.turn hcu hm);have I5:=aa (I4.o.put (c':=c) hr hlc);have f21:=I4.o.pk.free 21;have p21:=I4.o.pk.cell 21;have f24:=I4.o.pk.free 24;have p24:=I4.o.pk.cell 24;rw[cn]at p21;rw[bR]at p24;clear hlc hr hcu hm hw;generalize hgp:w2.heap.size=gp at*;clear hgp;have HS:=cf (I5.o.pk.drewN 1)
 go_wp2_with fail
 refine je (fun w'=>(kZ (.pointer (some ⟨gp,0,none⟩))).run prog w'= .ok (pkV (aP k id c l) {hs0 with props:=⟨A,q⟩}) w') [5] (by kernel_rfl) ?_;refine Uo (i:=0) (v:=?v0) [5] rfl (Or.inl ⟨by rfl,?h0⟩) HS ?r0
 case h0=>intro w' hSw;(try dsimp only at hSw);go_simp;try with_reducible rfl
 refine Uo (i:=1) (v:=?v1) [5] rfl (Or.inl ⟨by rfl,?h1⟩) HS ?r1
 case h1=>intro w' hSw;(try dsimp only at hSw);go_simp;try with_reducible rfl
 refine Uo (i:=2) (v:=?v2) [4,5] rfl (Or.inl ⟨by rfl,?h2⟩) HS ?r2
 case h2=>intro w' hSw;(try dsimp only at hSw);go_simp;try with_reducible rfl
 refine Uo (i:=3) (v:=?v3) [4,5] rfl (Or.inl ⟨by rfl,?h3⟩) HS ?r3
 case h3=>intro w' hSw;(try dsimp only at hSw);go_simp;try with_reducible rfl
 refine Up 4 rfl (fun K hK=>?_);go_simp
 go_at_call 183
 refine(IZ v (aP k id c l) _ _ (I5.o.drewN 1).into HOK.o).mono ?_;rintro e' z1 ⟨rfl,hb⟩;have J1:=aa ((I5.o.drewN 1).below hb);clear hb HS
 have HS:=cf J1.o.pk;go_simp;refine hK.out _ _ (fun _=>HS) ?_;clear hK K;refine Up 5 rfl (fun K hK=>?_);go_simp
 go_at_call 206
 refine(QF (w.heap.size+1) a2 s e2 (eS v (aP k id c l)) (aP k id c l) {hs0 with props:=⟨A,q⟩} _ J1.o.cur (fun y hm=>J1.o.stay hm)).mono ?_;rintro e' z2 ⟨kk,rfl,hi,hm⟩;go_simp;refine hK.out _ _ (fun hn=>absurd (hn 5 (by simp)) (by decide)) (mc (d:=5) (by simp) _ _ _ _ (by kernel_rfl) ?_);clear hK K HS;have HRL:=aa (QI (p:=aP k id c l) (t:=s) (a:=a2) (e:=e2) (x:=eS v (aP k id c l)) rfl rfl);obtain⟨R,hR⟩:∃R,Qx (aP k id c l) s a2 e2 (eS v (aP k id c l))=R:=⟨_,rfl⟩;rw[hR]at hi HRR HRL⊢;clear hR;have HST:Hid (∀y,z2.grownBy y (some w.heap.size)->PkIn y y.heap.size R.1 kk):=aa (fun y hy=>PkIn.other_blk hi HRL.o.1 HRL.o.2 (J1.o.res.mods (S:=fun z=>z=w.heap.size+1) (Mods.of_grown hm rfl) (by omega)) (dY _ _) hy);have HFD:=aa (J1.o.done (r:=R) hi hm HST.o);have hst:=aW (J1.o.res.mods (S:=fun z=>z=w.heap.size+1) (Mods.of_grown hm rfl) J1.o.ne.2.1);refine Qw (i:=6) (v:=?v6) rfl (by kernel_rfl) (by kernel_rfl) (by kernel_rfl) (fun _ _ _ h=>h) (Or.inl ⟨by rfl,?h6⟩) ?r6
 case h6=>intro w';go_simp;try with_reducible rfl
 refine Qw (i:=7) (v:=?v7) rfl (by kernel_rfl) (by kernel_rfl) (by kernel_rfl) (fun _ _ _ h=>h) (Or.inl ⟨by rfl,?h7⟩) ?r7
 case h7=>intro w';go_simp;try with_reducible rfl
 refine Uq 8 rfl (fun K hK=>?_);go_simp;refine hK.out _ _ ?_;clear hK K;refine Uq 9 rfl (fun K hK=>?_);go_simp;refine hK.out _ _ ?_;clear hK K;refine QB (by kernel_rfl) ?_ _;go_wp2;refine av (aI rfl _ rfl HFD.o.2.1) rfl ?_;rw[HRR.o];exact⟨kk,rfl,HFD.o.2.2,HFD.o.1⟩
end
end Go.Proofs.YtbdgkkmbnahgiaaGreatDoor
