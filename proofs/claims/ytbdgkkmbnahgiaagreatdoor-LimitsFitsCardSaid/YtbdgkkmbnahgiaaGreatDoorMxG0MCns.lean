/- A part of what the laws stand on: MCns, MRfP, RfY, RfZ. -/
import Derived.Test.YtbdgkkmbnahgiaaGreatDoorMxG0MCnr
set_option maxRecDepth 10000
set_option maxHeartbeats 8000000
namespace Go.Proofs.YtbdgkkmbnahgiaaGreatDoor
open Go.RowKit Go.Proofs.Tryz
section
attribute [local go_sem ↓] bD bF bH bI bu
attribute [local go_sem] bc aD bh bg bK bJ bd aY be aO ax cI dC dB dt dj di dA dr dp dn bW co bO bZ bX cz cy cw cu ct cC cn bS bP bR
structure CQ (w:World) (gc:Nat) (p:Pk) (h:Hs) (t:ByteArray) (a:Nat) (e:Int) (x:World):Prop where
 mods:w.grownBy x (some gc)
 cur:IC x gc t a e
 res:Bk x w.heap.size PkT (pkC pk0 hs0)
 pk:Bk x (w.heap.size+1) PkT (pkC p h)
 into:PkIn x x.heap.size p h
 flat:p.codes=[]/\p.filters=[]
 lt:gc<w.heap.size
section
variable {w x y:World} {gc:Nat} {p p':Pk} {h h':Hs} {t:ByteArray} {a a':Nat} {e e':Int}
theorem CQ.below(c:CQ w gc p h t a e x)(hb:Below x.heap.size x y):CQ w gc p h t a e y:=
 ⟨c.mods.trans (hJ hb _),c.cur.below hb,c.res.below hb c.res.lt,c.pk.below hb c.pk.lt,c.into.next hb,c.flat,c.lt⟩
theorem CQ.drewN(c:CQ w gc p h t a e x)(n:Nat):CQ w gc p h t a e (x.drewN n):=c.below (aV (aq _ _) n)
theorem CQ.turn(c:CQ w gc p h t a e x)(hc:IC y gc t a' e')(hm:x.grownBy y (some gc)):CQ w gc p h t a' e' y:=
 ⟨c.mods.trans hm,hc,c.res.mods (S:=fun z=>z=gc) (Mods.of_grown hm rfl) (by have:=c.lt;omega),c.pk.mods (S:=fun z=>z=gc) (Mods.of_grown hm rfl) (by have:=c.lt;omega),
  c.into.blk c.flat.1 c.flat.2 c.cur.1 (Io _ _ _) hm,c.flat,c.lt⟩
theorem CQ.put(c:CQ w gc p h t a e x)(i:Nat)(u:Value)(he:(pkC p h).setIfInBounds i u=pkC p' h')(hf:p'.codes=[]/\p'.filters=[])
  (hi:PkIn (x.setCell ⟨w.heap.size+1,i,none⟩ u) (x.setCell ⟨w.heap.size+1,i,none⟩ u).heap.size p' h'):CQ w gc p' h' t a e (x.setCell ⟨w.heap.size+1,i,none⟩ u):=
 ⟨Ae c.mods (by omega) i u,⟨c.cur.1.other (by have:=c.lt;simp;omega) u,c.cur.2⟩,c.res.other (by simp) u,c.pk.upd i u he,hi,hf,c.lt⟩
theorem CQ.set(c:CQ w gc p h t a e x)(i:Nat)(u:Value)(he:(pkC p h).setIfInBounds i u=pkC p' h)(hl:p'.will.props=p.will.props/\p'.codes=p.codes/\p'.filters=p.filters/\p'.props=p.props):
  CQ w gc p' h t a e (x.setCell ⟨w.heap.size+1,i,none⟩ u):=by
 refine c.put i u he ⟨hl.2.1.trans c.flat.1,hl.2.2.1.trans c.flat.2⟩ ?_;have:=c.into.blk c.flat.1 c.flat.2 c.pk (dY _ _) (cP x (w.heap.size+1) i u);obtain⟨h1,h2,h3,h4⟩:=hl;exact⟨by rw[h1];exact this.wp,by rw[h2];exact this.codes,by rw[h3];exact this.filters,by rw[h4];exact this.props,by rw[h1,h2,h3,h4];exact this.caps⟩
theorem CQ.setP(c:CQ w gc p h t a e x){A:Option Addr}{n:Nat}{l:List Pr}(hr:Rd x x.heap.size 4 A l.length (prs l))(hn:l.length<=n):
  CQ w gc {p with props:=l} {h with props:=⟨A,n⟩} t a e (x.setCell ⟨w.heap.size+1,24,none⟩ (.slice A l.length n)):=by
 refine c.put 24 _ rfl c.flat ?_;have hm:=cP x (w.heap.size+1) 24 (.slice A l.length n);have:=c.into.blk c.flat.1 c.flat.2 c.pk (dY _ _) hm;exact⟨this.wp,this.codes,this.filters,(hr.other c.pk (dY _ _) hm (ac _)).wider hm.size,this.caps.1,this.caps.2.1,this.caps.2.2.1,hn⟩
theorem CQ.setW(c:CQ w gc p h t a e x){A:Option Addr}{n:Nat}{l:List Pr}(hr:Rd x x.heap.size 4 A l.length (prs l))(hn:l.length<=n):
  CQ w gc {p with will:={p.will with props:=l}} {h with wp:=⟨A,n⟩} t a e (x.setCell ⟨w.heap.size+1,19,none⟩ (.slice A l.length n)):=by
 refine c.put 19 _ rfl c.flat ?_;have hm:=cP x (w.heap.size+1) 19 (.slice A l.length n);have:=c.into.blk c.flat.1 c.flat.2 c.pk (dY _ _) hm;exact⟨(hr.other c.pk (dY _ _) hm (ac _)).wider hm.size,this.codes,this.filters,this.props,hn,this.caps.2⟩
end
def Ql(g:Nat)(t:ByteArray)(r:Pk×Nat×Int)(w:World)(e:Ending)(w':World):Prop:=
 ∃k,e= .returned (pkV r.1 k)/\PkIn w' w'.heap.size r.1 k/\(r.1.codes=[]/\r.1.filters=[])/\IC w' g t r.2.1 r.2.2/\w.grownBy w' (some g)
theorem CQ.fin{w x:World}{gc:Nat}{p:Pk}{h:Hs}{t:ByteArray}{a:Nat}{e:Int}(c:CQ w gc p h t a e x):Ql gc t (p,a,e) w (.returned (pkV p h)) (dE x w.heap.size p h):=by
 have hm:=cJ x w.heap.size p h;exact⟨h,rfl,c.into.blk c.flat.1 c.flat.2 c.res (dY _ _) hm,c.flat,⟨c.cur.1.mods (S:=fun z=>z=w.heap.size) (Mods.of_grown hm rfl) (by have:=c.lt;omega),c.cur.2⟩,
  ⟨hm.os.trans c.mods.os,hm.tape.trans c.mods.tape,hm.output.trans c.mods.output,aC c.mods.size hm.size,fun i hi hn=>(hm.block i (by have:=c.mods.size;omega) (fun e=>by cases e;omega)).trans (c.mods.block i hi hn)⟩⟩
end
section
attribute [local go_sem ↓] bD bF bH bI bu
attribute [local go_sem] bc aD bh bg bK bJ bd aY be aO ax cI dC dB dt dj di dA dr dp dn bW co bO bZ bX cz cy cw cu ct cC cn bS bP bR
structure RQ (w:World) (gc gp:Nat) (p:Pk) (h:Hs) (t:ByteArray) (a:Nat) (e:Int) (x:World):Prop where
 kept:Below w.heap.size w x
 res:Bk x w.heap.size PkT (pkC pk0 hs0)
 pk:Bk x gp PkT (pkC p h)
 into:PkIn x x.heap.size p h
 flat:p.codes=[]/\p.filters=[]
 cur:IC x gc t a e
 ne:w.heap.size<gc/\gc<gp
section
variable {w x y:World} {gc gp:Nat} {p p':Pk} {h h':Hs} {t:ByteArray} {a a':Nat} {e e':Int}
theorem RQ.below(c:RQ w gc gp p h t a e x)(hb:Below x.heap.size x y):RQ w gc gp p h t a e y:=
 ⟨c.kept.trans (hb.mono c.kept.size),c.res.below hb c.res.lt,c.pk.below hb c.pk.lt,c.into.next hb,c.flat,c.cur.below hb,c.ne⟩
theorem RQ.drewN(c:RQ w gc gp p h t a e x)(n:Nat):RQ w gc gp p h t a e (x.drewN n):=c.below (aV (aq _ _) n)
theorem RQ.turn(c:RQ w gc gp p h t a e x)(hc:IC y gc t a' e')(hm:x.grownBy y (some gc)):RQ w gc gp p h t a' e' y:=
 ⟨dw c.kept hm c.kept.size (pf c.ne.1),c.res.mods (S:=fun z=>z=gc) (Mods.of_grown hm rfl) (by have:=c.ne;omega),c.pk.mods (S:=fun z=>z=gc) (Mods.of_grown hm rfl) (by have:=c.ne;omega),c.into.blk c.flat.1 c.flat.2 c.cur.1 (Io _ _ _) hm,c.flat,hc,c.ne⟩
theorem RQ.put(c:RQ w gc gp p h t a e x)(hi:PkIn x x.heap.size p' h')(hf:p'.codes=[]/\p'.filters=[]):RQ w gc gp p' h' t a e (dE x gp p' h'):=by
 have hm:=cJ x gp p' h';exact⟨bT c.kept c.kept.size (by have:=c.ne;omega) _ _,c.res.mods (S:=fun z=>z=gp) (Mods.of_grown hm rfl) (by have:=c.ne;omega),cO c.pk _ _,hi.blk hf.1 hf.2 c.pk (dY _ _) hm,hf,⟨c.cur.1.mods (S:=fun z=>z=gp) (Mods.of_grown hm rfl) (by have:=c.ne;omega),c.cur.2⟩,c.ne⟩
theorem RQ.bad(c:RQ w gc gp p h t a e x){r:Pk×Int}{n:Int}(hr:r=(pk0,n)):mu r w (.returned (.tuple #[pkV pk0 hs0,.int .i64 n])) (dE x w.heap.size pk0 hs0):=
 cL hr (bT c.kept c.kept.size (ac _) _ _)
theorem RQ.good(c:RQ w gc gp p h t a e x){r:Pk×Int}(hr:r=(p,0)):mu r w (.returned (.tuple #[pkV p h,.int .i64 0])) (dE x w.heap.size p h):=
 fo hr (c.into.blk c.flat.1 c.flat.2 c.res (dY _ _) (cJ _ _ _ _)) (bT c.kept c.kept.size (ac _) _ _)
end
end
section
attribute [local go_sem ↓] bD bF bH bI bu
attribute [local go_sem] bc aD bh bg bK bJ bd aY be aO ax cI dC dB dt dj di dA dr dp dn bW co bO bZ bX cz cy cw cu ct cC cn bS bP bR
section
variable {w x y:World} {gc gp:Nat} {p:Pk} {h:Hs} {t:ByteArray} {a:Nat} {e:Int}
theorem RQ.stay(c:RQ w gc gp p h t a e x)(hm:Mods (fun z=>z=gc) x y):PkIn y y.heap.size p h:=c.into.blk c.flat.1 c.flat.2 c.cur.1 (Io _ _ _) hm.grown
theorem RQ.done{r:Pk×Int}{kk:Hs}(c:RQ w gc gp p h t a e x)(hm:x.grownBy y (some gc))(hst:∀z,y.grownBy z (some w.heap.size)->PkIn z z.heap.size r.1 kk):
  Below w.heap.size w (dE y w.heap.size r.1 kk)/\Bk (dE y w.heap.size r.1 kk) w.heap.size PkT (pkC r.1 kk)/\PkIn (dE y w.heap.size r.1 kk) (dE y w.heap.size r.1 kk).heap.size r.1 kk:=
 ⟨bT (dw c.kept hm c.kept.size (pf c.ne.1)) (aC c.kept.size hm.size) (ac _) _ _,cO (c.res.mods (S:=fun z=>z=gc) (Mods.of_grown hm rfl) (by have:=c.ne;omega)) _ _,hst _ (cJ _ _ _ _)⟩
end
theorem RQ.setP{w x:World}{gc gp:Nat}{p:Pk}{h:Hs}{t:ByteArray}{a:Nat}{e:Int}(c:RQ w gc gp p h t a e x){A:Option Addr}{n:Nat}{l:List Pr}(hr:Rd x x.heap.size 4 A l.length (prs l))(hn:l.length<=n):
  RQ w gc gp {p with props:=l} {h with props:=⟨A,n⟩} t a e (x.setCell ⟨gp,24,none⟩ (.slice A l.length n)):=by
 have hm:=cP x gp 24 (.slice A l.length n);have:=c.into.blk c.flat.1 c.flat.2 c.pk (dY _ _) hm;exact⟨dw c.kept hm c.kept.size (by have:=c.ne;omega),c.res.other (by have:=c.ne;simp;omega) _,c.pk.upd 24 _ rfl,
  ⟨this.wp,this.codes,this.filters,(hr.other c.pk (dY _ _) hm (ac _)).wider hm.size,this.caps.1,this.caps.2.1,this.caps.2.2.1,hn⟩,c.flat,⟨c.cur.1.other (by have:=c.ne;simp;omega) _,c.cur.2⟩,c.ne⟩
end
section
attribute [local go_sem ↓] bD bF bH bI bu
attribute [local go_sem] bc aD bh bg bK bJ bd aY be aO ax cI dC dB dt dj di dA dr dp dn bW co bO bZ bX cz cy cw cu ct cC cn bS bP bR
theorem JF(v:Int)(p:Pk)(h:Hs)(w:World):
  Calls prog 86 #[.int .i64 v,pkV p h] w fun e w'=>e= .returned (.tuple #[.int .i64 (eM v p).1,.int .i64 (eM v p).2])/\Below w.heap.size w w':=by
 have HB:=aa ((aq w.heap.size w).alloc (ac _) (.cells (pkC p h) PkT));have HE:Hid (eM v p=if ba v=false then(0,2)else if dS v p.kind=false then(0,8)else if p.kind≠3 then(gg p.kind,0)else if tJ p=true then(0,7)else(ke p,0)):=aa rfl;have HBQ:Hid (tJ p=decide (p.qos<0\/2<p.qos\/(p.qos=0/\p.dup=true))):=aa rfl;have HFP:Hid (ke p=2*p.qos+(if p.retain=true then 1 else 0)+(if p.dup=true then 8 else 0)):=aa rfl;have k1a:(w.alloc (.cells (pkC p h) PkT)).cell? ⟨w.heap.size,3,none⟩=some (.int .i64 p.qos):=(Bk.fresh w PkT (pkC p h)).cell 3;have k1b:(w.alloc (.cells (pkC p h) PkT)).cell? ⟨w.heap.size,1,none⟩=some (.bool p.dup):=(Bk.fresh w PkT (pkC p h)).cell 1;have k1c:(w.alloc (.cells (pkC p h) PkT)).cell? ⟨w.heap.size,2,none⟩=some (.bool p.retain):=(Bk.fresh w PkT (pkC p h)).cell 2;have k1d:(w.alloc (.cells (pkC p h) PkT)).cell? ⟨w.heap.size,0,none⟩=some (.int .i64 p.kind):=(Bk.fresh w PkT (pkC p h)).cell 0;go_enter func86,ntmps86
 go_wp2_with fail
 refine(pS v _).mono ?_;rintro e w1 ⟨rfl,rfl⟩;cases hk:ba v
 ·have HX:Hid (eM v p=(0,2)):=aa (by rw[HE.o,if_pos hk]);clear hk;go_wp2;go_ret2;exact⟨by rw[HX.o];rfl,HB.o⟩
 have HE1:Hid (eM v p=if dS v p.kind=false then(0,8)else if p.kind≠3 then(gg p.kind,0)else if tJ p=true then(0,7)else(ke p,0)):=aa (by rw[HE.o,ae (fun x=>by rw[hk]at x;cases x)]);clear hk HE
 go_wp2_with fail
 refine(JO v p.kind _).mono ?_;rintro e w1 ⟨rfl,rfl⟩;cases hk:dS v p.kind
 ·have HX:Hid (eM v p=(0,8)):=aa (by rw[HE1.o,if_pos hk]);clear hk;go_wp2;go_ret2;exact⟨by rw[HX.o];rfl,HB.o⟩
 have HE2:Hid (eM v p=if p.kind≠3 then(gg p.kind,0)else if tJ p=true then(0,7)else(ke p,0)):=aa (by rw[HE1.o,ae (fun x=>by rw[hk]at x;cases x)]);clear hk HE1;generalize p.kind=kd at*
 by_cases h3:kd=3
 rotate_left
 ·have q3:(kd==3)=false:=ar.2 h3;have HX0:Hid (eM v p=(gg kd,0)):=aa (by rw[HE2.o,if_pos h3])
  by_cases h6:kd=6
  ·subst h6;have HX:Hid (eM v p=(2,0)):=aa (by rw[HX0.o];rfl);clear h3 q3;go_wp2;go_ret2;exact⟨by rw[HX.o];rfl,HB.o⟩
  by_cases h8:kd=8
  ·subst h8;have HX:Hid (eM v p=(2,0)):=aa (by rw[HX0.o];rfl);clear h3 q3 h6;go_wp2;go_ret2;exact⟨by rw[HX.o];rfl,HB.o⟩
  by_cases h10:kd=10
  ·subst h10;have HX:Hid (eM v p=(2,0)):=aa (by rw[HX0.o];rfl);clear h3 q3 h6 h8;go_wp2;go_ret2;exact⟨by rw[HX.o];rfl,HB.o⟩
  ·have HX:Hid (eM v p=(0,0)):=aa (by rw[HX0.o];unfold gg;rw[ae (by omega)]);have q6:(kd==6)=false:=ar.2 h6;have q8:(kd==8)=false:=ar.2 h8;have q10:(kd==10)=false:=ar.2 h10;clear h3 h6 h8 h10;go_wp2;go_ret2;exact⟨by rw[HX.o];rfl,HB.o⟩
 subst h3;have HE3:Hid (eM v p=if tJ p=true then(0,7)else(ke p,0)):=aa (by rw[HE2.o,ae (fun x=>x rfl)]);clear HE2;generalize p.qos=q at*;generalize p.dup=d at*;generalize p.retain=r at*
 by_cases h0:q<0
 ·have HX:Hid (eM v p=(0,7)):=aa (by rw[HE3.o,if_pos (by rw[HBQ.o];exact au (.inl h0))]);have d0:decide (q<0)=true:=au h0;clear h0;go_wp2;go_ret2;exact⟨by rw[HX.o];rfl,HB.o⟩
 have d0:decide (q<0)=false:=ah h0
 by_cases h2:2<q
 ·have HX:Hid (eM v p=(0,7)):=aa (by rw[HE3.o,if_pos (by rw[HBQ.o];exact au (.inr (.inl h2)))]);have d2:decide (2<q)=true:=au h2;clear h0 h2;go_wp2;go_ret2;exact⟨by rw[HX.o];rfl,HB.o⟩
 have hq:q=0\/q=1\/q=2:=by omega
 clear h0 h2 d0;obtain rfl| rfl| rfl:=hq
 ·cases d
  ·have HX:Hid (eM v p=(ke p,0)):=aa (by rw[HE3.o,ae (by rw[HBQ.o];decide)]);cases r
   all_goals
    go_wp2;go_ret2;exact⟨by rw[HX.o,HFP.o];rfl,HB.o⟩
  ·have HX:Hid (eM v p=(0,7)):=aa (by rw[HE3.o,if_pos (by rw[HBQ.o];decide)]);go_wp2;go_ret2;exact⟨by rw[HX.o];rfl,HB.o⟩
 all_goals
  have HX:Hid (eM v p=(ke p,0)):=aa (by rw[HE3.o,ae (by rw[HBQ.o];simp)]);cases d<;>cases r
  all_goals
   go_wp2;go_ret2;exact⟨by rw[HX.o,HFP.o];rfl,HB.o⟩
theorem Ik(p:Pk)(h:Hs)(w:World)(ip:PkIn w w.heap.size p h)(ok:PkOk p):
  Calls prog 244 #[pkV p h] w fun e w'=>e= .returned (.tuple #[.int .i64 (xg p.props 35).n,.bool (qR p)])/\Below w.heap.size w w':=by
 have hn:=FK p.props 35 ok.props;have OK:=aa ok;have S0:=aa ((St.start w).push ip);clear ip ok;go_enter func244,ntmps244
 go_wp2_with fail
 refine(Hy 35 p.props h.props.a h.props.c _ (S0.o.into 0 rfl).props OK.o.len.2.2.2).mono ?_;rintro e w1 ⟨rfl,hb⟩;have S1:=aa (S0.o.below hb);clear hb
 have HA:Hid (qR p=(nh p.props 35).isSome):=aa rfl;generalize (nh p.props 35).isSome=al at*;obtain⟨q,hq⟩:∃q,xg p.props 35=q:=⟨_,rfl⟩;rw[hq]at hn⊢;have HQ:=aa hq;clear hq;obtain⟨id,n,t,u⟩:=q;simp only at hn;have hw:IntKind.i64.wrap (n:Int)=(n:Int):=by rw[aQ];omega
 simp only[Pr.val];have S2:=aa (S1.o.alloc (.cells #[.int .i64 id,.int .u32 n,.string t,.string u] 102));go_wp2;go_ret2;exact⟨by rw[HA.o,HQ.o];rfl,S2.o.kept⟩
theorem Mg(p:Pk)(A:Option Addr)(c:Nat)(w:World):(qP #[(0,.int .i64 p.kind),(1,.bool p.dup),(2,.bool p.retain),(3,.int .i64 p.qos),(4,.int .i64 p.id),(5,.string p.topic),(6,.string p.payload),(20,.slice A p.props.length c)]).run prog w= .ok (pkV (zA p) {hs0 with props:=⟨A,c⟩}) w:=by kernel_rfl
theorem OY{w:World}{B:Nat}{p:Pk}{h:Hs}(i:PkIn w B p h):PkIn w B (zA p) {hs0 with props:=⟨h.props.a,h.props.c⟩}:=
 ⟨Rd.nil _ _ _ _,Rd.nil _ _ _ _,Rd.nil _ _ _ _,i.props,ag _,ag _,ag _,i.caps.2.2.2⟩
theorem Oe{p:Pk}(h:gz p):gz (zA p):=⟨ag _,ag _,ag _,h.2.2.2⟩
theorem IW(v:Int)(p:Pk)(h:Hs)(w:World)(ip:PkIn w w.heap.size p h)(ok:PkOk p):
  Calls prog 182 #[.int .i64 v,pkV p h] w fun e w'=>e= .returned (.int .i64 (ii v p))/\Below w.heap.size w w':=by
 have OK:=aa ok;have S0:=aa ((St.start w).push ip);have HL0:Hid (dK v p 0=if ba v=true/\p.kind=3 then 0 else 2):=aa rfl;have HL1:Hid (dK v p 1=(eM v p).2):=aa rfl;have HL2:Hid (dK v p 2=if kL v p=true then 0 else 2):=aa rfl;have HL3:Hid (dK v p 3=if tc v p=true then 0 else 10):=aa rfl;have HL4:Hid (dK v p 4=(aM 3 p.props).2):=aa rfl;have HE:Hid (ii v p=if dK v p 0≠0 then dK v p 0 else if dK v p 1≠0 then dK v p 1 else if dK v p 2≠0 then dK v p 2 else if dK v p 3≠0 then dK v p 3 else dK v p 4):=aa rfl;clear ip ok;go_enter func182,ntmps182
 go_wp2_with fail
 refine(pS v _).mono ?_;rintro e w1 ⟨rfl,rfl⟩;have k0:=S0.o.cell 0 rfl 0;rw[cI]at k0;cases hk:ba v
 ·have HX:Hid (ii v p=2):=aa (by
   have h0:dK v p 0=2:=by rw[HL0.o,ae (fun x=>by rw[hk]at x;cases x.1)]
   rw[HE.o,h0];rfl)
  clear hk;go_wp2;go_ret;exact⟨by rw[HX.o];rfl,S0.o.kept⟩
 by_cases h3:p.kind=3
 rotate_left
 ·have HX:Hid (ii v p=2):=aa (by
   have h0:dK v p 0=2:=by rw[HL0.o,ae (fun x=>h3 x.2)]
   rw[HE.o,h0];rfl)
  have e3:(p.kind !=3)=true:=aA.2 h3;clear hk h3;go_wp2;go_ret;exact⟨by rw[HX.o];rfl,S0.o.kept⟩
 have e3:(p.kind !=3)=false:=by simpa using h3
 have HE1:Hid (ii v p=if dK v p 1≠0 then dK v p 1 else if dK v p 2≠0 then dK v p 2 else if dK v p 3≠0 then dK v p 3 else dK v p 4):=aa (by
  have h0:dK v p 0=0:=by rw[HL0.o,if_pos ⟨hk,h3⟩]
  rw[HE.o,h0,ae (fun x=>x rfl)])
 have HK3:=aa (And.intro hk h3);clear hk h3 HE HL0;have hl:=S0.o.ld 0 rfl
 go_wp2_with fail
 refine(JF v p h _).mono ?_;rintro e w1 ⟨rfl,hb⟩;have S1:=aa (S0.o.below hb);clear hb hl k0 e3
 obtain⟨fl,hfl⟩:∃fl,eM v p=fl:=⟨_,rfl⟩;rw[hfl]at HL1⊢;have HFL:=aa hfl;clear hfl;obtain⟨f1,f2⟩:=fl;simp only at HL1⊢
 by_cases hf:f2=0
 rotate_left
 ·have HX:Hid (ii v p=f2):=aa (by rw[HE1.o,HL1.o,if_pos hf]);have e2:(f2 !=0)=true:=aA.2 hf;clear hf;go_wp2;go_ret;exact⟨by rw[HX.o];rfl,S1.o.kept⟩
 subst hf;have HE2:Hid (ii v p=if dK v p 2≠0 then dK v p 2 else if dK v p 3≠0 then dK v p 3 else dK v p 4):=aa (by rw[HE1.o,HL1.o,ae (fun x=>x rfl)]);have HBQ:Hid (0<=p.qos/\p.qos<=2):=aa (by
  have hh:=HFL.o;unfold eM at hh;rw[HK3.o.1,HK3.o.2]at hh;rw[ae (by simp)]at hh
  by_cases hkk:dS v 3=false
  ·rw[if_pos hkk]at hh;cases hh
  rw[ae hkk,ae (fun x=>x rfl)]at hh
  by_cases hbq:tJ p=true
  ·rw[if_pos hbq]at hh;cases hh
  ·have hb0:tJ p=false:=by simpa using hbq
   have:=Gy hb0;omega)
 clear HE1 HL1 HFL;have j0:=S1.o.cell 0 rfl 0;have j1:=S1.o.cell 0 rfl 1;have j2:=S1.o.cell 0 rfl 2;have j3:=S1.o.cell 0 rfl 3;have j4:=S1.o.cell 0 rfl 4;have j5:=S1.o.cell 0 rfl 5;have j6:=S1.o.cell 0 rfl 6;have j20:=S1.o.cell 0 rfl 24;rw[cI]at j0;rw[dC]at j1;rw[dB]at j2;rw[dt]at j3;rw[dj]at j4;rw[di]at j5;rw[dA]at j6;rw[bR]at j20;have hbd:=fun W=>Mg p h.props.a h.props.c W;have S2:Hid (St w [(w.heap.size,p,h),(w1.heap.size,zA p,{hs0 with props:=⟨h.props.a,h.props.c⟩})] (w1.alloc (.cells (pkC (zA p) {hs0 with props:=⟨h.props.a,h.props.c⟩}) PkT))):=aa (S1.o.push (OY (S1.o.into 0 rfl)));have hl0:=S2.o.ld 0 rfl;have hl1:=S2.o.ld 1 rfl
 go_wp2_with fail
 refine(GP p (zA p) h _ _ (S2.o.into 0 rfl) (S2.o.into 1 rfl) OK.o.len (Oe OK.o.len)).mono ?_;rintro e w3 ⟨rfl,hb⟩;have S3:=aa (S2.o.below hb);clear hb hl0 hl1 j0 j1 j2 j3 j4 j5 j6 j20 hbd
 have k3:=S3.o.cell 0 rfl 3;have k4:=S3.o.cell 0 rfl 4;have k20:=S3.o.cell 0 rfl 24;rw[dt]at k3;rw[dj]at k4;rw[bR]at k20;have hl3:=S3.o.ld 0 rfl
 by_cases hsm:p=zA p
 rotate_left
 ·have HX:Hid (ii v p=2):=aa (by
   have h0:dK v p 2=2:=by rw[HL2.o,ae (by unfold kL;simp only[Fx];exact fun x=>hsm x.1)]
   rw[HE2.o,h0];rfl)
  rw[ah hsm];clear hsm;go_wp2;go_ret;exact⟨by rw[HX.o];rfl,S3.o.kept⟩
 rw[au hsm];have HSM:=aa hsm;clear hsm
 by_cases hq:p.qos=0
 ·have q0:(p.qos==0)=true:=aK.2 hq;have q1:decide ((0:Int)<p.qos)=false:=ah (by omega)
  by_cases hi:p.id=0
  rotate_left
  ·have HX:Hid (ii v p=2):=aa (by
    have h0:dK v p 2=2:=by rw[HL2.o,ae (by unfold kL;simp only[Fx];exact fun x=>hi (x.2.2.1 hq))]
    rw[HE2.o,h0];rfl)
   have i0:(p.id !=0)=true:=aA.2 hi;clear hq hi;go_wp2;go_ret;exact⟨by rw[HX.o];rfl,S3.o.kept⟩
  have i0:(p.id !=0)=false:=by simpa using hi
  have HV5:v≠4->Hid (v=5):=fun x=>aa (by have:=aR (show decide (v=4\/v=5)=true from HK3.o.1);omega)
  by_cases h4:v=4
  ·have e4:(v==4)=true:=aK.2 h4;have e5:(v==5)=false:=ar.2 (by omega)
   by_cases h0:0<p.props.length
   ·have HX:Hid (ii v p=2):=aa (by
     have h0:dK v p 2=2:=by rw[HL2.o,ae (by unfold kL;simp only[Fx];exact fun x=>x.2.1 ⟨h4,h0⟩)]
     rw[HE2.o,h0];rfl)
    have d0:decide ((0:Int)<(p.props.length:Int))=true:=au (by omega);have d1:decide (0<p.props.length)=true:=au h0;clear hq hi HV5 h4 h0;go_wp2;go_ret;exact⟨by rw[HX.o];rfl,S3.o.kept⟩
   ·have HE3:Hid (ii v p=if dK v p 3≠0 then dK v p 3 else dK v p 4):=aa (by
     have h0:dK v p 2=0:=by rw[HL2.o,if_pos (by unfold kL;exact au ⟨HSM.o,fun x=>h0 x.2,fun _=>hi,fun x=>absurd hq x⟩)]
     rw[HE2.o,h0,ae (fun x=>x rfl)])
    have HRT:Hid (GI v 3 p.props=(aM 3 p.props).2):=aa (by
     unfold GI;rw[if_pos h4,ae h0,show p.props=[]from aF (by omega)];rfl)
    have d0:decide ((0:Int)<(p.props.length:Int))=false:=ah (by omega);have d1:decide (0<p.props.length)=false:=ah h0;have H4:=aa h4;clear hq hi HV5 h4 h0
    go_wp2_with fail
    refine(Ik p h _ (S3.o.into 0 rfl) OK.o).mono ?_;rintro e w4 ⟨rfl,hb⟩;have S4:=aa (S3.o.below hb);clear hb hl3 k3 k4 k20
    have n5:=S4.o.cell 0 rfl 5;rw[di]at n5;have n24:=S4.o.cell 0 rfl 24;rw[bR]at n24
    go_wp2_with fail
    refine(Hg p.topic _ (by have:=OK.o.texts.1;omega)).mono ?_;rintro e w5 ⟨rfl,rfl⟩;have hem:=kR p.topic;have HN:Hid (tc v p=(fp p.topic || (decide (v=5)&&(qR p&&p.topic.toList.isEmpty)))):=aa (by rw[hem];rfl);clear hem;generalize (xg p.props 35).n=al at*;cases hn:fp p.topic
    ·rw[hn,nB]at HN;have HNM:=aa hn;cases he:p.topic.toList.isEmpty
     ·have HX:Hid (ii v p=10):=aa (by
       have h0:dK v p 3=10:=by rw[HL3.o,ae (by rw[HN.o,he,ru,ru];simp)]
       rw[HE3.o,h0];rfl)
      clear hn;go_wp2;go_ret;exact⟨by rw[HX.o];rfl,S4.o.kept⟩
     cases ha:qR p
     ·have HX:Hid (ii v p=10):=aa (by
       have h0:dK v p 3=10:=by rw[HL3.o,ae (by rw[HN.o,ha,bj,ru];simp)]
       rw[HE3.o,h0];rfl)
      clear hn ha;go_wp2;go_ret;exact⟨by rw[HX.o];rfl,S4.o.kept⟩
     have HX:Hid (ii v p=10):=aa (by
      have h0:dK v p 3=10:=by rw[HL3.o,ae (by rw[HN.o,ah (by have:=H4.o;omega),bj];simp)]
      rw[HE3.o,h0];rfl)
     clear hn ha;go_wp2;go_ret;exact⟨by rw[HX.o];rfl,S4.o.kept⟩
    ·have HX3:Hid (ii v p=dK v p 4):=aa (by
      have h0:dK v p 3=0:=by rw[HL3.o,if_pos (by unfold tc;rw[hn];rfl)]
      rw[HE3.o,h0,ae (fun x=>x rfl)])
     clear hn
     go_wp2_with fail
     refine(Gx v 3 p.props _ rfl OK.o.props h.props.a h.props.c _ (S4.o.into 0 rfl).props OK.o.len.2.2.2 (S4.o.into 0 rfl).caps.2.2.2).mono ?_;rintro e w6 ⟨rfl,hb⟩;have S5:=aa (S4.o.below hb);clear hb
     rw[HRT.o];go_wp2;go_ret;exact⟨by rw[HX3.o,HL4.o];rfl,S5.o.kept⟩
  ·have e4:(v==4)=false:=ar.2 h4;have e5:(v==5)=true:=aK.2 (HV5 h4).out;have H5:Hid (v=5):=HV5 h4;have HE3:Hid (ii v p=if dK v p 3≠0 then dK v p 3 else dK v p 4):=aa (by
    have h0:dK v p 2=0:=by rw[HL2.o,if_pos (by unfold kL;exact au ⟨HSM.o,fun x=>h4 x.1,fun _=>hi,fun x=>absurd hq x⟩)]
    rw[HE2.o,h0,ae (fun x=>x rfl)])
   have HRT:Hid (GI v 3 p.props=(aM 3 p.props).2):=aa (ae h4);clear hq hi HV5 h4
   go_wp2_with fail
   refine(Ik p h _ (S3.o.into 0 rfl) OK.o).mono ?_;rintro e w4 ⟨rfl,hb⟩;have S4:=aa (S3.o.below hb);clear hb hl3 k3 k4 k20
   have n5:=S4.o.cell 0 rfl 5;rw[di]at n5;have n24:=S4.o.cell 0 rfl 24;rw[bR]at n24
   go_wp2_with fail
   refine(Hg p.topic _ (by have:=OK.o.texts.1;omega)).mono ?_;rintro e w5 ⟨rfl,rfl⟩;have hem:=kR p.topic;have HN:Hid (tc v p=(fp p.topic || (decide (v=5)&&(qR p&&p.topic.toList.isEmpty)))):=aa (by rw[hem];rfl);clear hem;generalize (xg p.props 35).n=al at*;cases hn:fp p.topic
   ·rw[hn,nB]at HN;have HNM:=aa hn;cases he:p.topic.toList.isEmpty
    ·have HX:Hid (ii v p=10):=aa (by
      have h0:dK v p 3=10:=by rw[HL3.o,ae (by rw[HN.o,he,ru,ru];simp)]
      rw[HE3.o,h0];rfl)
     clear hn;go_wp2;go_ret;exact⟨by rw[HX.o];rfl,S4.o.kept⟩
    cases ha:qR p
    ·have HX:Hid (ii v p=10):=aa (by
      have h0:dK v p 3=10:=by rw[HL3.o,ae (by rw[HN.o,ha,bj,ru];simp)]
      rw[HE3.o,h0];rfl)
     clear hn ha;go_wp2;go_ret;exact⟨by rw[HX.o];rfl,S4.o.kept⟩
    have HX3:Hid (ii v p=dK v p 4):=aa (by
     have h0:dK v p 3=0:=by rw[HL3.o,if_pos (by rw[HN.o,he,ha,au H5.o];rfl)]
     rw[HE3.o,h0,ae (fun x=>x rfl)])
    clear hn ha
    go_wp2_with fail
    refine(Gx v 3 p.props _ rfl OK.o.props h.props.a h.props.c _ (S4.o.into 0 rfl).props OK.o.len.2.2.2 (S4.o.into 0 rfl).caps.2.2.2).mono ?_;rintro e w6 ⟨rfl,hb⟩;have S5:=aa (S4.o.below hb);clear hb
    rw[HRT.o];go_wp2;go_ret;exact⟨by rw[HX3.o,HL4.o];rfl,S5.o.kept⟩
   ·have HX3:Hid (ii v p=dK v p 4):=aa (by
     have h0:dK v p 3=0:=by rw[HL3.o,if_pos (by unfold tc;rw[hn];rfl)]
     rw[HE3.o,h0,ae (fun x=>x rfl)])
    clear hn
    go_wp2_with fail
    refine(Gx v 3 p.props _ rfl OK.o.props h.props.a h.props.c _ (S4.o.into 0 rfl).props OK.o.len.2.2.2 (S4.o.into 0 rfl).caps.2.2.2).mono ?_;rintro e w6 ⟨rfl,hb⟩;have S5:=aa (S4.o.below hb);clear hb
    rw[HRT.o];go_wp2;go_ret;exact⟨by rw[HX3.o,HL4.o];rfl,S5.o.kept⟩
 ·have q0:(p.qos==0)=false:=ar.2 hq;have q1:decide ((0:Int)<p.qos)=true:=au (by have:=HBQ.o;omega)
  by_cases hi:p.id<1
  ·have HX:Hid (ii v p=2):=aa (by
    have h0:dK v p 2=2:=by rw[HL2.o,ae (by unfold kL;simp only[Fx];exact fun x=>by have:=(x.2.2.2 hq).1;omega)]
    rw[HE2.o,h0];rfl)
   have i1:decide (p.id<(1:Int))=true:=au hi;clear hq hi;go_wp2;go_ret;exact⟨by rw[HX.o];rfl,S3.o.kept⟩
  have i1:decide (p.id<(1:Int))=false:=ah hi
  by_cases hj:65535<p.id
  ·have HX:Hid (ii v p=2):=aa (by
    have h0:dK v p 2=2:=by rw[HL2.o,ae (by unfold kL;simp only[Fx];exact fun x=>by have:=(x.2.2.2 hq).2;omega)]
    rw[HE2.o,h0];rfl)
   have i2:decide ((65535:Int)<p.id)=true:=au hj;clear hq hi hj;go_wp2;go_ret;exact⟨by rw[HX.o];rfl,S3.o.kept⟩
  have i2:decide ((65535:Int)<p.id)=false:=ah hj;have HV5:v≠4->Hid (v=5):=fun x=>aa (by have:=aR (show decide (v=4\/v=5)=true from HK3.o.1);omega)
  by_cases h4:v=4
  ·have e4:(v==4)=true:=aK.2 h4;have e5:(v==5)=false:=ar.2 (by omega)
   by_cases h0:0<p.props.length
   ·have HX:Hid (ii v p=2):=aa (by
     have h0:dK v p 2=2:=by rw[HL2.o,ae (by unfold kL;simp only[Fx];exact fun x=>x.2.1 ⟨h4,h0⟩)]
     rw[HE2.o,h0];rfl)
    have d0:decide ((0:Int)<(p.props.length:Int))=true:=au (by omega);have d1:decide (0<p.props.length)=true:=au h0;clear hq hi hj HV5 h4 h0;go_wp2;go_ret;exact⟨by rw[HX.o];rfl,S3.o.kept⟩
   ·have HE3:Hid (ii v p=if dK v p 3≠0 then dK v p 3 else dK v p 4):=aa (by
     have h0:dK v p 2=0:=by rw[HL2.o,if_pos (by unfold kL;exact au ⟨HSM.o,fun x=>h0 x.2,fun x=>absurd x hq,fun _=>⟨by omega,by omega⟩⟩)]
     rw[HE2.o,h0,ae (fun x=>x rfl)])
    have HRT:Hid (GI v 3 p.props=(aM 3 p.props).2):=aa (by
     unfold GI;rw[if_pos h4,ae h0,show p.props=[]from aF (by omega)];rfl)
    have d0:decide ((0:Int)<(p.props.length:Int))=false:=ah (by omega);have d1:decide (0<p.props.length)=false:=ah h0;have H4:=aa h4;clear hq hi hj HV5 h4 h0
    go_wp2_with fail
    refine(Ik p h _ (S3.o.into 0 rfl) OK.o).mono ?_;rintro e w4 ⟨rfl,hb⟩;have S4:=aa (S3.o.below hb);clear hb hl3 k3 k4 k20
    have n5:=S4.o.cell 0 rfl 5;rw[di]at n5;have n24:=S4.o.cell 0 rfl 24;rw[bR]at n24
    go_wp2_with fail
    refine(Hg p.topic _ (by have:=OK.o.texts.1;omega)).mono ?_;rintro e w5 ⟨rfl,rfl⟩;have hem:=kR p.topic;have HN:Hid (tc v p=(fp p.topic || (decide (v=5)&&(qR p&&p.topic.toList.isEmpty)))):=aa (by rw[hem];rfl);clear hem;generalize (xg p.props 35).n=al at*;cases hn:fp p.topic
    ·rw[hn,nB]at HN;have HNM:=aa hn;cases he:p.topic.toList.isEmpty
     ·have HX:Hid (ii v p=10):=aa (by
       have h0:dK v p 3=10:=by rw[HL3.o,ae (by rw[HN.o,he,ru,ru];simp)]
       rw[HE3.o,h0];rfl)
      clear hn;go_wp2;go_ret;exact⟨by rw[HX.o];rfl,S4.o.kept⟩
     cases ha:qR p
     ·have HX:Hid (ii v p=10):=aa (by
       have h0:dK v p 3=10:=by rw[HL3.o,ae (by rw[HN.o,ha,bj,ru];simp)]
       rw[HE3.o,h0];rfl)
      clear hn ha;go_wp2;go_ret;exact⟨by rw[HX.o];rfl,S4.o.kept⟩
     have HX:Hid (ii v p=10):=aa (by
      have h0:dK v p 3=10:=by rw[HL3.o,ae (by rw[HN.o,ah (by have:=H4.o;omega),bj];simp)]
      rw[HE3.o,h0];rfl)
     clear hn ha;go_wp2;go_ret;exact⟨by rw[HX.o];rfl,S4.o.kept⟩
    ·have HX3:Hid (ii v p=dK v p 4):=aa (by
      have h0:dK v p 3=0:=by rw[HL3.o,if_pos (by unfold tc;rw[hn];rfl)]
      rw[HE3.o,h0,ae (fun x=>x rfl)])
     clear hn
     go_wp2_with fail
     refine(Gx v 3 p.props _ rfl OK.o.props h.props.a h.props.c _ (S4.o.into 0 rfl).props OK.o.len.2.2.2 (S4.o.into 0 rfl).caps.2.2.2).mono ?_;rintro e w6 ⟨rfl,hb⟩;have S5:=aa (S4.o.below hb);clear hb
     rw[HRT.o];go_wp2;go_ret;exact⟨by rw[HX3.o,HL4.o];rfl,S5.o.kept⟩
  ·have e4:(v==4)=false:=ar.2 h4;have e5:(v==5)=true:=aK.2 (HV5 h4).out;have H5:Hid (v=5):=HV5 h4;have HE3:Hid (ii v p=if dK v p 3≠0 then dK v p 3 else dK v p 4):=aa (by
    have h0:dK v p 2=0:=by rw[HL2.o,if_pos (by unfold kL;exact au ⟨HSM.o,fun x=>h4 x.1,fun x=>absurd x hq,fun _=>⟨by omega,by omega⟩⟩)]
    rw[HE2.o,h0,ae (fun x=>x rfl)])
   have HRT:Hid (GI v 3 p.props=(aM 3 p.props).2):=aa (ae h4);clear hq hi hj HV5 h4
   go_wp2_with fail
   refine(Ik p h _ (S3.o.into 0 rfl) OK.o).mono ?_;rintro e w4 ⟨rfl,hb⟩;have S4:=aa (S3.o.below hb);clear hb hl3 k3 k4 k20
   have n5:=S4.o.cell 0 rfl 5;rw[di]at n5;have n24:=S4.o.cell 0 rfl 24;rw[bR]at n24
   go_wp2_with fail
   refine(Hg p.topic _ (by have:=OK.o.texts.1;omega)).mono ?_;rintro e w5 ⟨rfl,rfl⟩;have hem:=kR p.topic;have HN:Hid (tc v p=(fp p.topic || (decide (v=5)&&(qR p&&p.topic.toList.isEmpty)))):=aa (by rw[hem];rfl);clear hem;generalize (xg p.props 35).n=al at*;cases hn:fp p.topic
   ·rw[hn,nB]at HN;have HNM:=aa hn;cases he:p.topic.toList.isEmpty
    ·have HX:Hid (ii v p=10):=aa (by
      have h0:dK v p 3=10:=by rw[HL3.o,ae (by rw[HN.o,he,ru,ru];simp)]
      rw[HE3.o,h0];rfl)
     clear hn;go_wp2;go_ret;exact⟨by rw[HX.o];rfl,S4.o.kept⟩
    cases ha:qR p
    ·have HX:Hid (ii v p=10):=aa (by
      have h0:dK v p 3=10:=by rw[HL3.o,ae (by rw[HN.o,ha,bj,ru];simp)]
      rw[HE3.o,h0];rfl)
     clear hn ha;go_wp2;go_ret;exact⟨by rw[HX.o];rfl,S4.o.kept⟩
    have HX3:Hid (ii v p=dK v p 4):=aa (by
     have h0:dK v p 3=0:=by rw[HL3.o,if_pos (by rw[HN.o,he,ha,au H5.o];rfl)]
     rw[HE3.o,h0,ae (fun x=>x rfl)])
    clear hn ha
    go_wp2_with fail
    refine(Gx v 3 p.props _ rfl OK.o.props h.props.a h.props.c _ (S4.o.into 0 rfl).props OK.o.len.2.2.2 (S4.o.into 0 rfl).caps.2.2.2).mono ?_;rintro e w6 ⟨rfl,hb⟩;have S5:=aa (S4.o.below hb);clear hb
    rw[HRT.o];go_wp2;go_ret;exact⟨by rw[HX3.o,HL4.o];rfl,S5.o.kept⟩
   ·have HX3:Hid (ii v p=dK v p 4):=aa (by
     have h0:dK v p 3=0:=by rw[HL3.o,if_pos (by unfold tc;rw[hn];rfl)]
     rw[HE3.o,h0,ae (fun x=>x rfl)])
    clear hn
    go_wp2_with fail
    refine(Gx v 3 p.props _ rfl OK.o.props h.props.a h.props.c _ (S4.o.into 0 rfl).props OK.o.len.2.2.2 (S4.o.into 0 rfl).caps.2.2.2).mono ?_;rintro e w6 ⟨rfl,hb⟩;have S5:=aa (S4.o.below hb);clear hb
    rw[HRT.o];go_wp2;go_ret;exact⟨by rw[HX3.o,HL4.o];rfl,S5.o.kept⟩
theorem PQ(T Y:ByteArray):T++(⟨#[]⟩:ByteArray)++Y=T++Y:=eX (by rw[fe,fe,fe];simp[ls])
theorem Md{v:Int}{l:List Pr}(h:(aM 3 l).2=0):(Hq v 3 l).size<=131075004:=by
 unfold Hq;split
 ·exact ag _
 ·rw[GW];exact(G6 3 l h).2
theorem JV(v:Int)(p:Pk)(h:Hs)(w:World)(ip:PkIn w w.heap.size p h)(ok:PkOk p):
  Calls prog 187 #[.int .i64 v,pkV p h] w fun e w'=>e= .returned (.tuple #[.string (Gf v p).1,.int .i64 (Gf v p).2])/\Below w.heap.size w w':=by
 have OK:=aa ok;have S0:=aa ((St.start w).push ip);have HE:Hid (Gf v p=if ii v p=0 then(ys v p++p.payload,0)else(⟨#[]⟩,ii v p)):=aa rfl;have H2:Hid (ys v p=if v=5 then BH p++⟨(aM p.kind p.props).1.toArray⟩else BH p):=aa rfl;have H1:Hid (BH p=if p.qos≠0 then cQ p.topic++⟨(da p.id.toNat 2).toArray⟩else cQ p.topic):=aa rfl;clear ip ok;have hl:=S0.o.ld 0 rfl;go_enter func187,ntmps187
 go_wp2_with fail
 refine(IW v p h _ (S0.o.into 0 rfl) OK.o).mono ?_;rintro e w1 ⟨rfl,hb⟩;have S1:=aa (S0.o.below hb);clear hb hl
 by_cases he:ii v p=0
 rotate_left
 ·have e0:(ii v p !=0)=true:=aA.2 he;have HX:Hid (Gf v p=(⟨#[]⟩,ii v p)):=aa (by rw[HE.o,ae he]);clear he;go_wp2;go_ret2;exact⟨by rw[HX.o];rfl,S1.o.kept⟩
 have HX:Hid (Gf v p=(ys v p++p.payload,0)):=aa (by rw[HE.o,if_pos he]);have G:=aa (zB he);rw[he];have HT:=aa (gL G.o.topic);have HXX:∀Q:ByteArray,BH p=Q->Hid (Gf v p=(Q++Hq v 3 p.props++p.payload,0)):=fun Q hQ=>aa (by
  rw[HX.o,H2.o];unfold Hq
  by_cases h5:v=5
  ·rw[if_pos h5,ae (by omega),hQ,G.o.kind]
  ·have h4:=G.o.k.resolve_right h5;rw[ae h5,if_pos h4,hQ,PQ])
 have HTB:=aa (Md (v:=v) G.o.bytes);have k1:=S1.o.cell 0 rfl 5;rw[di]at k1;clear he
 go_wp2_with fail
 refine(JC p.topic _ (by have:=OK.o.texts.1;omega)).mono ?_;rintro e w2 ⟨rfl,hb⟩;have S2:=aa (S1.o.below hb);clear hb k1
 rw[show IM p.topic=(cQ p.topic,0)from if_pos G.o.topic];simp only;have hfs:(cQ p.topic).size<=65537:=by rw[eN];have:=HT.o;omega
 obtain⟨T,hT⟩:∃T,cQ p.topic=T:=⟨_,rfl⟩;rw[hT]at hfs H1⊢;have HFS:=aa hfs;obtain⟨Y,hY⟩:∃Y:ByteArray,p.payload=Y:=⟨_,rfl⟩;have HY:Hid (Y.size<=140737488351232):=aa (by rw[<-hY];exact OK.o.texts.2.1);rw[hY]at HXX;have HYY:=aa hY;have HXH:=aa HXX;clear hT hfs hY HXX;have k2:=S2.o.cell 0 rfl 3;rw[dt]at k2;have k3:=S2.o.cell 0 rfl 4;rw[dj]at k3
 by_cases hq:p.qos=0
 ·have eq:decide ((0:Int)<p.qos)=false:=ah (by omega);have HW:=HXH.o T (by rw[H1.o,ae (fun y=>y hq)]);clear hq k3;obtain⟨Z,hZ⟩:∃Z:ByteArray,Hq v 3 p.props=Z:=⟨_,rfl⟩;rw[hZ]at HW HTB;have HZ:=aa hZ;have ht:=jw (W:=w2) (fun x hx=>G5 v 3 p.props _ rfl OK.o.props h.props.a h.props.c x ((S2.o.below hx).into 0 rfl).props OK.o.len.2.2.2 (S2.o.into 0 rfl).caps.2.2.2);rw[HZ.o]at ht;have k6:=cell_regrown (show w2.cell? ⟨w.heap.size,6,none⟩=some (.string Y) by rw[<-HYY.o];exact S2.o.cell 0 rfl 6);have k24:=cell_regrown (show w2.cell? ⟨w.heap.size,24,none⟩=some (.slice h.props.a p.props.length h.props.c)from S2.o.cell 0 rfl 24);have hs1:¬(9223372036854775807<T.size+Z.size):=by have:=HFS.o;have:=HTB.o;omega
  have hs2:¬(9223372036854775807<T.size+Z.size+Y.size):=by have:=HFS.o;have:=HTB.o;have:=HY.o;omega
  have HBQ:=aa (fun d os=>S2.o.kept.trans ((below_regrown w2 d os).mono S2.o.kept.size));clear hZ
  go_wp2_with fail
  refine wp_region_quiet_below (by kernel_rfl) (by kernel_rfl) ?_
  repeat (go_big_quiet_step (with_reducible exact ht _ _))
  refine kE ?_;intro _ hw';obtain⟨⟨dq,osq⟩,hw''⟩:=hw';subst hw'';have KF:=aa (HBQ.o dq osq);clear ht k6 k24 HBQ;generalize Sort.grow (redrawn _ dq) osq=wq at*;go_wp2;go_ret2;exact⟨by rw[HW.o];rfl,KF.o⟩
 ·have eq:decide ((0:Int)<p.qos)=true:=au (by
   have:=Gy G.o.flags;omega)
  obtain⟨m,hm,hw1⟩:∃m:Nat,Hid (p.id.toNat=m)/\IntKind.u64.wrap p.id=(m:Int):=⟨_,aa rfl,by rw[iZ];have:=G.o.id1 hq;omega⟩;have HM:Hid (m<65536):=aa (by have:=hm.out;have:=G.o.id1 hq;omega);obtain⟨X,hX⟩:∃X:ByteArray,(⟨(da m 2).toArray⟩:ByteArray)=X:=⟨_,rfl⟩;have HXE:=aa hX;have HXS:Hid (X.size=2):=aa (by rw[<-hX,GW,fM]);have HW:=HXH.o (T++X) (by rw[H1.o,if_pos hq,hm.out,hX]);clear hq hX
  go_wp2_with fail
  refine(GV m 2 _ (by have:=HM.o;omega) (by omega) (by omega)).mono ?_;rintro e w3 ⟨rfl,hb⟩;have S3:=aa (S2.o.below hb);clear hb k2 k3
  rw[HXE.o];have hs0:¬(9223372036854775807<T.size+X.size):=by have:=HFS.o;have:=HXS.o;omega
  obtain⟨Z,hZ⟩:∃Z:ByteArray,Hq v 3 p.props=Z:=⟨_,rfl⟩;rw[hZ]at HW HTB;have HZ:=aa hZ;have ht:=jw (W:=w3) (fun x hx=>G5 v 3 p.props _ rfl OK.o.props h.props.a h.props.c x ((S3.o.below hx).into 0 rfl).props OK.o.len.2.2.2 (S3.o.into 0 rfl).caps.2.2.2);rw[HZ.o]at ht;have k6:=cell_regrown (show w3.cell? ⟨w.heap.size,6,none⟩=some (.string Y) by rw[<-HYY.o];exact S3.o.cell 0 rfl 6);have k24:=cell_regrown (show w3.cell? ⟨w.heap.size,24,none⟩=some (.slice h.props.a p.props.length h.props.c)from S3.o.cell 0 rfl 24);have hs1:¬(9223372036854775807<T.size+X.size+Z.size):=by have:=HFS.o;have:=HXS.o;have:=HTB.o;omega
  have hs2:¬(9223372036854775807<T.size+X.size+Z.size+Y.size):=by have:=HFS.o;have:=HXS.o;have:=HTB.o;have:=HY.o;omega
  have HBQ:=aa (fun d os=>S3.o.kept.trans ((below_regrown w3 d os).mono S3.o.kept.size));clear hZ
  go_wp2_with fail
  refine wp_region_quiet_below (by kernel_rfl) (by kernel_rfl) ?_
  repeat (go_big_quiet_step (with_reducible exact ht _ _))
  refine kE ?_;intro _ hw';obtain⟨⟨dq,osq⟩,hw''⟩:=hw';subst hw'';have KF:=aa (HBQ.o dq osq);clear ht k6 k24 HBQ;generalize Sort.grow (redrawn _ dq) osq=wq at*;go_wp2;go_ret2;exact⟨by rw[HW.o];rfl,KF.o⟩
end
section
attribute [local go_sem ↓] bD bF bH bI bu
attribute [local go_sem] bc aD bh bg bK bJ bd aY be aO ax cI dC dB dt dj di dA dr dp dn bW co bO bZ bX cz cy cw cu ct cC cn bS bP bR
structure QR (w:World) (g gc:Nat) (f:Int) (t:ByteArray) (i:Int) (l:List Pr) (y:ByteArray) (A:Option Addr) (n:Nat) (S:ByteArray) (a:Nat) (e:Int) (x:World):Prop where
 kept:Below w.heap.size w x
 res:Bk x w.heap.size PkT (pkC pk0 hs0)
 pk:Bk x g PkT (pkC (eU f t i l y) (hsP A n))
 rd:Rd x x.heap.size 4 A l.length (prs l)
 cap:l.length<=n
 base:w.heap.size<g
 cur:IC x gc S a e
 ne:g≠gc
 cb:w.heap.size<gc
section
variable {w x y:World} {g gc:Nat} {f i:Int} {t u S:ByteArray} {l:List Pr} {A:Option Addr} {n a:Nat} {e:Int}
theorem QR.below(h:QR w g gc f t i l u A n S a e x)(hb:Below x.heap.size x y):QR w g gc f t i l u A n S a e y:=
 ⟨h.kept.trans (hb.mono h.kept.size),h.res.below hb h.res.lt,h.pk.below hb h.pk.lt,(h.rd.below hb).wider hb.size,h.cap,h.base,h.cur.below hb,h.ne,h.cb⟩
theorem QR.set(h:QR w g gc f t i l u A n S a e x)(k:Nat)(v:Value){i':Int}{t' u':ByteArray}(he:(pkC (eU f t i l u) (hsP A n)).setIfInBounds k v=pkC (eU f t' i' l u') (hsP A n)):QR w g gc f t' i' l u' A n S a e (x.setCell ⟨g,k,none⟩ v):=
 ⟨dw h.kept (cP x g k v) h.kept.size (by have:=h.base;omega),h.res.other (by have:=h.base;simp;omega) _,h.pk.upd k v he,(h.rd.other h.pk (dY _ _) (cP x g k v) (ac _)).wider (cP x g k v).size,h.cap,h.base,⟨h.cur.1.other (by have:=h.ne;simp;omega) _,h.cur.2⟩,h.ne,h.cb⟩
theorem QR.put(h:QR w g gc f t i l u A n S a e x){l':List Pr}{A':Option Addr}{n':Nat}(hr:Rd x x.heap.size 4 A' l'.length (prs l'))(hn:l'.length<=n'):QR w g gc f t i l' u A' n' S a e (x.setCell ⟨g,24,none⟩ (.slice A' l'.length n')):=
 ⟨dw h.kept (cP x g 24 _) h.kept.size (by have:=h.base;omega),h.res.other (by have:=h.base;simp;omega) _,h.pk.upd 24 _ rfl,(hr.other h.pk (dY _ _) (cP x g 24 _) (ac _)).wider (cP x g 24 _).size,hn,h.base,⟨h.cur.1.other (by have:=h.ne;simp;omega) _,h.cur.2⟩,h.ne,h.cb⟩
theorem QR.turn(h:QR w g gc f t i l u A n S a e x){a':Nat}{e':Int}(hc:IC y gc S a' e')(hm:x.grownBy y (some gc)):QR w g gc f t i l u A n S a' e' y:=
 ⟨dw h.kept hm h.kept.size (pf h.cb),h.res.mods (S:=fun z=>z=gc) (Mods.of_grown hm rfl) (by have:=h.cb;omega),h.pk.mods (S:=fun z=>z=gc) (Mods.of_grown hm rfl) h.ne,(h.rd.other h.cur.1 (Io _ _ _) hm (ac _)).wider hm.size,h.cap,h.base,hc,h.ne,h.cb⟩
theorem QR.into(h:QR w g gc f t i l u A n S a e x):PkIn x x.heap.size (eU f t i l u) (hsP A n):=⟨Rd.nil _ _ _ _,Rd.nil _ _ _ _,Rd.nil _ _ _ _,h.rd,ag _,ag _,ag _,h.cap⟩
theorem QR.none(h:QR w g gc f t i l u A n S a e x):Below w.heap.size w (dE x w.heap.size pk0 hs0)/\Bk (dE x w.heap.size pk0 hs0) w.heap.size PkT (pkC pk0 hs0):=⟨bT h.kept h.kept.size (ac _) _ _,cO h.res _ _⟩
theorem QR.some(h:QR w g gc f t i l u A n S a e x):Below w.heap.size w (dE x w.heap.size (eU f t i l u) (hsP A n))/\Bk (dE x w.heap.size (eU f t i l u) (hsP A n)) w.heap.size PkT (pkC (eU f t i l u) (hsP A n))/\
  PkIn (dE x w.heap.size (eU f t i l u) (hsP A n)) (dE x w.heap.size (eU f t i l u) (hsP A n)).heap.size (eU f t i l u) (hsP A n):=
 ⟨bT h.kept h.kept.size (ac _) _ _,cO h.res _ _,Rd.nil _ _ _ _,Rd.nil _ _ _ _,Rd.nil _ _ _ _,(h.rd.other h.res (dY _ _) (cJ _ _ _ _) (ac _)).wider (cJ _ _ _ _).size,ag _,ag _,ag _,h.cap⟩
end
end
def Ih(v k:Int):Bool:=decide (k=12\/k=13\/(k=14/\v=4))
theorem PL{v k:Int}(h:jR v k=0):(12<=k/\k<=15)/\(v=4\/v=5)/\¬(k=15/\v=4):=by
 unfold jR at h;split at h
 ·cases h
 ·next h1=>
  split at h
  ·cases h
  ·next h2=>
   refine⟨?_,aU.1 fun x=>h1 (.inr x),h2⟩;exact aR (show decide (12<=k/\k<=15)=true from by
    cases e:decide (12<=k/\k<=15)
    ·exact absurd (.inl e) h1
    ·rfl)
theorem Jk{v k:Int}(h:jR v k=0):Ih v k= !fO v k:=by
 obtain⟨h1,h2,h3⟩:=PL h;unfold Ih fO
 by_cases c:(k=14\/k=15)/\v=5
 ·rw[au c];exact ah (by omega)
 ·rw[ah c];exact au (by omega)
theorem ON(v:Int)(p:Pk):fH v p=if jR v p.kind≠0 then jR v p.kind
  else if p≠conQ v p\/(Ih v p.kind=false/\may p.kind p.code=false)then 2 else GI v p.kind p.props:=by
 unfold fH
 by_cases hk:jR v p.kind≠0
 ·rw[if_pos hk,if_pos hk]
 rw[ae hk,ae hk];have hk0:=aU.1 hk;have hpl:=Jk hk0
 by_cases h1:fO v p.kind=true/\may p.kind p.code=false
 ·rw[if_pos h1,if_pos (.inr ⟨by rw[hpl,h1.1];rfl,h1.2⟩)]
 rw[ae h1]
 by_cases h2:p≠conQ v p
 ·rw[if_pos h2,if_pos (.inl h2)]
 rw[ae h2,ae,Ir]
 ·intro h4;have hm:fO v p.kind=false:=ah (fun x=>by omega);have hq:conQ v p=aP p.kind 0 0 []:=by unfold conQ;rw[ae (by rw[hm];decide)]
  have hp:=aU.1 h2;rw[hq]at hp;have:p.props=[]:=congrArg Pk.props hp;rw[this];rfl
 ·rintro (x| ⟨x,y⟩)
  ·exact h2 x
  ·refine h1 ⟨?_,y⟩;rw[hpl]at x;cases e:fO v p.kind
   ·rw[e]at x;cases x
   ·rfl
theorem MD{v:Int}{p:Pk}(h:fH v p=0)(hp:Ih v p.kind=true):FY v p=([],0):=by
 have g:=Ap h;have hm:fO v p.kind=false:=by
  have:=Jk g.k;rw[hp]at this;cases e:fO v p.kind
  ·rfl
  ·rw[e]at this;cases this
 obtain⟨e1,e2⟩:=g.old hm;unfold FY;rw[if_pos h,g.tail];unfold oG;rw[if_pos ⟨e1,by rw[e2];rfl⟩]
theorem MY(c k:Int)(l:List Pr):(⟨(xV c l k).toArray⟩:ByteArray)=if c<0\/255<c\/(aM k l).2≠0 then⟨#[]⟩else Ia 5 k c l:=by
 unfold xV Ia;split
 ·rfl
 ·rw[if_pos rfl]
section
attribute [local go_sem ↓] bD bF bH bI bu
attribute [local go_sem] bc aD bh bg bK bJ bd aY be aO ax cI dC dB dt dj di dA dr dp dn bW co bO bZ bX cz cy cw cu ct cC cn bS bP bR
theorem G7(v k:Int)(w:World):
  Calls prog 214 #[.int .i64 v,.int .i64 k] w fun e w'=>e= .returned (.bool (Ih v k))/\w=w':=by
 have HE:Hid (Ih v k=decide (k=12\/k=13\/(k=14/\v=4))):=aa rfl;go_enter func214,ntmps214
 by_cases h1:k=12
 ·have e1:(k==12)=true:=aK.2 h1;have HX:Hid (Ih v k=true):=aa (by rw[HE.o];exact au (.inl h1));clear h1;go_wp2;go_ret;exact⟨by rw[HX.o];rfl,rfl⟩
 have e1:(k==12)=false:=ar.2 h1
 by_cases h2:k=13
 ·have e2:(k==13)=true:=aK.2 h2;have HX:Hid (Ih v k=true):=aa (by rw[HE.o];exact au (.inr (.inl h2)));clear h1 h2;go_wp2;go_ret;exact⟨by rw[HX.o];rfl,rfl⟩
 have e2:(k==13)=false:=ar.2 h2
 by_cases h3:k=14
 ·have e3:(k==14)=true:=aK.2 h3
  by_cases h4:v=4
  ·have e4:(v==4)=true:=aK.2 h4;have HX:Hid (Ih v k=true):=aa (by rw[HE.o];exact au (.inr (.inr ⟨h3,h4⟩)));clear h1 h2 h3 h4;go_wp2;go_ret;exact⟨by rw[HX.o];rfl,rfl⟩
  ·have e4:(v==4)=false:=ar.2 h4;have HX:Hid (Ih v k=false):=aa (by rw[HE.o];exact ah (by omega));clear h1 h2 h3 h4;go_wp2;go_ret;exact⟨by rw[HX.o];rfl,rfl⟩
 ·have e3:(k==14)=false:=ar.2 h3;have HX:Hid (Ih v k=false):=aa (by rw[HE.o];exact ah (by omega));clear h1 h2 h3;go_wp2;go_ret;exact⟨by rw[HX.o];rfl,rfl⟩
theorem LF{v k:Int}(h:¬((12<=k/\k<=15)/\(v=4\/v=5))):jR v k=2:=by
 unfold jR;refine if_pos ?_
 by_cases hv:v=4\/v=5
 ·exact .inl (ah (fun x=>h ⟨x,hv⟩))
 ·exact .inr hv
theorem NH{v k:Int}(h:k=15/\v=4):jR v k=8:=by
 obtain⟨rfl,rfl⟩:=h;rfl
theorem L9{v k:Int}(h:(12<=k/\k<=15)/\(v=4\/v=5))(h2:¬(k=15/\v=4)):jR v k=0:=by
 unfold jR;have h1:qH k=true:=au h.1;rw[ae,ae h2];rintro (x| x)
 ·rw[h1]at x;cases x
 ·exact x h.2
theorem IY(v:Int)(p:Pk)(h:Hs)(w:World)(ip:PkIn w w.heap.size p h)(ok:PkOk p):
  Calls prog 185 #[.int .i64 v,pkV p h] w fun e w'=>e= .returned (.int .i64 (fH v p))/\Below w.heap.size w w':=by
 have OK:=aa ok;have IP:=aa ip;have S0:=aa ((St.start w).push ip);have HE:=aa (ON v p);clear ip ok;go_enter func185,ntmps185;have k0:=S0.o.cell 0 rfl 0;rw[cI]at k0
 go_wp2_with fail
 refine(pS v _).mono ?_;rintro e w1 ⟨rfl,rfl⟩;cases hk:ba v
 ·have HX:Hid (fH v p=2):=aa (by have hK:jR v p.kind=2:=LF (fun x=>by have h2:=Gy (show decide (v=4\/v=5)=false from hk);exact h2 x.2);rw[HE.o,hK];rfl);clear hk;go_wp2;go_ret;exact⟨by rw[HX.o];rfl,S0.o.kept⟩
 have hv:=aR (show decide (v=4\/v=5)=true from hk)
 by_cases h4:p.kind<12
 ·have HX:Hid (fH v p=2):=aa (by have hK:jR v p.kind=2:=LF (fun x=>by omega);rw[HE.o,hK];rfl);clear hk hv;go_wp2;go_ret;exact⟨by rw[HX.o];rfl,S0.o.kept⟩
 have d4:decide (p.kind<(12:Int))=false:=ah h4
 by_cases h7:15<p.kind
 ·have HX:Hid (fH v p=2):=aa (by have hK:jR v p.kind=2:=LF (fun x=>by omega);rw[HE.o,hK];rfl);clear hk h4 hv;go_wp2;go_ret;exact⟨by rw[HX.o];rfl,S0.o.kept⟩
 have d7:decide ((15:Int)<p.kind)=false:=ah h7
 by_cases h15:p.kind=15
 ·have e15:(p.kind==15)=true:=aK.2 h15
  by_cases hv4:v=4
  ·have e4:(v==4)=true:=aK.2 hv4;have HX:Hid (fH v p=8):=aa (by have hK:jR v p.kind=8:=NH ⟨h15,hv4⟩;rw[HE.o,hK];rfl);clear hk h4 h7 hv h15 hv4;go_wp2;go_ret;exact⟨by rw[HX.o];rfl,S0.o.kept⟩
  have e4:(v==4)=false:=ar.2 hv4;have HK:Hid (jR v p.kind=0):=aa (L9 ⟨by omega,hv⟩ (fun x=>hv4 x.2));have HPM:=aa (Jk HK.o);have HE1:Hid (fH v p=if p≠conQ v p\/(Ih v p.kind=false/\may p.kind p.code=false)then 2 else GI v p.kind p.props):=aa (by rw[HE.o,ae (fun x=>x HK.o)]);have S2:Hid (St w [(w.heap.size,p,h),((w.heap.size+1),aP p.kind 0 0 [],hs0)] ((w.alloc (.cells (pkC p h) PkT)).alloc (.cells (pkC (aP p.kind 0 0 []) hs0) PkT))):=aa (by
   have:=S0.o.push (PkIn.R1 (w:=w.alloc (.cells (pkC p h) PkT)) (B:=(w.alloc (.cells (pkC p h) PkT)).heap.size) (A:=Option.none) (n:=0) (l:=[]) (Rd.nil _ _ _ _) (ag _) p.kind 0 0);rw[show(w.alloc (.cells (pkC p h) PkT)).heap.size=w.heap.size+1 by simp]at this;exact this)
  have hst0:∀q k,(zc (.pointer (some ⟨w.heap.size+1,0,none⟩)) (pkV q k)).run prog ((w.alloc (.cells (pkC p h) PkT)).alloc (.cells (pkC pk0 hs0) PkT))= .ok () ((w.alloc (.cells (pkC p h) PkT)).alloc (.cells (pkC q k) PkT)):=fun q k=>by
   have:=ax (w.alloc (.cells (pkC p h) PkT)) pk0 q hs0 k;rw[show(w.alloc (.cells (pkC p h) PkT)).heap.size=w.heap.size+1 by simp]at this;exact this
  have k2:((w.alloc (.cells (pkC p h) PkT)).alloc (.cells (pkC (aP p.kind 0 0 []) hs0) PkT)).cell? ⟨w.heap.size,0,none⟩=some (.int .i64 p.kind):=(S2.o.cell 0 rfl 0).trans (cI _ _);clear hk h4 h7 hv h15 hv4 HE
  go_wp2_with fail
  (try rw[yP])
  refine(G7 v p.kind _).mono ?_;rintro e w2 ⟨rfl,rfl⟩;clear k0 k2 hst0;cases hm:Ih v p.kind
  ·have HQ:Hid (conQ v p=aP p.kind 0 p.code p.props):=aa (by unfold conQ;rw[if_pos (by have:=HPM.o;rw[hm]at this;cases e:fO v p.kind;rw[e]at this;cases this;rfl)]);have HE2:Hid (fH v p=if p≠aP p.kind 0 p.code p.props\/may p.kind p.code=false then 2 else GI v p.kind p.props):=aa (by rw[HE1.o,HQ.o,hm];simp);have HPL:=aa hm;have k4:=S2.o.cell 0 rfl 21;rw[cn]at k4;have k5:=S2.o.cell 0 rfl 24;rw[bR]at k5;have j4:((w.alloc (.cells (pkC p h) PkT)).alloc (.cells (pkC (aP p.kind 0 0 []) hs0) PkT)).cell? ⟨(w.heap.size+1),21,none⟩=some (.int .i64 0):=S2.o.cell 1 rfl 21;have j5:((w.alloc (.cells (pkC p h) PkT)).alloc (.cells (pkC (aP p.kind 0 0 []) hs0) PkT)).cell? ⟨(w.heap.size+1),24,none⟩=some (.slice none 0 0):=S2.o.cell 1 rfl 24;have f4:=(S2.o.bk 1 rfl).free 21;have f5:=(S2.o.bk 1 rfl).free 24;have hne:(w.heap.size==(w.heap.size+1))=false:=ar.2 (by simp);clear hm;generalize (w.heap.size+1)=g1 at*;generalize (w.alloc (.cells (pkC p h) PkT)).alloc (.cells (pkC (aP p.kind 0 0 []) hs0) PkT)=W2 at*
   go_wp2_with fail
   go_region
   have S5:=aa ((S2.o.conQ IP.o (by simpa using hne)).drew);have hl0:=S5.o.ld 0 rfl;have hl1:=S5.o.ld 1 rfl;clear k4 k5 j4 j5 f4 f5 hne;generalize ((W2.setCell ⟨g1,21,none⟩ (.int .i64 p.code)).setCell ⟨g1,24,none⟩ (.slice h.props.a p.props.length h.props.c)).drew=w5 at*
   go_wp2_with fail
   refine(GP p (aP p.kind 0 p.code p.props) h (vU h) _ (S5.o.into 0 rfl) (S5.o.into 1 rfl) OK.o.len (Df OK.o.len)).mono ?_;rintro e w6 ⟨rfl,hb⟩;have S6:=aa (S5.o.below hb);clear hb hl0 hl1
   by_cases hs:p=aP p.kind 0 p.code p.props
   rotate_left
   ·rw[ah hs];have HX:Hid (fH v p=2):=aa (by rw[HE2.o,if_pos (.inl hs)]);clear hs;go_wp2;go_ret;exact⟨by rw[HX.o];rfl,S6.o.kept⟩
   rw[au hs];have HSM:=aa hs;have k6:=S6.o.cell 0 rfl 0;rw[cI]at k6;have k7:=S6.o.cell 0 rfl 21;rw[cn]at k7;clear hs
   go_wp2_with fail
   refine(G7 v p.kind _).mono ?_;rintro e w7 ⟨rfl,rfl⟩;rw[HPL.o]
   go_wp2_with fail
   refine(Ht p.kind p.code _).mono ?_;rintro e w8 ⟨rfl,hb⟩;have S8:=aa (S6.o.below hb);clear hb k6 k7
   cases hy:may p.kind p.code
   ·have HX:Hid (fH v p=2):=aa (by rw[HE2.o,if_pos (.inr hy)]);clear hy;go_wp2;go_ret;exact⟨by rw[HX.o];rfl,S8.o.kept⟩
   have HX:Hid (fH v p=GI v p.kind p.props):=aa (by rw[HE2.o,ae (fun x=>x.elim (fun y=>y HSM.o) (fun y=>by rw[hy]at y;cases y))]);clear hy;have k8:=S8.o.cell 0 rfl 0;rw[cI]at k8;have k9:=S8.o.cell 0 rfl 24;rw[bR]at k9
   go_wp2_with fail
   refine(Gx v p.kind p.props _ rfl OK.o.props h.props.a h.props.c _ (S8.o.into 0 rfl).props OK.o.len.2.2.2 (S8.o.into 0 rfl).caps.2.2.2).mono ?_;rintro e w9 ⟨rfl,hb⟩;have S9:=aa (S8.o.below hb);clear hb k8 k9
   go_wp2;go_ret;exact⟨by rw[HX.o];rfl,S9.o.kept⟩
  ·have HQ:Hid (conQ v p=aP p.kind 0 0 []):=aa (by unfold conQ;rw[ae (by have:=HPM.o;rw[hm]at this;cases e:fO v p.kind;decide;rw[e]at this;cases this)]);have HE2:Hid (fH v p=if p≠aP p.kind 0 0 []then 2 else GI v p.kind p.props):=aa (by rw[HE1.o,HQ.o,hm];simp);have HPL:=aa hm;have hl0:=S2.o.ld 0 rfl;have hl1:=S2.o.ld 1 rfl;clear hm;generalize (w.heap.size+1)=g1 at*;generalize (w.alloc (.cells (pkC p h) PkT)).alloc (.cells (pkC (aP p.kind 0 0 []) hs0) PkT)=W2 at*
   go_wp2_with fail
   refine(GP p (aP p.kind 0 0 []) h hs0 _ (S2.o.into 0 rfl) (S2.o.into 1 rfl) OK.o.len ⟨ag _,ag _,ag _,ag _⟩).mono ?_;rintro e w6 ⟨rfl,hb⟩;have S6:=aa (S2.o.below hb);clear hb hl0 hl1
   by_cases hs:p=aP p.kind 0 0 []
   rotate_left
   ·rw[ah hs];have HX:Hid (fH v p=2):=aa (by rw[HE2.o,if_pos hs]);clear hs;go_wp2;go_ret;exact⟨by rw[HX.o];rfl,S6.o.kept⟩
   rw[au hs];have HX:Hid (fH v p=GI v p.kind p.props):=aa (by rw[HE2.o,ae (fun x=>x hs)]);have k6:=S6.o.cell 0 rfl 0;rw[cI]at k6;have k7:=S6.o.cell 0 rfl 24;rw[bR]at k7;clear hs
   go_wp2_with fail
   refine(G7 v p.kind _).mono ?_;rintro e w7 ⟨rfl,rfl⟩;rw[HPL.o]
   go_wp2_with fail
   refine(Gx v p.kind p.props _ rfl OK.o.props h.props.a h.props.c _ (S6.o.into 0 rfl).props OK.o.len.2.2.2 (S6.o.into 0 rfl).caps.2.2.2).mono ?_;rintro e w9 ⟨rfl,hb⟩;have S9:=aa (S6.o.below hb);clear hb k6 k7
   go_wp2;go_ret;exact⟨by rw[HX.o];rfl,S9.o.kept⟩
 have e15:(p.kind==15)=false:=ar.2 h15;have HK:Hid (jR v p.kind=0):=aa (L9 ⟨by omega,hv⟩ (fun x=>h15 x.1));have HPM:=aa (Jk HK.o);have HE1:Hid (fH v p=if p≠conQ v p\/(Ih v p.kind=false/\may p.kind p.code=false)then 2 else GI v p.kind p.props):=aa (by rw[HE.o,ae (fun x=>x HK.o)]);have S2:Hid (St w [(w.heap.size,p,h),((w.heap.size+1),aP p.kind 0 0 [],hs0)] ((w.alloc (.cells (pkC p h) PkT)).alloc (.cells (pkC (aP p.kind 0 0 []) hs0) PkT))):=aa (by
  have:=S0.o.push (PkIn.R1 (w:=w.alloc (.cells (pkC p h) PkT)) (B:=(w.alloc (.cells (pkC p h) PkT)).heap.size) (A:=Option.none) (n:=0) (l:=[]) (Rd.nil _ _ _ _) (ag _) p.kind 0 0);rw[show(w.alloc (.cells (pkC p h) PkT)).heap.size=w.heap.size+1 by simp]at this;exact this)
 have hst0:∀q k,(zc (.pointer (some ⟨w.heap.size+1,0,none⟩)) (pkV q k)).run prog ((w.alloc (.cells (pkC p h) PkT)).alloc (.cells (pkC pk0 hs0) PkT))= .ok () ((w.alloc (.cells (pkC p h) PkT)).alloc (.cells (pkC q k) PkT)):=fun q k=>by
  have:=ax (w.alloc (.cells (pkC p h) PkT)) pk0 q hs0 k;rw[show(w.alloc (.cells (pkC p h) PkT)).heap.size=w.heap.size+1 by simp]at this;exact this
 have k2:((w.alloc (.cells (pkC p h) PkT)).alloc (.cells (pkC (aP p.kind 0 0 []) hs0) PkT)).cell? ⟨w.heap.size,0,none⟩=some (.int .i64 p.kind):=(S2.o.cell 0 rfl 0).trans (cI _ _);clear hk h4 h7 hv h15 HE
 go_wp2_with fail
 (try rw[yP])
 refine(G7 v p.kind _).mono ?_;rintro e w2 ⟨rfl,rfl⟩;clear k0 k2 hst0;cases hm:Ih v p.kind
 ·have HQ:Hid (conQ v p=aP p.kind 0 p.code p.props):=aa (by unfold conQ;rw[if_pos (by have:=HPM.o;rw[hm]at this;cases e:fO v p.kind;rw[e]at this;cases this;rfl)]);have HE2:Hid (fH v p=if p≠aP p.kind 0 p.code p.props\/may p.kind p.code=false then 2 else GI v p.kind p.props):=aa (by rw[HE1.o,HQ.o,hm];simp);have HPL:=aa hm;have k4:=S2.o.cell 0 rfl 21;rw[cn]at k4;have k5:=S2.o.cell 0 rfl 24;rw[bR]at k5;have j4:((w.alloc (.cells (pkC p h) PkT)).alloc (.cells (pkC (aP p.kind 0 0 []) hs0) PkT)).cell? ⟨(w.heap.size+1),21,none⟩=some (.int .i64 0):=S2.o.cell 1 rfl 21;have j5:((w.alloc (.cells (pkC p h) PkT)).alloc (.cells (pkC (aP p.kind 0 0 []) hs0) PkT)).cell? ⟨(w.heap.size+1),24,none⟩=some (.slice none 0 0):=S2.o.cell 1 rfl 24;have f4:=(S2.o.bk 1 rfl).free 21;have f5:=(S2.o.bk 1 rfl).free 24;have hne:(w.heap.size==(w.heap.size+1))=false:=ar.2 (by simp);clear hm;generalize (w.heap.size+1)=g1 at*;generalize (w.alloc (.cells (pkC p h) PkT)).alloc (.cells (pkC (aP p.kind 0 0 []) hs0) PkT)=W2 at*
  go_wp2_with fail
  go_region
  have S5:=aa ((S2.o.conQ IP.o (by simpa using hne)).drew);have hl0:=S5.o.ld 0 rfl;have hl1:=S5.o.ld 1 rfl;clear k4 k5 j4 j5 f4 f5 hne;generalize ((W2.setCell ⟨g1,21,none⟩ (.int .i64 p.code)).setCell ⟨g1,24,none⟩ (.slice h.props.a p.props.length h.props.c)).drew=w5 at*
  go_wp2_with fail
  refine(GP p (aP p.kind 0 p.code p.props) h (vU h) _ (S5.o.into 0 rfl) (S5.o.into 1 rfl) OK.o.len (Df OK.o.len)).mono ?_;rintro e w6 ⟨rfl,hb⟩;have S6:=aa (S5.o.below hb);clear hb hl0 hl1
  by_cases hs:p=aP p.kind 0 p.code p.props
  rotate_left
  ·rw[ah hs];have HX:Hid (fH v p=2):=aa (by rw[HE2.o,if_pos (.inl hs)]);clear hs;go_wp2;go_ret;exact⟨by rw[HX.o];rfl,S6.o.kept⟩
  rw[au hs];have HSM:=aa hs;have k6:=S6.o.cell 0 rfl 0;rw[cI]at k6;have k7:=S6.o.cell 0 rfl 21;rw[cn]at k7;clear hs
  go_wp2_with fail
  refine(G7 v p.kind _).mono ?_;rintro e w7 ⟨rfl,rfl⟩;rw[HPL.o]
  go_wp2_with fail
  refine(Ht p.kind p.code _).mono ?_;rintro e w8 ⟨rfl,hb⟩;have S8:=aa (S6.o.below hb);clear hb k6 k7
  cases hy:may p.kind p.code
  ·have HX:Hid (fH v p=2):=aa (by rw[HE2.o,if_pos (.inr hy)]);clear hy;go_wp2;go_ret;exact⟨by rw[HX.o];rfl,S8.o.kept⟩
  have HX:Hid (fH v p=GI v p.kind p.props):=aa (by rw[HE2.o,ae (fun x=>x.elim (fun y=>y HSM.o) (fun y=>by rw[hy]at y;cases y))]);clear hy;have k8:=S8.o.cell 0 rfl 0;rw[cI]at k8;have k9:=S8.o.cell 0 rfl 24;rw[bR]at k9
  go_wp2_with fail
  refine(Gx v p.kind p.props _ rfl OK.o.props h.props.a h.props.c _ (S8.o.into 0 rfl).props OK.o.len.2.2.2 (S8.o.into 0 rfl).caps.2.2.2).mono ?_;rintro e w9 ⟨rfl,hb⟩;have S9:=aa (S8.o.below hb);clear hb k8 k9
  go_wp2;go_ret;exact⟨by rw[HX.o];rfl,S9.o.kept⟩
 ·have HQ:Hid (conQ v p=aP p.kind 0 0 []):=aa (by unfold conQ;rw[ae (by have:=HPM.o;rw[hm]at this;cases e:fO v p.kind;decide;rw[e]at this;cases this)]);have HE2:Hid (fH v p=if p≠aP p.kind 0 0 []then 2 else GI v p.kind p.props):=aa (by rw[HE1.o,HQ.o,hm];simp);have HPL:=aa hm;have hl0:=S2.o.ld 0 rfl;have hl1:=S2.o.ld 1 rfl;clear hm;generalize (w.heap.size+1)=g1 at*;generalize (w.alloc (.cells (pkC p h) PkT)).alloc (.cells (pkC (aP p.kind 0 0 []) hs0) PkT)=W2 at*
  go_wp2_with fail
  refine(GP p (aP p.kind 0 0 []) h hs0 _ (S2.o.into 0 rfl) (S2.o.into 1 rfl) OK.o.len ⟨ag _,ag _,ag _,ag _⟩).mono ?_;rintro e w6 ⟨rfl,hb⟩;have S6:=aa (S2.o.below hb);clear hb hl0 hl1
  by_cases hs:p=aP p.kind 0 0 []
  rotate_left
  ·rw[ah hs];have HX:Hid (fH v p=2):=aa (by rw[HE2.o,if_pos hs]);clear hs;go_wp2;go_ret;exact⟨by rw[HX.o];rfl,S6.o.kept⟩
  rw[au hs];have HX:Hid (fH v p=GI v p.kind p.props):=aa (by rw[HE2.o,ae (fun x=>x hs)]);have k6:=S6.o.cell 0 rfl 0;rw[cI]at k6;have k7:=S6.o.cell 0 rfl 24;rw[bR]at k7;clear hs
  go_wp2_with fail
  refine(G7 v p.kind _).mono ?_;rintro e w7 ⟨rfl,rfl⟩;rw[HPL.o]
  go_wp2_with fail
  refine(Gx v p.kind p.props _ rfl OK.o.props h.props.a h.props.c _ (S6.o.into 0 rfl).props OK.o.len.2.2.2 (S6.o.into 0 rfl).caps.2.2.2).mono ?_;rintro e w9 ⟨rfl,hb⟩;have S9:=aa (S6.o.below hb);clear hb k6 k7
  go_wp2;go_ret;exact⟨by rw[HX.o];rfl,S9.o.kept⟩
theorem JZ(c k:Int)(l:List Pr)(n:Nat)(hn:l.length=n)(hg:∀p∈l,ea p)(A:Option Addr)(q:Nat)(w:World)(h:Rd w w.heap.size 4 A n (prs l))(hl:n<=4611686018427387904)(hq:n<=q):
  Calls prog 258 #[.int .i64 c,.slice A n q,.int .i64 k] w fun e w'=>e= .returned (.string ⟨(xV c l k).toArray⟩)/\Below w.heap.size w w':=by
 have HX:=aa (MY c k l);have H:=aa h;have HG:=aa hg;have HN:=aa hn;have HL:=aa hl;have HQ:=aa hq
 clear h hg hn hl hq;obtain⟨Z,hZ⟩:∃Z:ByteArray,(⟨(xV c l k).toArray⟩:ByteArray)=Z:=⟨_,rfl⟩;rw[hZ]at HX⊢;clear hZ
 by_cases h1:c<0
 ·have HY:Hid (Z=⟨#[]⟩):=aa (by rw[HX.o,if_pos (.inl h1)]);go_enter func258,ntmps258;go_wp2;go_ret;exact⟨by rw[HY.o];rfl,aq _ _⟩
 have d1:decide (c<(0:Int))=false:=ah h1
 by_cases h2:255<c
 ·have HY:Hid (Z=⟨#[]⟩):=aa (by rw[HX.o,if_pos (.inr (.inl h2))]);clear h1;go_enter func258,ntmps258;go_wp2;go_ret;exact⟨by rw[HY.o];rfl,aq _ _⟩
 have d2:decide ((255:Int)<c)=false:=ah h2;have HC:Hid (0<=c/\c<256):=aa (by omega);go_enter func258,ntmps258
 go_wp2_with fail
 refine(Hv k l n HN.o HG.o A q _ H.o HL.o HQ.o).mono ?_;rintro e w1 ⟨rfl,hb⟩;have HB:=aa hb;clear hb
 by_cases h3:(aM k l).2=0
 rotate_left
 ·have HY:Hid (Z=⟨#[]⟩):=aa (by rw[HX.o,if_pos (.inr (.inr h3))]);have e3:((aM k l).2 !=0)=true:=aA.2 h3;clear h1 h2 h3;go_wp2;go_ret;exact⟨by rw[HY.o];rfl,HB.o⟩
 have HY:Hid (Z=Ia 5 k c l):=aa (by rw[HX.o,ae (fun x=>x.elim (fun y=>by omega) (fun y=>y.elim (fun z=>by omega) (fun z=>z h3)))]);rw[h3];clear h1 h2 h3
 go_wp2_with fail
 refine(JD 5 k c l n HN.o HC.o HG.o A q _ ((H.o.below HB.o).wider HB.o.size) HL.o HQ.o).mono ?_;rintro e w2 ⟨rfl,hb⟩;have HB2:=aa (HB.o.trans (hb.mono HB.o.size));clear hb
 go_wp2;go_ret;exact⟨by rw[HY.o];rfl,HB2.o⟩
theorem Kc(v:Int)(p:Pk)(h:Hs)(w:World)(ip:PkIn w w.heap.size p h)(ok:PkOk p):
  Calls prog 190 #[.int .i64 v,pkV p h] w fun e w'=>e= .returned (.tuple #[.string ⟨(FY v p).1.toArray⟩,.int .i64 (FY v p).2])/\Below w.heap.size w w':=by
 have OK:=aa ok;have S0:=aa ((St.start w).push ip);have HE:Hid (FY v p=if fH v p=0 then(xV p.code p.props p.kind,0)else([],fH v p)):=aa rfl;have HP:=aa (fun h1 h2=>MD (v:=v) (p:=p) h1 h2);clear ip ok;go_enter func190,ntmps190;have hl:=S0.o.ld 0 rfl
 go_wp2_with fail
 refine(IY v p h _ (S0.o.into 0 rfl) OK.o).mono ?_;rintro e w1 ⟨rfl,hb⟩;have S1:=aa (S0.o.below hb);clear hb hl
 have k0:=S1.o.cell 0 rfl 0;rw[cI]at k0
 by_cases he:fH v p=0
 rotate_left
 ·have e0:(fH v p !=0)=true:=aA.2 he;have HX:Hid (FY v p=([],fH v p)):=aa (by rw[HE.o,ae he]);clear he;go_wp2;go_ret2;exact⟨by rw[HX.o];rfl,S1.o.kept⟩
 have HX:Hid (FY v p=(xV p.code p.props p.kind,0)):=aa (by rw[HE.o,if_pos he]);have HEZ:=aa he;rw[he];clear he
 go_wp2_with fail
 refine(G7 v p.kind _).mono ?_;rintro e w2 ⟨rfl,rfl⟩;cases hp:Ih v p.kind;rotate_left
 ·have HY:=aa (HP.o HEZ.o hp);clear hp;go_wp2;go_ret2;exact⟨by rw[HY.o];rfl,S1.o.kept⟩
 clear hp;have k1:=S1.o.cell 0 rfl 21;rw[cn]at k1;have k2:=S1.o.cell 0 rfl 24;rw[bR]at k2
 go_wp2_with fail
 refine(JZ p.code p.kind p.props _ rfl OK.o.props h.props.a h.props.c _ (S1.o.into 0 rfl).props OK.o.len.2.2.2 (S1.o.into 0 rfl).caps.2.2.2).mono ?_;rintro e w2 ⟨rfl,hb⟩;have S2:=aa (S1.o.below hb);clear hb
 go_wp2;go_ret2;exact⟨by rw[HX.o];rfl,S2.o.kept⟩
end
end Go.Proofs.YtbdgkkmbnahgiaaGreatDoor
