/- Parts: MCns, MRfP, RfY, RfZ. -/
import Derived.Test.YtemooicddjimbaaGreatDoorTlG0MCnr
set_option maxRecDepth 10000
set_option maxHeartbeats 8000000
namespace Go.Proofs.YtemooicddjimbaaGreatDoor
open Go.RowKit Go.Proofs.Tryz
section
attribute [local go_sem ↓] bD bF bH bI bu
attribute [local go_sem] bc aD bh bg bK bJ bd aY be aO ax cI dC dB dt dj di dA dr dp dn bW co YK bZ YM cz cy cw cu YL YP YB bS bP bR
structure CQ (w:World) (gc:Nat) (p:Pk) (h:Hs) (t:ByteArray) (a:Nat) (e:Int) (x:World):Prop where
 mods:w.grownBy x (some gc)
 cur:IC x gc t a e
 res:Bk x w.heap.size PkT (pkC pk0 hs0)
 pk:Bk x (w.heap.size+1) PkT (pkC p h)
 into:PkIn x x.heap.size p h
 flat:p.codes=[]/\p.filters=[]
 lt:gc<w.heap.size
section
variable {w x y:World} {gc:Nat} {p p':Pk} {h h':Hs} {t:ByteArray} {a a':Nat} {e e':Int}
theorem CQ.below(c:CQ w gc p h t a e x)(hb:Below x.heap.size x y):CQ w gc p h t a e y:=
 ⟨c.mods.trans (Y7 hb _),c.cur.below hb,Yh c.res hb,Yh c.pk hb,c.into.next hb,c.flat,c.lt⟩
theorem CQ.drewN(c:CQ w gc p h t a e x)(n:Nat):CQ w gc p h t a e (x.drewN n):=c.below (aV (aq _ _) n)
theorem CQ.turn(c:CQ w gc p h t a e x)(hc:IC y gc t a' e')(hm:x.grownBy y (some gc)):CQ w gc p h t a' e' y:=
 ⟨c.mods.trans hm,hc,c.res.mods (S:=fun z=>z=gc) (Mods.of_grown hm rfl) (by have:=c.lt;omega),c.pk.mods (S:=fun z=>z=gc) (Mods.of_grown hm rfl) (by have:=c.lt;omega),
  c.into.blk c.flat.1 c.flat.2 c.cur.1 (Io _ _ _) hm,c.flat,c.lt⟩
theorem CQ.put(c:CQ w gc p h t a e x)(i:Nat)(u:Value)(he:(pkC p h).setIfInBounds i u=pkC p' h')(hf:p'.codes=[]/\p'.filters=[])
  (hi:PkIn (x.setCell ⟨w.heap.size+1,i,none⟩ u) (x.setCell ⟨w.heap.size+1,i,none⟩ u).heap.size p' h'):CQ w gc p' h' t a e (x.setCell ⟨w.heap.size+1,i,none⟩ u):=
 ⟨Ae c.mods (by omega) i u,⟨c.cur.1.other (by have:=c.lt;simp;omega) u,c.cur.2⟩,c.res.other (by simp) u,c.pk.upd i u he,hi,hf,c.lt⟩
theorem CQ.set(c:CQ w gc p h t a e x)(i:Nat)(u:Value)(he:(pkC p h).setIfInBounds i u=pkC p' h)(hl:p'.will.props=p.will.props/\p'.codes=p.codes/\p'.filters=p.filters/\p'.props=p.props):
  CQ w gc p' h t a e (x.setCell ⟨w.heap.size+1,i,none⟩ u):=by
 refine c.put i u he ⟨hl.2.1.trans c.flat.1,hl.2.2.1.trans c.flat.2⟩ ?_;have:=c.into.blk c.flat.1 c.flat.2 c.pk (dY _ _) (YR x (w.heap.size+1) i u);obtain⟨b,d,f,g⟩:=hl;exact⟨by rw[b];exact this.wp,by rw[d];exact this.codes,by rw[f];exact this.filters,by rw[g];exact this.props,by rw[b,d,f,g];exact this.caps⟩
theorem CQ.setP(c:CQ w gc p h t a e x){A:Option Addr}{n:Nat}{l:List Pr}(hr:Rd x x.heap.size 4 A l.length (prs l))(hn:l.length<=n):
  CQ w gc {p with props:=l} {h with props:=⟨A,n⟩} t a e (x.setCell ⟨w.heap.size+1,24,none⟩ (.slice A l.length n)):=by
 refine c.put 24 _ rfl c.flat ?_;have b:=YR x (w.heap.size+1) 24 (.slice A l.length n);have:=c.into.blk c.flat.1 c.flat.2 c.pk (dY _ _) b;exact⟨this.wp,this.codes,this.filters,(hr.other c.pk (dY _ _) b (ac _)).wider b.size,this.caps.1,this.caps.2.1,this.caps.2.2.1,hn⟩
theorem CQ.setW(c:CQ w gc p h t a e x){A:Option Addr}{n:Nat}{l:List Pr}(hr:Rd x x.heap.size 4 A l.length (prs l))(hn:l.length<=n):
  CQ w gc {p with will:={p.will with props:=l}} {h with wp:=⟨A,n⟩} t a e (x.setCell ⟨w.heap.size+1,19,none⟩ (.slice A l.length n)):=by
 refine c.put 19 _ rfl c.flat ?_;have b:=YR x (w.heap.size+1) 19 (.slice A l.length n);have:=c.into.blk c.flat.1 c.flat.2 c.pk (dY _ _) b;exact⟨(hr.other c.pk (dY _ _) b (ac _)).wider b.size,this.codes,this.filters,this.props,hn,this.caps.2⟩
end
def Ql(g:Nat)(t:ByteArray)(r:Pk×Nat×Int)(w:World)(e:Ending)(w':World):Prop:=
 ∃k,e= .returned (pkV r.1 k)/\PkIn w' w'.heap.size r.1 k/\(r.1.codes=[]/\r.1.filters=[])/\IC w' g t r.2.1 r.2.2/\w.grownBy w' (some g)
theorem CQ.fin{w x:World}{gc:Nat}{p:Pk}{h:Hs}{t:ByteArray}{a:Nat}{e:Int}(c:CQ w gc p h t a e x):Ql gc t (p,a,e) w (.returned (pkV p h)) (dE x w.heap.size p h):=by
 have b:=cJ x w.heap.size p h;exact⟨h,rfl,c.into.blk c.flat.1 c.flat.2 c.res (dY _ _) b,c.flat,⟨c.cur.1.mods (S:=fun z=>z=w.heap.size) (Mods.of_grown b rfl) (by have:=c.lt;omega),c.cur.2⟩,
  ⟨b.os.trans c.mods.os,b.tape.trans c.mods.tape,b.output.trans c.mods.output,aC c.mods.size b.size,fun i d f=>(b.block i (by have:=c.mods.size;omega) (fun e=>by cases e;omega)).trans (c.mods.block i d f)⟩⟩
structure RQ (w:World) (gc gp:Nat) (p:Pk) (h:Hs) (t:ByteArray) (a:Nat) (e:Int) (x:World):Prop where
 kept:Below w.heap.size w x
 res:Bk x w.heap.size PkT (pkC pk0 hs0)
 pk:Bk x gp PkT (pkC p h)
 into:PkIn x x.heap.size p h
 flat:p.codes=[]/\p.filters=[]
 cur:IC x gc t a e
 ne:w.heap.size<gc/\gc<gp
section
variable {w x y:World} {gc gp:Nat} {p p':Pk} {h h':Hs} {t:ByteArray} {a a':Nat} {e e':Int}
theorem RQ.below(c:RQ w gc gp p h t a e x)(hb:Below x.heap.size x y):RQ w gc gp p h t a e y:=
 ⟨Yf c.kept hb,Yh c.res hb,Yh c.pk hb,c.into.next hb,c.flat,c.cur.below hb,c.ne⟩
theorem RQ.drewN(c:RQ w gc gp p h t a e x)(n:Nat):RQ w gc gp p h t a e (x.drewN n):=c.below (aV (aq _ _) n)
theorem RQ.turn(c:RQ w gc gp p h t a e x)(hc:IC y gc t a' e')(hm:x.grownBy y (some gc)):RQ w gc gp p h t a' e' y:=
 ⟨dw c.kept hm c.kept.size (pf c.ne.1),c.res.mods (S:=fun z=>z=gc) (Mods.of_grown hm rfl) (by have:=c.ne;omega),c.pk.mods (S:=fun z=>z=gc) (Mods.of_grown hm rfl) (by have:=c.ne;omega),c.into.blk c.flat.1 c.flat.2 c.cur.1 (Io _ _ _) hm,c.flat,hc,c.ne⟩
theorem RQ.put(c:RQ w gc gp p h t a e x)(hi:PkIn x x.heap.size p' h')(hf:p'.codes=[]/\p'.filters=[]):RQ w gc gp p' h' t a e (dE x gp p' h'):=by
 have b:=cJ x gp p' h';exact⟨YQ c.kept c.kept.size (by have:=c.ne;omega) _ _,c.res.mods (S:=fun z=>z=gp) (Mods.of_grown b rfl) (by have:=c.ne;omega),cO c.pk _ _,hi.blk hf.1 hf.2 c.pk (dY _ _) b,hf,⟨c.cur.1.mods (S:=fun z=>z=gp) (Mods.of_grown b rfl) (by have:=c.ne;omega),c.cur.2⟩,c.ne⟩
theorem RQ.bad(c:RQ w gc gp p h t a e x){r:Pk×Int}{n:Int}(hr:r=(pk0,n)):mu r w (.returned (.tuple #[pkV pk0 hs0,.int .i64 n])) (dE x w.heap.size pk0 hs0):=
 YY hr (YQ c.kept c.kept.size (ac _) _ _)
theorem RQ.good(c:RQ w gc gp p h t a e x){r:Pk×Int}(hr:r=(p,0)):mu r w (.returned (.tuple #[pkV p h,.int .i64 0])) (dE x w.heap.size p h):=
 fo hr (c.into.blk c.flat.1 c.flat.2 c.res (dY _ _) (cJ _ _ _ _)) (YQ c.kept c.kept.size (ac _) _ _)
end
section
variable {w x y:World} {gc gp:Nat} {p:Pk} {h:Hs} {t:ByteArray} {a:Nat} {e:Int}
theorem RQ.stay(c:RQ w gc gp p h t a e x)(hm:Mods (fun z=>z=gc) x y):PkIn y y.heap.size p h:=c.into.blk c.flat.1 c.flat.2 c.cur.1 (Io _ _ _) hm.grown
theorem RQ.done{r:Pk×Int}{kk:Hs}(c:RQ w gc gp p h t a e x)(hm:x.grownBy y (some gc))(hst:∀z,y.grownBy z (some w.heap.size)->PkIn z z.heap.size r.1 kk):
  Below w.heap.size w (dE y w.heap.size r.1 kk)/\Bk (dE y w.heap.size r.1 kk) w.heap.size PkT (pkC r.1 kk)/\PkIn (dE y w.heap.size r.1 kk) (dE y w.heap.size r.1 kk).heap.size r.1 kk:=
 ⟨YQ (dw c.kept hm c.kept.size (pf c.ne.1)) (aC c.kept.size hm.size) (ac _) _ _,cO (c.res.mods (S:=fun z=>z=gc) (Mods.of_grown hm rfl) (by have:=c.ne;omega)) _ _,hst _ (cJ _ _ _ _)⟩
end
theorem RQ.setP{w x:World}{gc gp:Nat}{p:Pk}{h:Hs}{t:ByteArray}{a:Nat}{e:Int}(c:RQ w gc gp p h t a e x){A:Option Addr}{n:Nat}{l:List Pr}(hr:Rd x x.heap.size 4 A l.length (prs l))(hn:l.length<=n):
  RQ w gc gp {p with props:=l} {h with props:=⟨A,n⟩} t a e (x.setCell ⟨gp,24,none⟩ (.slice A l.length n)):=by
 have b:=YR x gp 24 (.slice A l.length n);have:=c.into.blk c.flat.1 c.flat.2 c.pk (dY _ _) b;exact⟨dw c.kept b c.kept.size (by have:=c.ne;omega),c.res.other (by have:=c.ne;simp;omega) _,c.pk.upd 24 _ rfl,
  ⟨this.wp,this.codes,this.filters,(hr.other c.pk (dY _ _) b (ac _)).wider b.size,this.caps.1,this.caps.2.1,this.caps.2.2.1,hn⟩,c.flat,⟨c.cur.1.other (by have:=c.ne;simp;omega) _,c.cur.2⟩,c.ne⟩
theorem JF(v:Int)(p:Pk)(h:Hs)(w:World):
  Calls prog 112 #[.int .i64 v,pkV p h] w fun e w'=>e= .returned (.tuple #[.int .i64 (eM v p).1,.int .i64 (eM v p).2])/\Below w.heap.size w w':=by
 have b:=aa ((aq w.heap.size w).alloc (ac _) (.cells (pkC p h) PkT));have y:Hid (eM v p=if YG v=false then(0,2)else if dS v p.kind=false then(0,8)else if p.kind≠3 then(gg p.kind,0)else if tJ p=true then(0,7)else(ke p,0)):=aa rfl;have f:Hid (tJ p=decide (p.qos<0\/2<p.qos\/(p.qos=0/\p.dup=true))):=aa rfl;have u:Hid (ke p=2*p.qos+(if p.retain=true then 1 else 0)+(if p.dup=true then 8 else 0)):=aa rfl;have D:(w.alloc (.cells (pkC p h) PkT)).cell? ⟨w.heap.size,3,none⟩=some (.int .i64 p.qos):=(Bk.fresh w PkT (pkC p h)).cell 3;have E:(w.alloc (.cells (pkC p h) PkT)).cell? ⟨w.heap.size,1,none⟩=some (.bool p.dup):=(Bk.fresh w PkT (pkC p h)).cell 1;have F:(w.alloc (.cells (pkC p h) PkT)).cell? ⟨w.heap.size,2,none⟩=some (.bool p.retain):=(Bk.fresh w PkT (pkC p h)).cell 2;have G:(w.alloc (.cells (pkC p h) PkT)).cell? ⟨w.heap.size,0,none⟩=some (.int .i64 p.kind):=(Bk.fresh w PkT (pkC p h)).cell 0;go_enter func112,ntmps112
 go_wp2_with fail
 refine(pS v _).mono ?_;rintro e C ⟨rfl,rfl⟩;cases c:YG v
 ·have a:Hid (eM v p=(0,2)):=aa (by rw[y.o,if_pos c]);clear c;go_wp2;go_ret2;exact⟨by rw[a.o];rfl,b.o⟩
 have l:Hid (eM v p=if dS v p.kind=false then(0,8)else if p.kind≠3 then(gg p.kind,0)else if tJ p=true then(0,7)else(ke p,0)):=aa (by rw[y.o,Fl (fun x=>by rw[c]at x;cases x)]);clear c y
 go_wp2_with fail
 refine(JO v p.kind _).mono ?_;rintro e C ⟨rfl,rfl⟩;cases c:dS v p.kind
 ·have a:Hid (eM v p=(0,8)):=aa (by rw[l.o,if_pos c]);clear c;go_wp2;go_ret2;exact⟨by rw[a.o];rfl,b.o⟩
 have m:Hid (eM v p=if p.kind≠3 then(gg p.kind,0)else if tJ p=true then(0,7)else(ke p,0)):=aa (by rw[l.o,Fl (fun x=>by rw[c]at x;cases x)]);clear c l;generalize p.kind=kd at*
 by_cases i:kd=3
 rotate_left
 ·have z:(kd==3)=false:=ar.2 i;have j:Hid (eM v p=(gg kd,0)):=aa (by rw[m.o,if_pos i])
  by_cases o:kd=6
  ·subst o;have a:Hid (eM v p=(2,0)):=aa (by rw[j.o];rfl);clear i z;go_wp2;go_ret2;exact⟨by rw[a.o];rfl,b.o⟩
  by_cases t:kd=8
  ·subst t;have a:Hid (eM v p=(2,0)):=aa (by rw[j.o];rfl);clear i z o;go_wp2;go_ret2;exact⟨by rw[a.o];rfl,b.o⟩
  by_cases n:kd=10
  ·subst n;have a:Hid (eM v p=(2,0)):=aa (by rw[j.o];rfl);clear i z o t;go_wp2;go_ret2;exact⟨by rw[a.o];rfl,b.o⟩
  ·have a:Hid (eM v p=(0,0)):=aa (by rw[j.o];unfold gg;rw[Fl (by omega)]);have J:(kd==6)=false:=ar.2 o;have K:(kd==8)=false:=ar.2 t;have H:(kd==10)=false:=ar.2 n;clear i o t n;go_wp2;go_ret2;exact⟨by rw[a.o];rfl,b.o⟩
 subst i;have g:Hid (eM v p=if tJ p=true then(0,7)else(ke p,0)):=aa (by rw[m.o,Fl (fun x=>x rfl)]);clear m;generalize p.qos=q at*;generalize p.dup=d at*;generalize p.retain=r at*
 by_cases k:q<0
 ·have a:Hid (eM v p=(0,7)):=aa (by rw[g.o,if_pos (by rw[f.o];exact au (.inl k))]);have A:decide (q<0)=true:=au k;clear k;go_wp2;go_ret2;exact⟨by rw[a.o];rfl,b.o⟩
 have A:decide (q<0)=false:=ah k
 by_cases s:2<q
 ·have a:Hid (eM v p=(0,7)):=aa (by rw[g.o,if_pos (by rw[f.o];exact au (.inr (.inl s)))]);have I:decide (2<q)=true:=au s;clear k s;go_wp2;go_ret2;exact⟨by rw[a.o];rfl,b.o⟩
 have B:q=0\/q=1\/q=2:=by omega
 clear k s A;obtain rfl| rfl| rfl:=B
 ·cases d
  ·have a:Hid (eM v p=(ke p,0)):=aa (by rw[g.o,Fl (by rw[f.o];decide)]);cases r
   all_goals
    go_wp2;go_ret2;exact⟨by rw[a.o,u.o];rfl,b.o⟩
  ·have a:Hid (eM v p=(0,7)):=aa (by rw[g.o,if_pos (by rw[f.o];decide)]);go_wp2;go_ret2;exact⟨by rw[a.o];rfl,b.o⟩
 all_goals
  have a:Hid (eM v p=(ke p,0)):=aa (by rw[g.o,Fl (by rw[f.o];simp)]);cases d<;>cases r
  all_goals
   go_wp2;go_ret2;exact⟨by rw[a.o,u.o];rfl,b.o⟩
theorem Ik(p:Pk)(h:Hs)(w:World)(ip:PkIn w w.heap.size p h)(ok:PkOk p):
  Calls prog 114 #[pkV p h] w fun e w'=>e= .returned (.tuple #[.int .i64 (xg p.props 35).n,.bool (qR p)])/\Below w.heap.size w w':=by
 have g:=FK p.props 35 ok.props;have k:=aa ok;have d:=aa ((St.start w).push ip);clear ip ok;go_enter func114,ntmps114
 go_wp2_with fail
 refine Yg (Hy 35 p.props h.props.a h.props.c _ (d.o.into 0 rfl).props k.o.len.2.2.2) fun s f=>?_;have l:=aa (d.o.below f);clear f
 have i:Hid (qR p=(nh p.props 35).isSome):=aa rfl;generalize (nh p.props 35).isSome=al at*;obtain⟨q,b⟩:∃q,xg p.props 35=q:=⟨_,rfl⟩;rw[b]at g⊢;have j:=aa b;clear b;obtain⟨o,n,t,u⟩:=q;simp only at g;have r:IntKind.i64.wrap (n:Int)=(n:Int):=by rw[aQ];omega
 simp only[Pr.val];have m:=aa (l.o.alloc (.cells #[.int .i64 o,.int .u32 n,.string t,.string u] 119));go_wp2;go_ret2;exact⟨by rw[i.o,j.o];rfl,m.o.kept⟩
theorem Mg(p:Pk)(A:Option Addr)(c:Nat)(w:World):(qP #[(0,.int .i64 p.kind),(1,.bool p.dup),(2,.bool p.retain),(3,.int .i64 p.qos),(4,.int .i64 p.id),(5,.string p.topic),(6,.string p.payload),(20,.slice A p.props.length c)]).run prog w= .ok (pkV (zA p) {hs0 with props:=⟨A,c⟩}) w:=by kernel_rfl
theorem OY{w:World}{B:Nat}{p:Pk}{h:Hs}(i:PkIn w B p h):PkIn w B (zA p) {hs0 with props:=⟨h.props.a,h.props.c⟩}:=
 ⟨Rd.nil _ _ _ _,Rd.nil _ _ _ _,Rd.nil _ _ _ _,i.props,ag _,ag _,ag _,i.caps.2.2.2⟩
theorem Oe{p:Pk}(h:gz p):gz (zA p):=⟨ag _,ag _,ag _,h.2.2.2⟩
theorem IW(v:Int)(p:Pk)(h:Hs)(w:World)(ip:PkIn w w.heap.size p h)(ok:PkOk p):
  Calls prog 75 #[.int .i64 v,pkV p h] w fun e w'=>e= .returned (.int .i64 (ii v p))/\Below w.heap.size w w':=by
 have y:=aa ok;have S:=aa ((St.start w).push ip);have K:Hid (dK v p 0=if YG v=true/\p.kind=3 then 0 else 2):=aa rfl;have F:Hid (dK v p 1=(eM v p).2):=aa rfl;have t:Hid (dK v p 2=if kL v p=true then 0 else 2):=aa rfl;have l:Hid (dK v p 3=if tc v p=true then 0 else 10):=aa rfl;have R:Hid (dK v p 4=(aM 3 p.props).2):=aa rfl;have Z:Hid (ii v p=if dK v p 0≠0 then dK v p 0 else if dK v p 1≠0 then dK v p 1 else if dK v p 2≠0 then dK v p 2 else if dK v p 3≠0 then dK v p 3 else dK v p 4):=aa rfl;clear ip ok;go_enter func75,ntmps75
 go_wp2_with fail
 refine(pS v _).mono ?_;rintro e w1 ⟨rfl,rfl⟩;have k0:=S.o.cell 0 rfl 0;rw[cI]at k0;cases P:YG v
 ·have d:Hid (ii v p=2):=aa (by
   have b:dK v p 0=2:=by rw[K.o,Fl (fun x=>by rw[P]at x;cases x.1)]
   rw[Z.o,b];rfl)
  clear P;go_wp2;go_ret;exact⟨by rw[d.o];rfl,S.o.kept⟩
 by_cases I:p.kind=3
 rotate_left
 ·have d:Hid (ii v p=2):=aa (by
   have b:dK v p 0=2:=by rw[K.o,Fl (fun x=>I x.2)]
   rw[Z.o,b];rfl)
  have e3:(p.kind !=3)=true:=aA.2 I;clear P I;go_wp2;go_ret;exact⟨by rw[d.o];rfl,S.o.kept⟩
 have e3:(p.kind !=3)=false:=by simpa using I
 have Q:Hid (ii v p=if dK v p 1≠0 then dK v p 1 else if dK v p 2≠0 then dK v p 2 else if dK v p 3≠0 then dK v p 3 else dK v p 4):=aa (by
  have b:dK v p 0=0:=by rw[K.o,if_pos ⟨P,I⟩]
  rw[Z.o,b,Fl (fun x=>x rfl)])
 have J:=aa (And.intro P I);clear P I Z K;have hl:=S.o.ld 0 rfl
 go_wp2_with fail
 refine Yg (JF v p h _) fun w1 j=>?_;have B:=aa (S.o.below j);clear j hl k0 e3
 obtain⟨fl,V⟩:∃fl,eM v p=fl:=⟨_,rfl⟩;rw[V]at F⊢;have ae:=aa V;clear V;obtain⟨f1,f2⟩:=fl;simp only at F⊢
 by_cases hf:f2=0
 rotate_left
 ·have d:Hid (ii v p=f2):=aa (by rw[Q.o,F.o,if_pos hf]);have e2:(f2 !=0)=true:=aA.2 hf;clear hf;go_wp2;go_ret;exact⟨by rw[d.o];rfl,B.o.kept⟩
 subst hf;have s:Hid (ii v p=if dK v p 2≠0 then dK v p 2 else if dK v p 3≠0 then dK v p 3 else dK v p 4):=aa (by rw[Q.o,F.o,Fl (fun x=>x rfl)]);have ay:Hid (0<=p.qos/\p.qos<=2):=aa (by
  have G:=ae.o;unfold eM at G;rw[J.o.1,J.o.2]at G;rw[Fl (by simp)]at G
  by_cases ai:dS v 3=false
  ·rw[if_pos ai]at G;cases G
  rw[Fl ai,Fl (fun x=>x rfl)]at G
  by_cases ag:tJ p=true
  ·rw[if_pos ag]at G;cases G
  ·have aB:tJ p=false:=by simpa using ag
   have:=Gy aB;omega)
 clear Q F ae;have j0:=B.o.cell 0 rfl 0;have j1:=B.o.cell 0 rfl 1;have j2:=B.o.cell 0 rfl 2;have j3:=B.o.cell 0 rfl 3;have j4:=B.o.cell 0 rfl 4;have j5:=B.o.cell 0 rfl 5;have j6:=B.o.cell 0 rfl 6;have aj:=B.o.cell 0 rfl 24;rw[cI]at j0;rw[dC]at j1;rw[dB]at j2;rw[dt]at j3;rw[dj]at j4;rw[di]at j5;rw[dA]at j6;rw[bR]at aj;have aC:=fun W=>Mg p h.props.a h.props.c W;have T:Hid (St w [(w.heap.size,p,h),(w1.heap.size,zA p,{hs0 with props:=⟨h.props.a,h.props.c⟩})] (w1.alloc (.cells (pkC (zA p) {hs0 with props:=⟨h.props.a,h.props.c⟩}) PkT))):=aa (B.o.push (OY (B.o.into 0 rfl)));have aD:=T.o.ld 0 rfl;have aE:=T.o.ld 1 rfl
 go_wp2_with fail
 refine Yg (GP p (zA p) h _ _ (T.o.into 0 rfl) (T.o.into 1 rfl) y.o.len (Oe y.o.len)) fun w3 j=>?_;have r:=aa (T.o.below j);clear j aD aE j0 j1 j2 j3 j4 j5 j6 aj aC
 have k3:=r.o.cell 0 rfl 3;have k4:=r.o.cell 0 rfl 4;have M:=r.o.cell 0 rfl 24;rw[dt]at k3;rw[dj]at k4;rw[bR]at M;have X:=r.o.ld 0 rfl
 by_cases E:p=zA p
 rotate_left
 ·have d:Hid (ii v p=2):=aa (by
   have b:dK v p 2=2:=by rw[t.o,Fl (by unfold kL;simp only[Fx];exact fun x=>E x.1)]
   rw[s.o,b];rfl)
  rw[ah E];clear E;go_wp2;go_ret;exact⟨by rw[d.o];rfl,r.o.kept⟩
 rw[au E];have L:=aa E;clear E
 by_cases m:p.qos=0
 focus
  have q0:(p.qos==0)=true:=aK.2 m;have q1:decide ((0:Int)<p.qos)=false:=ah (by omega)
  by_cases q:p.id=0
  rotate_left
  ·have d:Hid (ii v p=2):=aa (by
    have b:dK v p 2=2:=by rw[t.o,Fl (by unfold kL;simp only[Fx];exact fun x=>q (x.2.2.1 m))]
    rw[s.o,b];rfl)
   have i0:(p.id !=0)=true:=aA.2 q;clear m q;go_wp2;go_ret;exact⟨by rw[d.o];rfl,r.o.kept⟩
  have i0:(p.id !=0)=false:=by simpa using q
  have o:v≠4->Hid (v=5):=fun x=>aa (by have:=aR (show decide (v=4\/v=5)=true from J.o.1);omega)
  by_cases g:v=4
  ·have e4:(v==4)=true:=aK.2 g;have e5:(v==5)=false:=ar.2 (by omega)
   by_cases b:0<p.props.length
   ·have d:Hid (ii v p=2):=aa (by
     have b:dK v p 2=2:=by rw[t.o,Fl (by unfold kL;simp only[Fx];exact fun x=>x.2.1 ⟨g,b⟩)]
     rw[s.o,b];rfl)
    have d0:decide ((0:Int)<(p.props.length:Int))=true:=au (by omega);have d1:decide (0<p.props.length)=true:=au b;clear m q o g b;go_wp2;go_ret;exact⟨by rw[d.o];rfl,r.o.kept⟩
   ·have i:Hid (ii v p=if dK v p 3≠0 then dK v p 3 else dK v p 4):=aa (by
     have b:dK v p 2=0:=by rw[t.o,if_pos (by unfold kL;exact au ⟨L.o,fun x=>b x.2,fun _=>q,fun x=>absurd m x⟩)]
     rw[s.o,b,Fl (fun x=>x rfl)])
    have C:Hid (GI v 3 p.props=(aM 3 p.props).2):=aa (by
     unfold GI;rw[if_pos g,Fl b,show p.props=[]from aF (by omega)];rfl)
    have d0:decide ((0:Int)<(p.props.length:Int))=false:=ah (by omega);have d1:decide (0<p.props.length)=false:=ah b;have H4:=aa g;clear m q o g b
    go_wp2_with fail
    refine Yg (Ik p h _ (r.o.into 0 rfl) y.o) fun w4 j=>?_;have f:=aa (r.o.below j);clear j X k3 k4 M
    have Y:=f.o.cell 0 rfl 5;rw[di]at Y;have H:=f.o.cell 0 rfl 24;rw[bR]at H
    go_wp2_with fail
    refine(Hg p.topic _ (by have:=y.o.texts.1;omega)).mono ?_;rintro e w5 ⟨rfl,rfl⟩;have z:=kR p.topic;have u:Hid (tc v p=(fp p.topic || (decide (v=5)&&(qR p&&p.topic.toList.isEmpty)))):=aa (by rw[z];rfl);clear z;generalize (xg p.props 35).n=al at*;cases k:fp p.topic
    ·rw[k,nB]at u;have af:=aa k;cases N:p.topic.toList.isEmpty
     ·have d:Hid (ii v p=10):=aa (by
       have b:dK v p 3=10:=by rw[l.o,Fl (by rw[u.o,N,ru,ru];simp)]
       rw[i.o,b];rfl)
      clear k;go_wp2;go_ret;exact⟨by rw[d.o];rfl,f.o.kept⟩
     cases A:qR p
     ·have d:Hid (ii v p=10):=aa (by
       have b:dK v p 3=10:=by rw[l.o,Fl (by rw[u.o,A,YH,ru];simp)]
       rw[i.o,b];rfl)
      clear k A;go_wp2;go_ret;exact⟨by rw[d.o];rfl,f.o.kept⟩
     have d:Hid (ii v p=10):=aa (by
      have b:dK v p 3=10:=by rw[l.o,Fl (by rw[u.o,ah (by have:=H4.o;omega),YH];simp)]
      rw[i.o,b];rfl)
     clear k A;go_wp2;go_ret;exact⟨by rw[d.o];rfl,f.o.kept⟩
    ·have D:Hid (ii v p=dK v p 4):=aa (by
      have b:dK v p 3=0:=by rw[l.o,if_pos (by unfold tc;rw[k];rfl)]
      rw[i.o,b,Fl (fun x=>x rfl)])
     clear k
     go_wp2_with fail
     refine Yg (Gx v 3 p.props _ rfl y.o.props h.props.a h.props.c _ (f.o.into 0 rfl).props y.o.len.2.2.2 (f.o.into 0 rfl).caps.2.2.2) fun w6 j=>?_;have U:=aa (f.o.below j);clear j
     rw[C.o];go_wp2;go_ret;exact⟨by rw[D.o,R.o];rfl,U.o.kept⟩
  focus
   have e4:(v==4)=false:=ar.2 g;have e5:(v==5)=true:=aK.2 (o g).out;have H5:Hid (v=5):=o g;have i:Hid (ii v p=if dK v p 3≠0 then dK v p 3 else dK v p 4):=aa (by
    have b:dK v p 2=0:=by rw[t.o,if_pos (by unfold kL;exact au ⟨L.o,fun x=>g x.1,fun _=>q,fun x=>absurd m x⟩)]
    rw[s.o,b,Fl (fun x=>x rfl)])
   have C:Hid (GI v 3 p.props=(aM 3 p.props).2):=aa (Fl g);clear m q o g
  rotate_left
 rotate_left
 focus
  have q0:(p.qos==0)=false:=ar.2 m;have q1:decide ((0:Int)<p.qos)=true:=au (by have:=ay.o;omega)
  by_cases q:p.id<1
  ·have d:Hid (ii v p=2):=aa (by
    have b:dK v p 2=2:=by rw[t.o,Fl (by unfold kL;simp only[Fx];exact fun x=>by have:=(x.2.2.2 m).1;omega)]
    rw[s.o,b];rfl)
   have i1:decide (p.id<(1:Int))=true:=au q;clear m q;go_wp2;go_ret;exact⟨by rw[d.o];rfl,r.o.kept⟩
  have i1:decide (p.id<(1:Int))=false:=ah q
  by_cases O:65535<p.id
  ·have d:Hid (ii v p=2):=aa (by
    have b:dK v p 2=2:=by rw[t.o,Fl (by unfold kL;simp only[Fx];exact fun x=>by have:=(x.2.2.2 m).2;omega)]
    rw[s.o,b];rfl)
   have i2:decide ((65535:Int)<p.id)=true:=au O;clear m q O;go_wp2;go_ret;exact⟨by rw[d.o];rfl,r.o.kept⟩
  have i2:decide ((65535:Int)<p.id)=false:=ah O;have o:v≠4->Hid (v=5):=fun x=>aa (by have:=aR (show decide (v=4\/v=5)=true from J.o.1);omega)
  by_cases g:v=4
  ·have e4:(v==4)=true:=aK.2 g;have e5:(v==5)=false:=ar.2 (by omega)
   by_cases b:0<p.props.length
   ·have d:Hid (ii v p=2):=aa (by
     have b:dK v p 2=2:=by rw[t.o,Fl (by unfold kL;simp only[Fx];exact fun x=>x.2.1 ⟨g,b⟩)]
     rw[s.o,b];rfl)
    have d0:decide ((0:Int)<(p.props.length:Int))=true:=au (by omega);have d1:decide (0<p.props.length)=true:=au b;clear m q O o g b;go_wp2;go_ret;exact⟨by rw[d.o];rfl,r.o.kept⟩
   ·have i:Hid (ii v p=if dK v p 3≠0 then dK v p 3 else dK v p 4):=aa (by
     have b:dK v p 2=0:=by rw[t.o,if_pos (by unfold kL;exact au ⟨L.o,fun x=>b x.2,fun x=>absurd x m,fun _=>⟨by omega,by omega⟩⟩)]
     rw[s.o,b,Fl (fun x=>x rfl)])
    have C:Hid (GI v 3 p.props=(aM 3 p.props).2):=aa (by
     unfold GI;rw[if_pos g,Fl b,show p.props=[]from aF (by omega)];rfl)
    have d0:decide ((0:Int)<(p.props.length:Int))=false:=ah (by omega);have d1:decide (0<p.props.length)=false:=ah b;have H4:=aa g;clear m q O o g b
    go_wp2_with fail
    refine Yg (Ik p h _ (r.o.into 0 rfl) y.o) fun w4 j=>?_;have f:=aa (r.o.below j);clear j X k3 k4 M
    have Y:=f.o.cell 0 rfl 5;rw[di]at Y;have H:=f.o.cell 0 rfl 24;rw[bR]at H
    go_wp2_with fail
    refine(Hg p.topic _ (by have:=y.o.texts.1;omega)).mono ?_;rintro e w5 ⟨rfl,rfl⟩;have z:=kR p.topic;have u:Hid (tc v p=(fp p.topic || (decide (v=5)&&(qR p&&p.topic.toList.isEmpty)))):=aa (by rw[z];rfl);clear z;generalize (xg p.props 35).n=al at*;cases k:fp p.topic
    ·rw[k,nB]at u;have af:=aa k;cases N:p.topic.toList.isEmpty
     ·have d:Hid (ii v p=10):=aa (by
       have b:dK v p 3=10:=by rw[l.o,Fl (by rw[u.o,N,ru,ru];simp)]
       rw[i.o,b];rfl)
      clear k;go_wp2;go_ret;exact⟨by rw[d.o];rfl,f.o.kept⟩
     cases A:qR p
     ·have d:Hid (ii v p=10):=aa (by
       have b:dK v p 3=10:=by rw[l.o,Fl (by rw[u.o,A,YH,ru];simp)]
       rw[i.o,b];rfl)
      clear k A;go_wp2;go_ret;exact⟨by rw[d.o];rfl,f.o.kept⟩
     have d:Hid (ii v p=10):=aa (by
      have b:dK v p 3=10:=by rw[l.o,Fl (by rw[u.o,ah (by have:=H4.o;omega),YH];simp)]
      rw[i.o,b];rfl)
     clear k A;go_wp2;go_ret;exact⟨by rw[d.o];rfl,f.o.kept⟩
    ·have D:Hid (ii v p=dK v p 4):=aa (by
      have b:dK v p 3=0:=by rw[l.o,if_pos (by unfold tc;rw[k];rfl)]
      rw[i.o,b,Fl (fun x=>x rfl)])
     clear k
     go_wp2_with fail
     refine Yg (Gx v 3 p.props _ rfl y.o.props h.props.a h.props.c _ (f.o.into 0 rfl).props y.o.len.2.2.2 (f.o.into 0 rfl).caps.2.2.2) fun w6 j=>?_;have U:=aa (f.o.below j);clear j
     rw[C.o];go_wp2;go_ret;exact⟨by rw[D.o,R.o];rfl,U.o.kept⟩
  focus
   have e4:(v==4)=false:=ar.2 g;have e5:(v==5)=true:=aK.2 (o g).out;have H5:Hid (v=5):=o g;have i:Hid (ii v p=if dK v p 3≠0 then dK v p 3 else dK v p 4):=aa (by
    have b:dK v p 2=0:=by rw[t.o,if_pos (by unfold kL;exact au ⟨L.o,fun x=>g x.1,fun x=>absurd x m,fun _=>⟨by omega,by omega⟩⟩)]
    rw[s.o,b,Fl (fun x=>x rfl)])
   have C:Hid (GI v 3 p.props=(aM 3 p.props).2):=aa (Fl g);clear m q O o g
  rotate_left
 rotate_left
 all_goals
  go_wp2_with fail
  refine Yg (Ik p h _ (r.o.into 0 rfl) y.o) fun w4 j=>?_;have f:=aa (r.o.below j);clear j X k3 k4 M
  have Y:=f.o.cell 0 rfl 5;rw[di]at Y;have H:=f.o.cell 0 rfl 24;rw[bR]at H
  go_wp2_with fail
  refine(Hg p.topic _ (by have:=y.o.texts.1;omega)).mono ?_;rintro e w5 ⟨rfl,rfl⟩;have z:=kR p.topic;have u:Hid (tc v p=(fp p.topic || (decide (v=5)&&(qR p&&p.topic.toList.isEmpty)))):=aa (by rw[z];rfl);clear z;generalize (xg p.props 35).n=al at*;cases k:fp p.topic
  focus
   rw[k,nB]at u;have af:=aa k;cases N:p.topic.toList.isEmpty
   ·have d:Hid (ii v p=10):=aa (by
     have b:dK v p 3=10:=by rw[l.o,Fl (by rw[u.o,N,ru,ru];simp)]
     rw[i.o,b];rfl)
    clear k;go_wp2;go_ret;exact⟨by rw[d.o];rfl,f.o.kept⟩
   cases A:qR p
   ·have d:Hid (ii v p=10):=aa (by
     have b:dK v p 3=10:=by rw[l.o,Fl (by rw[u.o,A,YH,ru];simp)]
     rw[i.o,b];rfl)
    clear k A;go_wp2;go_ret;exact⟨by rw[d.o];rfl,f.o.kept⟩
   have D:Hid (ii v p=dK v p 4):=aa (by
    have b:dK v p 3=0:=by rw[l.o,if_pos (by rw[u.o,N,A,au H5.o];rfl)]
    rw[i.o,b,Fl (fun x=>x rfl)])
   clear k A
  rotate_left
  focus
   have D:Hid (ii v p=dK v p 4):=aa (by
    have b:dK v p 3=0:=by rw[l.o,if_pos (by unfold tc;rw[k];rfl)]
    rw[i.o,b,Fl (fun x=>x rfl)])
   clear k
  rotate_left
  all_goals
   go_wp2_with fail
   refine Yg (Gx v 3 p.props _ rfl y.o.props h.props.a h.props.c _ (f.o.into 0 rfl).props y.o.len.2.2.2 (f.o.into 0 rfl).caps.2.2.2) fun w6 j=>?_;have U:=aa (f.o.below j);clear j
   rw[C.o];go_wp2;go_ret;exact⟨by rw[D.o,R.o];rfl,U.o.kept⟩
theorem PQ(T Y:ByteArray):T++(⟨#[]⟩:ByteArray)++Y=T++Y:=eX (by rw[fe,fe,fe];simp[ls])
theorem Md{v:Int}{l:List Pr}(h:(aM 3 l).2=0):(Hq v 3 l).size<=131075004:=by
 unfold Hq;split
 ·exact ag _
 ·rw[GW];exact(G6 3 l h).2
theorem JV(v:Int)(p:Pk)(h:Hs)(w:World)(ip:PkIn w w.heap.size p h)(ok:PkOk p):
  Calls prog 80 #[.int .i64 v,pkV p h] w fun e w'=>e= .returned (.tuple #[.string (Gf v p).1,.int .i64 (Gf v p).2])/\Below w.heap.size w w':=by
 have j:=aa ok;have M:=aa ((St.start w).push ip);have V:Hid (Gf v p=if ii v p=0 then(ys v p++p.payload,0)else(⟨#[]⟩,ii v p)):=aa rfl;have H2:Hid (ys v p=if v=5 then BH p++⟨(aM p.kind p.props).1.toArray⟩else BH p):=aa rfl;have J:Hid (BH p=if p.qos≠0 then cQ p.topic++⟨(Yk p.id.toNat 2).toArray⟩else cQ p.topic):=aa rfl;clear ip ok;have hl:=M.o.ld 0 rfl;go_enter func80,ntmps80
 go_wp2_with fail
 refine Yg (IW v p h _ (M.o.into 0 rfl) j.o) fun w1 i=>?_;have N:=aa (M.o.below i);clear i hl
 by_cases l:ii v p=0
 rotate_left
 ·have e0:(ii v p !=0)=true:=aA.2 l;have K:Hid (Gf v p=(⟨#[]⟩,ii v p)):=aa (by rw[V.o,Fl l]);clear l;go_wp2;go_ret2;exact⟨by rw[K.o];rfl,N.o.kept⟩
 have K:Hid (Gf v p=(ys v p++p.payload,0)):=aa (by rw[V.o,if_pos l]);have G:=aa (zB l);rw[l];have HT:=aa (gL G.o.topic);have t:∀Q:ByteArray,BH p=Q->Hid (Gf v p=(Q++Hq v 3 p.props++p.payload,0)):=fun Q hQ=>aa (by
  rw[K.o,H2.o];unfold Hq
  by_cases O:v=5
  ·rw[if_pos O,Fl (by omega),hQ,G.o.kind]
  ·have h4:=G.o.k.resolve_right O;rw[Fl O,if_pos h4,hQ,PQ])
 have b:=aa (Md (v:=v) G.o.bytes);have k1:=N.o.cell 0 rfl 5;rw[di]at k1;clear l
 go_wp2_with fail
 refine Yg (JC p.topic _ (by have:=j.o.texts.1;omega)) fun D i=>?_;have f:=aa (N.o.below i);clear i k1
 rw[show IM p.topic=(cQ p.topic,0)from if_pos G.o.topic];simp only;have u:(cQ p.topic).size<=65537:=by rw[eN];have:=HT.o;omega
 obtain⟨T,hT⟩:∃T,cQ p.topic=T:=⟨_,rfl⟩;rw[hT]at u J⊢;have g:=aa u;obtain⟨Y,C⟩:∃Y:ByteArray,p.payload=Y:=⟨_,rfl⟩;have HY:Hid (Y.size<=140737488351232):=aa (by rw[<-C];exact j.o.texts.2.1);rw[C]at t;have H:=aa C;have F:=aa t;clear hT u C t;have k2:=f.o.cell 0 rfl 3;rw[dt]at k2;have S:=f.o.cell 0 rfl 4;rw[dj]at S
 by_cases q:p.qos=0
 focus
  have eq:decide ((0:Int)<p.qos)=false:=ah (by omega);have A:=F.o T (by rw[J.o,Fl (fun y=>y q)]);clear q S;obtain⟨Z,o⟩:∃Z:ByteArray,Hq v 3 p.props=Z:=⟨_,rfl⟩;rw[o]at A b;have L:=aa o;have z:=jw (W:=D) (fun x R=>G5 v 3 p.props _ rfl j.o.props h.props.a h.props.c x ((f.o.below R).into 0 rfl).props j.o.len.2.2.2 (f.o.into 0 rfl).caps.2.2.2);rw[L.o]at z;have k6:=cell_regrown (show D.cell? ⟨w.heap.size,6,none⟩=some (.string Y) by rw[<-H.o];exact f.o.cell 0 rfl 6);have I:=cell_regrown (show D.cell? ⟨w.heap.size,24,none⟩=some (.slice h.props.a p.props.length h.props.c)from f.o.cell 0 rfl 24);have ai:¬(9223372036854775807<T.size+Z.size):=by have:=g.o;have:=b.o;omega
  have aj:¬(9223372036854775807<T.size+Z.size+Y.size):=by have:=g.o;have:=b.o;have:=HY.o;omega
  have r:=aa (fun d U=>f.o.kept.trans ((below_regrown D d U).mono f.o.kept.size))
 rotate_left
 focus
  have eq:decide ((0:Int)<p.qos)=true:=au (by
   have:=Gy G.o.flags;omega)
  obtain⟨m,hm,ay⟩:∃m:Nat,Hid (p.id.toNat=m)/\IntKind.u64.wrap p.id=(m:Int):=⟨_,aa rfl,by rw[iZ];have:=G.o.id1 q;omega⟩;have HM:Hid (m<65536):=aa (by have:=hm.out;have:=G.o.id1 q;omega);obtain⟨X,B⟩:∃X:ByteArray,(⟨(Yk m 2).toArray⟩:ByteArray)=X:=⟨_,rfl⟩;have ab:=aa B;have s:Hid (X.size=2):=aa (by rw[<-B,GW,fM]);have A:=F.o (T++X) (by rw[J.o,if_pos q,hm.out,B]);clear q B
  go_wp2_with fail
  refine Yg (GV m 2 _ (by have:=HM.o;omega) (by omega) (by omega)) fun E i=>?_;have n:=aa (f.o.below i);clear i k2 S
  rw[ab.o];have hs0:¬(9223372036854775807<T.size+X.size):=by have:=g.o;have:=s.o;omega
  obtain⟨Z,o⟩:∃Z:ByteArray,Hq v 3 p.props=Z:=⟨_,rfl⟩;rw[o]at A b;have L:=aa o;have z:=jw (W:=E) (fun x R=>G5 v 3 p.props _ rfl j.o.props h.props.a h.props.c x ((n.o.below R).into 0 rfl).props j.o.len.2.2.2 (n.o.into 0 rfl).caps.2.2.2);rw[L.o]at z;have k6:=cell_regrown (show E.cell? ⟨w.heap.size,6,none⟩=some (.string Y) by rw[<-H.o];exact n.o.cell 0 rfl 6);have I:=cell_regrown (show E.cell? ⟨w.heap.size,24,none⟩=some (.slice h.props.a p.props.length h.props.c)from n.o.cell 0 rfl 24);have ai:¬(9223372036854775807<T.size+X.size+Z.size):=by have:=g.o;have:=s.o;have:=b.o;omega
  have aj:¬(9223372036854775807<T.size+X.size+Z.size+Y.size):=by have:=g.o;have:=s.o;have:=b.o;have:=HY.o;omega
  have r:=aa (fun d U=>n.o.kept.trans ((below_regrown E d U).mono n.o.kept.size))
 rotate_left
 all_goals
  clear o
  go_wp2_with fail
  refine wp_region_quiet_below (by kernel_rfl) (by kernel_rfl) ?_
  repeat (go_big_quiet_step (with_reducible exact z _ _))
  refine kE ?_;intro _ ak;obtain⟨⟨dq,osq⟩,P⟩:=ak;subst P;have KF:=aa (r.o dq osq);clear z k6 I r;generalize Sort.grow (redrawn _ dq) osq=wq at*;go_wp2;go_ret2;exact⟨by rw[A.o];rfl,KF.o⟩
structure QR (w:World) (g gc:Nat) (f:Int) (t:ByteArray) (i:Int) (l:List Pr) (y:ByteArray) (A:Option Addr) (n:Nat) (S:ByteArray) (a:Nat) (e:Int) (x:World):Prop where
 kept:Below w.heap.size w x
 res:Bk x w.heap.size PkT (pkC pk0 hs0)
 pk:Bk x g PkT (pkC (eU f t i l y) (hsP A n))
 rd:Rd x x.heap.size 4 A l.length (prs l)
 cap:l.length<=n
 base:w.heap.size<g
 cur:IC x gc S a e
 ne:g≠gc
 cb:w.heap.size<gc
section
variable {w x y:World} {g gc:Nat} {f i:Int} {t u S:ByteArray} {l:List Pr} {A:Option Addr} {n a:Nat} {e:Int}
theorem QR.below(h:QR w g gc f t i l u A n S a e x)(hb:Below x.heap.size x y):QR w g gc f t i l u A n S a e y:=
 ⟨Yf h.kept hb,Yh h.res hb,Yh h.pk hb,(h.rd.below hb).wider hb.size,h.cap,h.base,h.cur.below hb,h.ne,h.cb⟩
theorem QR.set(h:QR w g gc f t i l u A n S a e x)(k:Nat)(v:Value){i':Int}{t' u':ByteArray}(he:(pkC (eU f t i l u) (hsP A n)).setIfInBounds k v=pkC (eU f t' i' l u') (hsP A n)):QR w g gc f t' i' l u' A n S a e (x.setCell ⟨g,k,none⟩ v):=
 ⟨dw h.kept (YR x g k v) h.kept.size (by have:=h.base;omega),h.res.other (by have:=h.base;simp;omega) _,h.pk.upd k v he,(h.rd.other h.pk (dY _ _) (YR x g k v) (ac _)).wider (YR x g k v).size,h.cap,h.base,⟨h.cur.1.other (by have:=h.ne;simp;omega) _,h.cur.2⟩,h.ne,h.cb⟩
theorem QR.put(h:QR w g gc f t i l u A n S a e x){l':List Pr}{A':Option Addr}{n':Nat}(hr:Rd x x.heap.size 4 A' l'.length (prs l'))(hn:l'.length<=n'):QR w g gc f t i l' u A' n' S a e (x.setCell ⟨g,24,none⟩ (.slice A' l'.length n')):=
 ⟨dw h.kept (YR x g 24 _) h.kept.size (by have:=h.base;omega),h.res.other (by have:=h.base;simp;omega) _,h.pk.upd 24 _ rfl,(hr.other h.pk (dY _ _) (YR x g 24 _) (ac _)).wider (YR x g 24 _).size,hn,h.base,⟨h.cur.1.other (by have:=h.ne;simp;omega) _,h.cur.2⟩,h.ne,h.cb⟩
theorem QR.turn(h:QR w g gc f t i l u A n S a e x){a':Nat}{e':Int}(hc:IC y gc S a' e')(hm:x.grownBy y (some gc)):QR w g gc f t i l u A n S a' e' y:=
 ⟨dw h.kept hm h.kept.size (pf h.cb),h.res.mods (S:=fun z=>z=gc) (Mods.of_grown hm rfl) (by have:=h.cb;omega),h.pk.mods (S:=fun z=>z=gc) (Mods.of_grown hm rfl) h.ne,(h.rd.other h.cur.1 (Io _ _ _) hm (ac _)).wider hm.size,h.cap,h.base,hc,h.ne,h.cb⟩
theorem QR.into(h:QR w g gc f t i l u A n S a e x):PkIn x x.heap.size (eU f t i l u) (hsP A n):=⟨Rd.nil _ _ _ _,Rd.nil _ _ _ _,Rd.nil _ _ _ _,h.rd,ag _,ag _,ag _,h.cap⟩
theorem QR.none(h:QR w g gc f t i l u A n S a e x):Below w.heap.size w (dE x w.heap.size pk0 hs0)/\Bk (dE x w.heap.size pk0 hs0) w.heap.size PkT (pkC pk0 hs0):=⟨YQ h.kept h.kept.size (ac _) _ _,cO h.res _ _⟩
theorem QR.some(h:QR w g gc f t i l u A n S a e x):Below w.heap.size w (dE x w.heap.size (eU f t i l u) (hsP A n))/\Bk (dE x w.heap.size (eU f t i l u) (hsP A n)) w.heap.size PkT (pkC (eU f t i l u) (hsP A n))/\
  PkIn (dE x w.heap.size (eU f t i l u) (hsP A n)) (dE x w.heap.size (eU f t i l u) (hsP A n)).heap.size (eU f t i l u) (hsP A n):=
 ⟨YQ h.kept h.kept.size (ac _) _ _,cO h.res _ _,Rd.nil _ _ _ _,Rd.nil _ _ _ _,Rd.nil _ _ _ _,(h.rd.other h.res (dY _ _) (cJ _ _ _ _) (ac _)).wider (cJ _ _ _ _).size,ag _,ag _,ag _,h.cap⟩
end
def Ih(v k:Int):Bool:=decide (k=12\/k=13\/(k=14/\v=4))
theorem PL{v k:Int}(h:jR v k=0):(12<=k/\k<=15)/\(v=4\/v=5)/\¬(k=15/\v=4):=by
 unfold jR at h;split at h
 ·cases h
 ·next h1=>
  split at h
  ·cases h
  ·next h2=>
   refine⟨?_,aU.1 fun x=>h1 (.inr x),h2⟩;exact aR (show decide (12<=k/\k<=15)=true from by
    cases e:decide (12<=k/\k<=15)
    ·exact absurd (.inl e) h1
    ·rfl)
theorem Jk{v k:Int}(h:jR v k=0):Ih v k= !fO v k:=by
 obtain⟨a,b,d⟩:=PL h;unfold Ih fO
 by_cases c:(k=14\/k=15)/\v=5
 ·rw[au c];exact ah (by omega)
 ·rw[ah c];exact au (by omega)
theorem ON(v:Int)(p:Pk):fH v p=if jR v p.kind≠0 then jR v p.kind
  else if p≠conQ v p\/(Ih v p.kind=false/\may p.kind p.code=false)then 2 else GI v p.kind p.props:=by
 unfold fH
 by_cases c:jR v p.kind≠0
 ·rw[if_pos c,if_pos c]
 rw[Fl c,Fl c];have f:=aU.1 c;have d:=Jk f
 by_cases a:fO v p.kind=true/\may p.kind p.code=false
 ·rw[if_pos a,if_pos (.inr ⟨by rw[d,a.1];rfl,a.2⟩)]
 rw[Fl a]
 by_cases b:p≠conQ v p
 ·rw[if_pos b,if_pos (.inl b)]
 rw[Fl b,Fl,Ir]
 ·intro j;have h:fO v p.kind=false:=ah (fun x=>by omega);have i:conQ v p=aP p.kind 0 0 []:=by unfold conQ;rw[Fl (by rw[h];decide)]
  have g:=aU.1 b;rw[i]at g;have:p.props=[]:=congrArg Pk.props g;rw[this];rfl
 ·rintro (x| ⟨x,y⟩)
  ·exact b x
  ·refine a ⟨?_,y⟩;rw[d]at x;cases e:fO v p.kind
   ·rw[e]at x;cases x
   ·rfl
theorem MD{v:Int}{p:Pk}(h:fH v p=0)(hp:Ih v p.kind=true):Yq v p=([],0):=by
 have g:=Ap h;have c:fO v p.kind=false:=by
  have:=Jk g.k;rw[hp]at this;cases e:fO v p.kind
  ·rfl
  ·rw[e]at this;cases this
 obtain⟨a,b⟩:=g.old c;unfold Yq;rw[if_pos h,g.tail];unfold oG;rw[if_pos ⟨a,by rw[b];rfl⟩]
theorem MY(c k:Int)(l:List Pr):(⟨(xV c l k).toArray⟩:ByteArray)=if c<0\/255<c\/(aM k l).2≠0 then⟨#[]⟩else Ia 5 k c l:=by
 unfold xV Ia;split
 ·rfl
 ·rw[if_pos rfl]
theorem G7(v k:Int)(w:World):
  Calls prog 121 #[.int .i64 v,.int .i64 k] w fun e w'=>e= .returned (.bool (Ih v k))/\w=w':=by
 have f:Hid (Ih v k=decide (k=12\/k=13\/(k=14/\v=4))):=aa rfl;go_enter func121,ntmps121
 by_cases b:k=12
 ·have h:(k==12)=true:=aK.2 b;have a:Hid (Ih v k=true):=aa (by rw[f.o];exact au (.inl b));clear b;go_wp2;go_ret;exact⟨by rw[a.o];rfl,rfl⟩
 have h:(k==12)=false:=ar.2 b
 by_cases c:k=13
 ·have i:(k==13)=true:=aK.2 c;have a:Hid (Ih v k=true):=aa (by rw[f.o];exact au (.inr (.inl c)));clear b c;go_wp2;go_ret;exact⟨by rw[a.o];rfl,rfl⟩
 have i:(k==13)=false:=ar.2 c
 by_cases d:k=14
 ·have j:(k==14)=true:=aK.2 d
  by_cases g:v=4
  ·have l:(v==4)=true:=aK.2 g;have a:Hid (Ih v k=true):=aa (by rw[f.o];exact au (.inr (.inr ⟨d,g⟩)));clear b c d g;go_wp2;go_ret;exact⟨by rw[a.o];rfl,rfl⟩
  ·have l:(v==4)=false:=ar.2 g;have a:Hid (Ih v k=false):=aa (by rw[f.o];exact ah (by omega));clear b c d g;go_wp2;go_ret;exact⟨by rw[a.o];rfl,rfl⟩
 ·have j:(k==14)=false:=ar.2 d;have a:Hid (Ih v k=false):=aa (by rw[f.o];exact ah (by omega));clear b c d;go_wp2;go_ret;exact⟨by rw[a.o];rfl,rfl⟩
theorem LF{v k:Int}(h:¬((12<=k/\k<=15)/\(v=4\/v=5))):jR v k=2:=by
 unfold jR;refine if_pos ?_
 by_cases a:v=4\/v=5
 ·exact .inl (ah (fun x=>h ⟨x,a⟩))
 ·exact .inr a
theorem NH{v k:Int}(h:k=15/\v=4):jR v k=8:=by
 obtain⟨rfl,rfl⟩:=h;rfl
theorem aao{v k:Int}(h:(12<=k/\k<=15)/\(v=4\/v=5))(h2:¬(k=15/\v=4)):jR v k=0:=by
 unfold jR;have a:qH k=true:=au h.1;rw[Fl,Fl h2];rintro (x| x)
 ·rw[a]at x;cases x
 ·exact x h.2
theorem IY(v:Int)(p:Pk)(h:Hs)(w:World)(ip:PkIn w w.heap.size p h)(ok:PkOk p):
  Calls prog 78 #[.int .i64 v,pkV p h] w fun e w'=>e= .returned (.int .i64 (fH v p))/\Below w.heap.size w w':=by
 have u:=aa ok;have IP:=aa ip;have z:=aa ((St.start w).push ip);have r:=aa (ON v p);clear ip ok;go_enter func78,ntmps78;have X:=z.o.cell 0 rfl 0;rw[cI]at X
 go_wp2_with fail
 refine(pS v _).mono ?_;rintro e w1 ⟨rfl,rfl⟩;cases s:YG v
 ·have b:Hid (fH v p=2):=aa (by have C:jR v p.kind=2:=LF (fun x=>by have h2:=Gy (show decide (v=4\/v=5)=false from s);exact h2 x.2);rw[r.o,C];rfl);clear s;go_wp2;go_ret;exact⟨by rw[b.o];rfl,z.o.kept⟩
 have D:=aR (show decide (v=4\/v=5)=true from s)
 by_cases K:p.kind<12
 ·have b:Hid (fH v p=2):=aa (by have C:jR v p.kind=2:=LF (fun x=>by omega);rw[r.o,C];rfl);clear s D;go_wp2;go_ret;exact⟨by rw[b.o];rfl,z.o.kept⟩
 have d4:decide (p.kind<(12:Int))=false:=ah K
 by_cases Q:15<p.kind
 ·have b:Hid (fH v p=2):=aa (by have C:jR v p.kind=2:=LF (fun x=>by omega);rw[r.o,C];rfl);clear s K D;go_wp2;go_ret;exact⟨by rw[b.o];rfl,z.o.kept⟩
 have d7:decide ((15:Int)<p.kind)=false:=ah Q
 by_cases j:p.kind=15
 focus
  have W:(p.kind==15)=true:=aK.2 j
  by_cases o:v=4
  ·have e4:(v==4)=true:=aK.2 o;have b:Hid (fH v p=8):=aa (by have C:jR v p.kind=8:=NH ⟨j,o⟩;rw[r.o,C];rfl);clear s K Q D j o;go_wp2;go_ret;exact⟨by rw[b.o];rfl,z.o.kept⟩
  have e4:(v==4)=false:=ar.2 o;have G:Hid (jR v p.kind=0):=aa (aao ⟨by omega,D⟩ (fun x=>o x.2));have I:=aa (Jk G.o);have F:Hid (fH v p=if p≠conQ v p\/(Ih v p.kind=false/\may p.kind p.code=false)then 2 else GI v p.kind p.props):=aa (by rw[r.o,Fl (fun x=>x G.o)]);have d:Hid (St w [(w.heap.size,p,h),((w.heap.size+1),aP p.kind 0 0 [],hs0)] ((w.alloc (.cells (pkC p h) PkT)).alloc (.cells (pkC (aP p.kind 0 0 []) hs0) PkT))):=aa (by
   have:=z.o.push (PkIn.R1 (w:=w.alloc (.cells (pkC p h) PkT)) (B:=(w.alloc (.cells (pkC p h) PkT)).heap.size) (A:=Option.none) (n:=0) (l:=[]) (Rd.nil _ _ _ _) (ag _) p.kind 0 0);rw[show(w.alloc (.cells (pkC p h) PkT)).heap.size=w.heap.size+1 by simp]at this;exact this)
  have N:∀q k,(zc (.pointer (some ⟨w.heap.size+1,0,none⟩)) (pkV q k)).run prog ((w.alloc (.cells (pkC p h) PkT)).alloc (.cells (pkC pk0 hs0) PkT))= .ok () ((w.alloc (.cells (pkC p h) PkT)).alloc (.cells (pkC q k) PkT)):=fun q k=>by
   have:=ax (w.alloc (.cells (pkC p h) PkT)) pk0 q hs0 k;rw[show(w.alloc (.cells (pkC p h) PkT)).heap.size=w.heap.size+1 by simp]at this;exact this
  have Y:((w.alloc (.cells (pkC p h) PkT)).alloc (.cells (pkC (aP p.kind 0 0 []) hs0) PkT)).cell? ⟨w.heap.size,0,none⟩=some (.int .i64 p.kind):=(d.o.cell 0 rfl 0).trans (cI _ _);clear s K Q D j o r
 rotate_left;have W:(p.kind==15)=false:=ar.2 j;have G:Hid (jR v p.kind=0):=aa (aao ⟨by omega,D⟩ (fun x=>j x.1));have I:=aa (Jk G.o);have F:Hid (fH v p=if p≠conQ v p\/(Ih v p.kind=false/\may p.kind p.code=false)then 2 else GI v p.kind p.props):=aa (by rw[r.o,Fl (fun x=>x G.o)]);have d:Hid (St w [(w.heap.size,p,h),((w.heap.size+1),aP p.kind 0 0 [],hs0)] ((w.alloc (.cells (pkC p h) PkT)).alloc (.cells (pkC (aP p.kind 0 0 []) hs0) PkT))):=aa (by
  have:=z.o.push (PkIn.R1 (w:=w.alloc (.cells (pkC p h) PkT)) (B:=(w.alloc (.cells (pkC p h) PkT)).heap.size) (A:=Option.none) (n:=0) (l:=[]) (Rd.nil _ _ _ _) (ag _) p.kind 0 0);rw[show(w.alloc (.cells (pkC p h) PkT)).heap.size=w.heap.size+1 by simp]at this;exact this)
 have N:∀q k,(zc (.pointer (some ⟨w.heap.size+1,0,none⟩)) (pkV q k)).run prog ((w.alloc (.cells (pkC p h) PkT)).alloc (.cells (pkC pk0 hs0) PkT))= .ok () ((w.alloc (.cells (pkC p h) PkT)).alloc (.cells (pkC q k) PkT)):=fun q k=>by
  have:=ax (w.alloc (.cells (pkC p h) PkT)) pk0 q hs0 k;rw[show(w.alloc (.cells (pkC p h) PkT)).heap.size=w.heap.size+1 by simp]at this;exact this
 have Y:((w.alloc (.cells (pkC p h) PkT)).alloc (.cells (pkC (aP p.kind 0 0 []) hs0) PkT)).cell? ⟨w.heap.size,0,none⟩=some (.int .i64 p.kind):=(d.o.cell 0 rfl 0).trans (cI _ _);clear s K Q D j r
 all_goals
  go_wp2_with fail
  (try rw[yP])
  refine(G7 v p.kind _).mono ?_;rintro e w2 ⟨rfl,rfl⟩;clear X Y N;cases t:Ih v p.kind
  ·have T:Hid (conQ v p=aP p.kind 0 p.code p.props):=aa (by unfold conQ;rw[if_pos (by have:=I.o;rw[t]at this;cases e:fO v p.kind;rw[e]at this;cases this;rfl)]);have m:Hid (fH v p=if p≠aP p.kind 0 p.code p.props\/may p.kind p.code=false then 2 else GI v p.kind p.props):=aa (by rw[F.o,T.o,t];simp);have H:=aa t;have Z:=d.o.cell 0 rfl 21;rw[YB]at Z;have k5:=d.o.cell 0 rfl 24;rw[bR]at k5;have j4:((w.alloc (.cells (pkC p h) PkT)).alloc (.cells (pkC (aP p.kind 0 0 []) hs0) PkT)).cell? ⟨(w.heap.size+1),21,none⟩=some (.int .i64 0):=d.o.cell 1 rfl 21;have j5:((w.alloc (.cells (pkC p h) PkT)).alloc (.cells (pkC (aP p.kind 0 0 []) hs0) PkT)).cell? ⟨(w.heap.size+1),24,none⟩=some (.slice none 0 0):=d.o.cell 1 rfl 24;have f4:=(d.o.bk 1 rfl).free 21;have f5:=(d.o.bk 1 rfl).free 24;have S:(w.heap.size==(w.heap.size+1))=false:=ar.2 (by simp);clear t;generalize (w.heap.size+1)=g1 at*;generalize (w.alloc (.cells (pkC p h) PkT)).alloc (.cells (pkC (aP p.kind 0 0 []) hs0) PkT)=W2 at*
   go_wp2_with fail
   go_region
   have J:=aa ((d.o.conQ IP.o (by simpa using S)).drew);have L:=J.o.ld 0 rfl;have M:=J.o.ld 1 rfl;clear Z k5 j4 j5 f4 f5 S;generalize ((W2.setCell ⟨g1,21,none⟩ (.int .i64 p.code)).setCell ⟨g1,24,none⟩ (.slice h.props.a p.props.length h.props.c)).drew=w5 at*
   go_wp2_with fail
   refine Yg (GP p (aP p.kind 0 p.code p.props) h (vU h) _ (J.o.into 0 rfl) (J.o.into 1 rfl) u.o.len (Df u.o.len)) fun w6 f=>?_;have i:=aa (J.o.below f);clear f L M
   by_cases g:p=aP p.kind 0 p.code p.props
   rotate_left
   ·rw[ah g];have b:Hid (fH v p=2):=aa (by rw[m.o,if_pos (.inl g)]);clear g;go_wp2;go_ret;exact⟨by rw[b.o];rfl,i.o.kept⟩
   rw[au g];have V:=aa g;have O:=i.o.cell 0 rfl 0;rw[cI]at O;have P:=i.o.cell 0 rfl 21;rw[YB]at P;clear g
   go_wp2_with fail
   refine(G7 v p.kind _).mono ?_;rintro e w7 ⟨rfl,rfl⟩;rw[H.o]
   go_wp2_with fail
   refine Yg (Ht p.kind p.code _) fun w8 f=>?_;have E:=aa (i.o.below f);clear f O P
   cases R:may p.kind p.code
   ·have b:Hid (fH v p=2):=aa (by rw[m.o,if_pos (.inr R)]);clear R;go_wp2;go_ret;exact⟨by rw[b.o];rfl,E.o.kept⟩
   have b:Hid (fH v p=GI v p.kind p.props):=aa (by rw[m.o,Fl (fun x=>x.elim (fun y=>y V.o) (fun y=>by rw[R]at y;cases y))]);clear R;have k8:=E.o.cell 0 rfl 0;rw[cI]at k8;have k9:=E.o.cell 0 rfl 24;rw[bR]at k9
   go_wp2_with fail
   refine Yg (Gx v p.kind p.props _ rfl u.o.props h.props.a h.props.c _ (E.o.into 0 rfl).props u.o.len.2.2.2 (E.o.into 0 rfl).caps.2.2.2) fun w9 f=>?_;have U:=aa (E.o.below f);clear f k8 k9
   go_wp2;go_ret;exact⟨by rw[b.o];rfl,U.o.kept⟩
  ·have T:Hid (conQ v p=aP p.kind 0 0 []):=aa (by unfold conQ;rw[Fl (by have:=I.o;rw[t]at this;cases e:fO v p.kind;decide;rw[e]at this;cases this)]);have m:Hid (fH v p=if p≠aP p.kind 0 0 []then 2 else GI v p.kind p.props):=aa (by rw[F.o,T.o,t];simp);have H:=aa t;have L:=d.o.ld 0 rfl;have M:=d.o.ld 1 rfl;clear t;generalize (w.heap.size+1)=g1 at*;generalize (w.alloc (.cells (pkC p h) PkT)).alloc (.cells (pkC (aP p.kind 0 0 []) hs0) PkT)=W2 at*
   go_wp2_with fail
   refine Yg (GP p (aP p.kind 0 0 []) h hs0 _ (d.o.into 0 rfl) (d.o.into 1 rfl) u.o.len ⟨ag _,ag _,ag _,ag _⟩) fun w6 f=>?_;have i:=aa (d.o.below f);clear f L M
   by_cases g:p=aP p.kind 0 0 []
   rotate_left
   ·rw[ah g];have b:Hid (fH v p=2):=aa (by rw[m.o,if_pos g]);clear g;go_wp2;go_ret;exact⟨by rw[b.o];rfl,i.o.kept⟩
   rw[au g];have b:Hid (fH v p=GI v p.kind p.props):=aa (by rw[m.o,Fl (fun x=>x g)]);have O:=i.o.cell 0 rfl 0;rw[cI]at O;have P:=i.o.cell 0 rfl 24;rw[bR]at P;clear g
   go_wp2_with fail
   refine(G7 v p.kind _).mono ?_;rintro e w7 ⟨rfl,rfl⟩;rw[H.o]
   go_wp2_with fail
   refine Yg (Gx v p.kind p.props _ rfl u.o.props h.props.a h.props.c _ (i.o.into 0 rfl).props u.o.len.2.2.2 (i.o.into 0 rfl).caps.2.2.2) fun w9 f=>?_;have U:=aa (i.o.below f);clear f O P
   go_wp2;go_ret;exact⟨by rw[b.o];rfl,U.o.kept⟩
theorem JZ(c k:Int)(l:List Pr)(n:Nat)(hn:l.length=n)(hg:∀p∈l,ea p)(A:Option Addr)(q:Nat)(w:World)(h:Rd w w.heap.size 4 A n (prs l))(hl:n<=4611686018427387904)(hq:n<=q):
  Calls prog 131 #[.int .i64 c,.slice A n q,.int .i64 k] w fun e w'=>e= .returned (.string ⟨(xV c l k).toArray⟩)/\Below w.heap.size w w':=by
 have f:=aa (MY c k l);have H:=aa h;have o:=aa hg;have s:=aa hn;have r:=aa hl;have t:=aa hq
 clear h hg hn hl hq;obtain⟨Z,u⟩:∃Z:ByteArray,(⟨(xV c l k).toArray⟩:ByteArray)=Z:=⟨_,rfl⟩;rw[u]at f⊢;clear u
 by_cases g:c<0
 ·have a:Hid (Z=⟨#[]⟩):=aa (by rw[f.o,if_pos (.inl g)]);go_enter func131,ntmps131;go_wp2;go_ret;exact⟨by rw[a.o];rfl,aq _ _⟩
 have B:decide (c<(0:Int))=false:=ah g
 by_cases j:255<c
 ·have a:Hid (Z=⟨#[]⟩):=aa (by rw[f.o,if_pos (.inr (.inl j))]);clear g;go_enter func131,ntmps131;go_wp2;go_ret;exact⟨by rw[a.o];rfl,aq _ _⟩
 have C:decide ((255:Int)<c)=false:=ah j;have v:Hid (0<=c/\c<256):=aa (by omega);go_enter func131,ntmps131
 go_wp2_with fail
 refine Yg (Hv k l n s.o o.o A q _ H.o r.o t.o) fun E i=>?_;have d:=aa i;clear i
 by_cases b:(aM k l).2=0
 rotate_left
 ·have a:Hid (Z=⟨#[]⟩):=aa (by rw[f.o,if_pos (.inr (.inr b))]);have D:((aM k l).2 !=0)=true:=aA.2 b;clear g j b;go_wp2;go_ret;exact⟨by rw[a.o];rfl,d.o⟩
 have a:Hid (Z=Ia 5 k c l):=aa (by rw[f.o,Fl (fun x=>x.elim (fun y=>by omega) (fun y=>y.elim (fun z=>by omega) (fun z=>z b)))]);rw[b];clear g j b
 go_wp2_with fail
 refine Yg (JD 5 k c l n s.o v.o o.o A q _ ((H.o.below d.o).wider d.o.size) r.o t.o) fun F i=>?_;have m:=aa (Yf d.o i);clear i
 go_wp2;go_ret;exact⟨by rw[a.o];rfl,m.o⟩
theorem Kc(v:Int)(p:Pk)(h:Hs)(w:World)(ip:PkIn w w.heap.size p h)(ok:PkOk p):
  Calls prog 83 #[.int .i64 v,pkV p h] w fun e w'=>e= .returned (.tuple #[.string ⟨(Yq v p).1.toArray⟩,.int .i64 (Yq v p).2])/\Below w.heap.size w w':=by
 have i:=aa ok;have j:=aa ((St.start w).push ip);have l:Hid (Yq v p=if fH v p=0 then(xV p.code p.props p.kind,0)else([],fH v p)):=aa rfl;have n:=aa (fun r s=>MD (v:=v) (p:=p) r s);clear ip ok;go_enter func83,ntmps83;have t:=j.o.ld 0 rfl
 go_wp2_with fail
 refine Yg (IY v p h _ (j.o.into 0 rfl) i.o) fun B f=>?_;have b:=aa (j.o.below f);clear f t
 have u:=b.o.cell 0 rfl 0;rw[cI]at u
 by_cases d:fH v p=0
 rotate_left
 ·have A:(fH v p !=0)=true:=aA.2 d;have g:Hid (Yq v p=([],fH v p)):=aa (by rw[l.o,Fl d]);clear d;go_wp2;go_ret2;exact⟨by rw[g.o];rfl,b.o.kept⟩
 have g:Hid (Yq v p=(xV p.code p.props p.kind,0)):=aa (by rw[l.o,if_pos d]);have m:=aa d;rw[d];clear d
 go_wp2_with fail
 refine(G7 v p.kind _).mono ?_;rintro e z ⟨rfl,rfl⟩;cases k:Ih v p.kind;rotate_left
 ·have o:=aa (n.o m.o k);clear k;go_wp2;go_ret2;exact⟨by rw[o.o];rfl,b.o.kept⟩
 clear k;have x:=b.o.cell 0 rfl 21;rw[YB]at x;have y:=b.o.cell 0 rfl 24;rw[bR]at y
 go_wp2_with fail
 refine Yg (JZ p.code p.kind p.props _ rfl i.o.props h.props.a h.props.c _ (b.o.into 0 rfl).props i.o.len.2.2.2 (b.o.into 0 rfl).caps.2.2.2) fun z f=>?_;have q:=aa (b.o.below f);clear f
 go_wp2;go_ret2;exact⟨by rw[g.o];rfl,q.o.kept⟩
end
end Go.Proofs.YtemooicddjimbaaGreatDoor
