/- A part of what the laws stand on: MCns. -/
import Derived.Test.YtbdgkkmbnahgiaaGreatDoorMfG0MCnr
set_option maxRecDepth 10000
set_option maxHeartbeats 8000000
namespace Go.Proofs.YtbdgkkmbnahgiaaGreatDoor
open Go.RowKit Go.Proofs.Tryz
theorem So{v k:Int}{t:ByteArray}{a:Nat}{e:Int}(he:e≠0):(fv v k t a e).2.2=e:=by
 unfold fv;rw[if_pos (.inr he)]
def rc1(v:Int)(s:ByteArray):Pk×Nat×Int:=(xz (cnF v s).1 (cnK v s).1 (rtC s (cnP v s).2.1 (cnP v s).2.2).1 (cnP v s).1,(rtC s (cnP v s).2.1 (cnP v s).2.2).2.1,(rtC s (cnP v s).2.1 (cnP v s).2.2).2.2)
def RV(v:Int)(s:ByteArray)(a:Nat)(e:Int):List Pr×Nat×Int:=fv v 16 s a e
def SE(v:Int)(s:ByteArray)(a:Nat)(e:Int):ByteArray×Nat×Int:=rtC s (RV v s a e).2.1 (RV v s a e).2.2
def Sm(v:Int)(s:ByteArray)(a:Nat)(e:Int):ByteArray×Nat×Int:=rbC s (SE v s a e).2.1 (SE v s a e).2.2
def rc2(v:Int)(s:ByteArray)(r:Pk×Nat×Int):Pk×Nat×Int:=
 if r.1.hasWill=true then({r.1 with will:={r.1.will with props:=(RV v s r.2.1 r.2.2).1,topic:=(SE v s r.2.1 r.2.2).1,payload:=(Sm v s r.2.1 r.2.2).1}},(Sm v s r.2.1 r.2.2).2.1,(Sm v s r.2.1 r.2.2).2.2)else r
def rc3(s:ByteArray)(r:Pk×Nat×Int):Pk×Nat×Int:=if r.1.hasUser=true then({r.1 with user:=(rtC s r.2.1 r.2.2).1},(rtC s r.2.1 r.2.2).2.1,(rtC s r.2.1 r.2.2).2.2)else r
def rc4(s:ByteArray)(r:Pk×Nat×Int):Pk×Nat×Int:=if r.1.hasPass=true then({r.1 with pass:=(rbC s r.2.1 r.2.2).1},(rbC s r.2.1 r.2.2).2.1,(rbC s r.2.1 r.2.2).2.2)else r
def Rv(v:Int)(s:ByteArray):Pk×Nat×Int:=rc4 s (rc3 s (rc2 v s (rc1 v s)))
structure Alike (s:ByteArray) (r q:Pk×Nat×Int):Prop where
 err:r.2.2=q.2.2
 same:q.2.2=0->r=q
 will:r.1.hasWill=q.1.hasWill
 user:r.1.hasUser=q.1.hasUser
 pass:r.1.hasPass=q.1.hasPass
 le:q.2.1<=s.size
 le':r.2.1<=s.size
theorem Tr{t:ByteArray}{a:Nat}{e:Int}(he:e≠0):rtC t a e=(⟨#[]⟩,a,e):=if_pos he
theorem SY{t:ByteArray}{a:Nat}{e:Int}(he:e≠0):rbC t a e=(⟨#[]⟩,a,e):=if_pos he
theorem Sj(t:ByteArray)(a:Nat)(e:Int)(h:a<=t.size):(fX t a e).2.1<=t.size:=pH t a e h
theorem Uf{s:ByteArray}{r q:Pk×Nat×Int}(x:Alike s r q):Alike s (rc4 s r) (cn4 s q):=by
 unfold rc4 cn4
 by_cases hp:q.1.hasPass=true
 ·rw[if_pos (x.pass.trans hp),if_pos hp];refine⟨?_,fun h0=>?_,x.will,x.user,x.pass,pH _ _ _ x.le,(Sn x.le').1⟩
  ·simp only
   by_cases he:q.2.2=0
   ·rw[x.same he];exact(Fu x.le _).1
   ·rw[SY (by rw[x.err];exact he),yO he,x.err]
  ·simp only at h0⊢;have he:q.2.2=0:=(xC h0).1;rw[x.same he,(Fu x.le _).2 h0]
 ·rw[ae (fun y=>hp (x.pass.symm.trans y)),ae hp];exact x
theorem Ug{s:ByteArray}{r q:Pk×Nat×Int}(x:Alike s r q):Alike s (rc3 s r) (cn3 s q):=by
 unfold rc3 cn3
 by_cases hp:q.1.hasUser=true
 ·rw[if_pos (x.user.trans hp),if_pos hp];refine⟨?_,fun h0=>?_,x.will,x.user,x.pass,Sj _ _ _ x.le,(Fr x.le').1⟩
  ·simp only
   by_cases he:q.2.2=0
   ·rw[x.same he];exact(Fq x.le _).1
   ·rw[Tr (by rw[x.err];exact he),xP he,x.err]
  ·simp only at h0⊢;have he:q.2.2=0:=(sC h0).1;rw[x.same he,(Fq x.le _).2 h0]
 ·rw[ae (fun y=>hp (x.user.symm.trans y)),ae hp];exact x
theorem Uh{v:Int}{s:ByteArray}{r q:Pk×Nat×Int}(x:Alike s r q):Alike s (rc2 v s r) (cn2 v s q):=by
 unfold rc2 cn2
 by_cases hp:q.1.hasWill=true
 ·rw[if_pos (x.will.trans hp),if_pos hp];have l1:=Ec v 16 q.2.2 x.le;have l2:=Sj s _ (fv v 16 s q.2.1 q.2.2).2.2 l1;refine⟨?_,fun h0=>?_,x.will,x.user,x.pass,pH _ _ _ (Sj _ _ _ (Ec _ _ _ x.le)),(Sn (Fr (Ec _ _ _ x.le')).1).1⟩
  ·simp only
   by_cases he:q.2.2=0
   ·rw[x.same he];unfold Sm Aw SE rz RV rA;obtain⟨g1,g2⟩:=Fq l1 (fv v 16 s q.2.1 q.2.2).2.2
    by_cases hz:(fX s (fv v 16 s q.2.1 q.2.2).2.1 (fv v 16 s q.2.1 q.2.2).2.2).2.2=0
    ·rw[g2 hz];exact(Fu l2 _).1
    ·rw[SY (by rw[g1];exact hz),yO hz,g1]
   ·unfold Sm Aw SE rz RV rA;have he':r.2.2≠0:=by rw[x.err];exact he
    have b1:(fv v 16 s q.2.1 q.2.2).2.2=q.2.2:=So he;have b2:(fv v 16 s r.2.1 r.2.2).2.2=r.2.2:=So he';rw[b1,b2];have b3:=xP (t:=s) (a:=(fv v 16 s q.2.1 q.2.2).2.1) he;rw[Tr he'];simp only;rw[SY he',b3,yO he,x.err]
  ·simp only at h0⊢;unfold Sm SE RV Aw rz rA at*;have z1:=(xC h0).1;have z2:=(sC z1).1;have he:q.2.2=0:=Decidable.byContradiction fun hn=>hn ((So hn).symm.trans z2);rw[x.same he,(Fq l1 _).2 z1,(Fu l2 _).2 h0]
 ·rw[ae (fun y=>hp (x.will.symm.trans y)),ae hp];exact x
theorem Tc(v:Int)(s:ByteArray):(cnP v s).2.1<=s.size:=
 Ec _ _ _ (dy (dy (dy (dy (ag _) _ _) _ _) _ _) _ _)
theorem Ui(v:Int)(s:ByteArray):Alike s (rc1 v s) (cn1 v s):=by
 obtain⟨g1,g2⟩:=Fq (Tc v s) (cnP v s).2.2;refine⟨g1,fun h0=>?_,rfl,rfl,rfl,Sj _ _ _ (Tc v s),(Fr (Tc v s)).1⟩;have h1:=g2 h0;unfold rc1;rw[h1];rfl
theorem Un(v:Int)(s:ByteArray):Alike s (Rv v s) (jS v s):=Uf (Ug (Uh (Ui v s)))
theorem Tb{v:Int}{s:ByteArray}{r q:Pk×Nat×Int}(x:Alike s r q):jT v s r=jT v s q:=by
 by_cases he:q.2.2=0
 ·rw[x.same he]
 ·have he':r.2.2≠0:=by rw[x.err];exact he
  have g:∀z:Pk×Nat×Int,z.2.2≠0->oV s z=z.2.2:=fun z hz=>by
   unfold oV;split
   ·rfl
   ·exact ae hz
  unfold jT;rw[g r he',g q he,if_pos he',if_pos he,x.err]
theorem Tx{v k:Int}{s:ByteArray}(h:ba v=true)(hk:gm k=true):iB v k s=jT v s (if k=1 then Rv v s else lL v s):=by
 unfold iB;rw[ae (fun y=>by rw[h,hk]at y;cases y<;>contradiction)]
 by_cases h1:k=1
 ·rw[if_pos h1,if_pos h1];exact(Tb (Un v s)).symm
 ·rw[ae h1,ae h1]
section
attribute [local go_sem ↓] bD bF bH bI bu
attribute [local go_sem] bc aD bh bg bK bJ bd aY be aO ax cI dC dB dt dj di dA dr dp dn bW co bO bZ bX cz cy cw cu ct cC cn bS bP bR
structure CQ (w:World) (gc:Nat) (p:Pk) (h:Hs) (t:ByteArray) (a:Nat) (e:Int) (x:World):Prop where
 mods:w.grownBy x (some gc)
 cur:IC x gc t a e
 res:Bk x w.heap.size PkT (pkC pk0 hs0)
 pk:Bk x (w.heap.size+1) PkT (pkC p h)
 into:PkIn x x.heap.size p h
 flat:p.codes=[]/\p.filters=[]
 lt:gc<w.heap.size
section
variable {w x y:World} {gc:Nat} {p p':Pk} {h h':Hs} {t:ByteArray} {a a':Nat} {e e':Int}
theorem CQ.below(c:CQ w gc p h t a e x)(hb:Below x.heap.size x y):CQ w gc p h t a e y:=
 ⟨c.mods.trans (hJ hb _),c.cur.below hb,c.res.below hb c.res.lt,c.pk.below hb c.pk.lt,c.into.next hb,c.flat,c.lt⟩
theorem CQ.turn(c:CQ w gc p h t a e x)(hc:IC y gc t a' e')(hm:x.grownBy y (some gc)):CQ w gc p h t a' e' y:=
 ⟨c.mods.trans hm,hc,c.res.mods (S:=fun z=>z=gc) (Mods.of_grown hm rfl) (by have:=c.lt;omega),c.pk.mods (S:=fun z=>z=gc) (Mods.of_grown hm rfl) (by have:=c.lt;omega),
  c.into.blk c.flat.1 c.flat.2 c.cur.1 (Io _ _ _) hm,c.flat,c.lt⟩
theorem CQ.put(c:CQ w gc p h t a e x)(i:Nat)(u:Value)(he:(pkC p h).setIfInBounds i u=pkC p' h')(hf:p'.codes=[]/\p'.filters=[])
  (hi:PkIn (x.setCell ⟨w.heap.size+1,i,none⟩ u) (x.setCell ⟨w.heap.size+1,i,none⟩ u).heap.size p' h'):CQ w gc p' h' t a e (x.setCell ⟨w.heap.size+1,i,none⟩ u):=
 ⟨Ae c.mods (by omega) i u,⟨c.cur.1.other (by have:=c.lt;simp;omega) u,c.cur.2⟩,c.res.other (by simp) u,c.pk.upd i u he,hi,hf,c.lt⟩
theorem CQ.set(c:CQ w gc p h t a e x)(i:Nat)(u:Value)(he:(pkC p h).setIfInBounds i u=pkC p' h)(hl:p'.will.props=p.will.props/\p'.codes=p.codes/\p'.filters=p.filters/\p'.props=p.props):
  CQ w gc p' h t a e (x.setCell ⟨w.heap.size+1,i,none⟩ u):=by
 refine c.put i u he ⟨hl.2.1.trans c.flat.1,hl.2.2.1.trans c.flat.2⟩ ?_;have:=c.into.blk c.flat.1 c.flat.2 c.pk (dY _ _) (cP x (w.heap.size+1) i u);obtain⟨h1,h2,h3,h4⟩:=hl;exact⟨by rw[h1];exact this.wp,by rw[h2];exact this.codes,by rw[h3];exact this.filters,by rw[h4];exact this.props,by rw[h1,h2,h3,h4];exact this.caps⟩
theorem CQ.setP(c:CQ w gc p h t a e x){A:Option Addr}{n:Nat}{l:List Pr}(hr:Rd x x.heap.size 4 A l.length (prs l))(hn:l.length<=n):
  CQ w gc {p with props:=l} {h with props:=⟨A,n⟩} t a e (x.setCell ⟨w.heap.size+1,24,none⟩ (.slice A l.length n)):=by
 refine c.put 24 _ rfl c.flat ?_;have hm:=cP x (w.heap.size+1) 24 (.slice A l.length n);have:=c.into.blk c.flat.1 c.flat.2 c.pk (dY _ _) hm;exact⟨this.wp,this.codes,this.filters,(hr.other c.pk (dY _ _) hm (ac _)).wider hm.size,this.caps.1,this.caps.2.1,this.caps.2.2.1,hn⟩
theorem CQ.setW(c:CQ w gc p h t a e x){A:Option Addr}{n:Nat}{l:List Pr}(hr:Rd x x.heap.size 4 A l.length (prs l))(hn:l.length<=n):
  CQ w gc {p with will:={p.will with props:=l}} {h with wp:=⟨A,n⟩} t a e (x.setCell ⟨w.heap.size+1,19,none⟩ (.slice A l.length n)):=by
 refine c.put 19 _ rfl c.flat ?_;have hm:=cP x (w.heap.size+1) 19 (.slice A l.length n);have:=c.into.blk c.flat.1 c.flat.2 c.pk (dY _ _) hm;exact⟨(hr.other c.pk (dY _ _) hm (ac _)).wider hm.size,this.codes,this.filters,this.props,hn,this.caps.2⟩
end
def Ql(g:Nat)(t:ByteArray)(r:Pk×Nat×Int)(w:World)(e:Ending)(w':World):Prop:=
 ∃k,e= .returned (pkV r.1 k)/\PkIn w' w'.heap.size r.1 k/\(r.1.codes=[]/\r.1.filters=[])/\IC w' g t r.2.1 r.2.2/\w.grownBy w' (some g)
theorem CQ.fin{w x:World}{gc:Nat}{p:Pk}{h:Hs}{t:ByteArray}{a:Nat}{e:Int}(c:CQ w gc p h t a e x):Ql gc t (p,a,e) w (.returned (pkV p h)) (dE x w.heap.size p h):=by
 have hm:=cJ x w.heap.size p h;exact⟨h,rfl,c.into.blk c.flat.1 c.flat.2 c.res (dY _ _) hm,c.flat,⟨c.cur.1.mods (S:=fun z=>z=w.heap.size) (Mods.of_grown hm rfl) (by have:=c.lt;omega),c.cur.2⟩,
  ⟨hm.os.trans c.mods.os,hm.tape.trans c.mods.tape,hm.output.trans c.mods.output,aC c.mods.size hm.size,fun i hi hn=>(hm.block i (by have:=c.mods.size;omega) (fun e=>by cases e;omega)).trans (c.mods.block i hi hn)⟩⟩
def rcT(v:Int)(s:ByteArray):ByteArray×Nat×Int:=rtC s (cnP v s).2.1 (cnP v s).2.2
end
section
attribute [local go_sem ↓] bD bF bH bI bu
attribute [local go_sem] bc aD bh bg bK bJ bd aY be aO ax cI dC dB dt dj di dA dr dp dn bW co bO bZ bX cz cy cw cu ct cC cn bS bP bR
theorem Ro(v k:Int)(t:ByteArray)(a:Nat)(e:Int):QK v k t a e=fv v k t a e:=rfl
theorem Sb{f:Nat}(k:Nat)(_hk:k=2\/k=4\/k=32\/k=64\/k=128)(hf:f<256):((wrap64 ((f:Int) / (k:Int))).tmod 2==1)=decide (f/ k% 2=1):=by
 have e1:((f:Int) / (k:Int))=((f/ k:Nat):Int):=rfl;have e2:f/ k<=f:=Nat.div_le_self _ _;rw[e1];generalize f/ k=q at*;have w1:wrap64 (q:Int)=(q:Int):=by simp only[wrap64];omega
 rw[w1,QP (by omega),eG,cH,aK];omega
theorem TW{f:Nat}(hf:f<256):(wrap64 ((f:Int) / 8)).tmod 4=((f/ 8% 4:Nat):Int):=by
 have w1:wrap64 ((f:Int) / 8)=(f:Int) / 8:=by simp only[wrap64];omega
 rw[w1,QP (by omega)];omega
theorem RG(gc:Nat)(t:ByteArray)(v:Int)(w:World)(h:IC w gc t 0 0)(ht:t.size<=140737488351232)(hv:v=4\/v=5):
  Calls prog 202 #[.int .i64 v,.pointer (some ⟨gc,0,none⟩)] w (Ql gc t (Rv v t) w):=by
 have HT:=aa ht;have HV:=aa hv;have HLT:=aa h.lt;have HC:=aa h;have HN0:Hid (stN t=((aH t 0 0 6).2.1,if(aH t 0 0 6).1=i8 then(aH t 0 0 6).2.2 else fh (aH t 0 0 6).2.2 5)):=aa rfl;have HcV:Hid (cnV v t=stV v t (stN t).1 (stN t).2):=aa rfl;have HcF:Hid (cnF v t=stG v t (cnV v t).1 (cnV v t).2):=aa rfl;have HcK:Hid (cnK v t=stK t (cnF v t).2.1 (cnF v t).2.2):=aa rfl;have HcP:Hid (cnP v t=fv v 1 t (cnK v t).2.1 (cnK v t).2.2):=aa rfl;have HcT:Hid (rcT v t=rtC t (cnP v t).2.1 (cnP v t).2.2):=aa rfl;have Hc1:Hid (rc1 v t=(xz (cnF v t).1 (cnK v t).1 (rcT v t).1 (cnP v t).1,(rcT v t).2.1,(rcT v t).2.2)):=aa rfl;have HcR:Hid (Rv v t=rc4 t (rc3 t (rc2 v t (rc1 v t)))):=aa rfl;generalize Rv v t=RR at*;have hst0:∀q k,(zc (.pointer (some ⟨w.heap.size+1,0,none⟩)) (pkV q k)).run prog ((w.alloc (.cells (pkC pk0 hs0) PkT)).alloc (.cells (pkC pk0 hs0) PkT))= .ok () ((w.alloc (.cells (pkC pk0 hs0) PkT)).alloc (.cells (pkC q k) PkT)):=fun q k=>by
  have h2:(w.alloc (.cells (pkC pk0 hs0) PkT)).heap.size=w.heap.size+1:=by simp
  have:=ax (w.alloc (.cells (pkC pk0 hs0) PkT)) pk0 q hs0 k;rw[h2]at this;exact this
 clear h ht hv;go_enter func202,ntmps202;have C0:Hid (CQ w gc {pk0 with kind:=1} hs0 t 0 0 ((w.alloc (.cells (pkC pk0 hs0) PkT)).alloc (.cells (pkC {pk0 with kind:=1} hs0) PkT))):=aa
  ⟨hJ (((aq _ _).alloc (ac _) _).alloc (by simp) _) _,HC.o.below (((aq _ _).alloc (ac _) _).alloc (by simp) _),(Bk.fresh w PkT (pkC pk0 hs0)).alloc _,
   by simpa using Bk.fresh (w.alloc (.cells (pkC pk0 hs0) PkT)) PkT (pkC {pk0 with kind:=1} hs0),PkIn.zero _ _ 1 0 0,⟨rfl,rfl⟩,HLT.o⟩
 go_wp2_with fail
 clear hst0 HC;generalize (w.alloc (.cells (pkC pk0 hs0) PkT)).alloc (.cells (pkC {pk0 with kind:=1} hs0) PkT)=x0 at*;obtain⟨q0,hq0⟩:∃q,{pk0 with kind:=1}=q:=⟨_,rfl⟩;have HQ0:=aa hq0.symm;rw[hq0]at C0;clear hq0;refine(QY gc 0 t 0 6 _ C0.o.cur).mono ?_;rintro e x1 ⟨rfl,hc,hm⟩;generalize aH t 0 0 6=T0 at*;obtain⟨b6,a6,e6⟩:=T0;simp only at HN0 hc⊢;have C1:=aa (C0.o.turn hc hm);clear hc hm C0;obtain⟨bn,hbn⟩:∃bn,(b6.toList==i8.toList)=bn:=⟨_,rfl⟩;have hbnn:(b6.toList !=i8.toList)= !bn:=by rw[<-hbn];rfl
 have HN:Hid (stN t=(a6,if bn=true then e6 else fh e6 5)):=aa (by
  rw[HN0.o]
  by_cases hb:b6=i8
  ·have:bn=true:=by rw[<-hbn,hb];exact beq_self_eq_true _
   rw[if_pos hb,this,if_pos rfl]
  ·have:bn=false:=by
    rw[<-hbn];exact ar.2 fun x=>hb ((toList_inj _ _).1 x)
   rw[ae hb,this,ae (by decide)])
 clear HN0
 go_upto_region 3 with fail
 go_cut [21] (fun s wx=>s= .bool (decide (e6=0)&& !bn)/\CQ w gc q0 hs0 t a6 e6 wx)
 case first=>
  have ce:=C1.o.cur.cells.1.2.2
  by_cases he:e6=0
  ·have eE:(e6==0)=true:=aK.2 he;have HE0:=aa he;clear he
   go_wp2_with fail
   refine(He ⟨#[77,81,84,84]⟩ _ (by decide)).mono ?_;rintro e' zt ⟨rfl,hb⟩;rw[Nt];have CT:=aa (C1.o.below hb);clear hb
   go_wp2
   go_meet
   case rel=>exact⟨by rw[au HE0.o,aL],CT.o⟩
  ·have eE:(e6==0)=false:=ar.2 he;have HE0:=aa he;clear he;go_wp2
   go_meet
   case rel=>exact⟨by rw[ah HE0.o];rfl,C1.o⟩
 obtain⟨rfl,hst⟩:=hcut;have CG:=aa hst;clear hst;obtain⟨bq,hbq⟩:∃z,(decide (e6=0)&& !bn)=z:=⟨_,rfl⟩;rw[hbq];have HBQ:=aa hbq;clear hbq
 go_upto_if 21 with fail
 go_cut [22] (fun _ wx=>CQ w gc q0 hs0 t a6 (if bn=true then e6 else fh e6 5) wx)
 case first=>
  cases bq
  ·have HF:Hid ((if bn=true then e6 else fh e6 5)=e6):=aa (by
    have hq:=HBQ.o
    by_cases he:e6=0
    ·rw[au he]at hq;cases bn
     ·cases hq
     ·rfl
    ·rw[show fh e6 5=e6 from ae he];split<;>rfl)
   go_wp2
   go_meet
   case rel=>rw[HF.o];exact CG.o
  ·have HF:Hid ((if bn=true then e6 else fh e6 5)=(if e6=0 then 5 else e6)):=aa (by
    have hq:=HBQ.o;cases bn
    ·rfl
    ·rw[Ra,ru]at hq;cases hq)
   go_wp2_with fail
   refine(Qv gc a6 t e6 5 _ CG.o.cur).mono ?_;rintro e' zf ⟨rfl,hc,hm⟩;have CF:=aa (CG.o.turn hc hm);clear hc hm;go_wp2
   go_meet
   case rel=>rw[HF.o];exact CF.o
 clear HBQ CG;have C2:=aa hcut;clear hcut hbn hbnn C1;generalize (if bn=true then e6 else fh e6 5)=e0 at*;have hwv:IntKind.u64.wrap v=v:=by rw[iZ];have:=HV.o;omega
 go_wp2_with fail
 refine(Qz gc a6 t e0 1 _ C2.o.cur (by decide)).mono ?_;rintro e x3 ⟨rfl,hc,hm⟩;obtain⟨bv,hbv⟩:∃bv,(((br t a6 e0 1:Nat):Int)==v)=bv:=⟨_,rfl⟩;have hbn':(((br t a6 e0 1:Nat):Int) !=v)= !bv:=by rw[<-hbv];rfl
 have HW:Hid (cnV v t=((aH t a6 e0 1).2.1,if bv=true then(aH t a6 e0 1).2.2 else fh (aH t a6 e0 1).2.2 5)):=aa (by
  rw[HcV.o,HN.o];unfold stV
  by_cases hb:((br t a6 e0 1:Nat):Int)=v
  ·have:bv=true:=by rw[<-hbv];exact aK.2 hb
   simp only;rw[if_pos hb,this,if_pos rfl]
  ·have:bv=false:=by rw[<-hbv];exact ar.2 hb
   simp only;rw[ae hb,this,ae (by decide)])
 generalize br t a6 e0 1=n1 at*;generalize (aH t a6 e0 1).2.1=a1 at*;generalize (aH t a6 e0 1).2.2=f1 at*;have C3:=aa (C2.o.turn hc hm);clear HcV HN hc hm C2
 go_upto_region 6 with fail
 go_cut [36] (fun s wx=>s= .bool (decide (f1=0)&& !bv)/\CQ w gc q0 hs0 t a1 f1 wx)
 case first=>
  have ce:=C3.o.cur.cells.1.2.2
  by_cases he:f1=0
  ·have eE:(f1==0)=true:=aK.2 he;have HE0:=aa he;clear he;go_wp2
   go_meet
   case rel=>exact⟨by rw[au HE0.o,aL],C3.o⟩
  ·have eE:(f1==0)=false:=ar.2 he;have HE0:=aa he;clear he;go_wp2
   go_meet
   case rel=>exact⟨by rw[ah HE0.o];rfl,C3.o⟩
 obtain⟨rfl,hst⟩:=hcut;have CG:=aa hst;clear hst;obtain⟨bq,hbq⟩:∃z,(decide (f1=0)&& !bv)=z:=⟨_,rfl⟩;rw[hbq];have HBQ:=aa hbq;clear hbq
 go_upto_if 36 with fail
 go_cut [37] (fun _ wx=>CQ w gc q0 hs0 t a1 (if bv=true then f1 else fh f1 5) wx)
 case first=>
  cases bq
  ·have HF:Hid ((if bv=true then f1 else fh f1 5)=f1):=aa (by
    have hq:=HBQ.o
    by_cases he:f1=0
    ·rw[au he]at hq;cases bv
     ·cases hq
     ·rfl
    ·rw[show fh f1 5=f1 from ae he];split<;>rfl)
   go_wp2
   go_meet
   case rel=>rw[HF.o];exact CG.o
  ·have HF:Hid ((if bv=true then f1 else fh f1 5)=(if f1=0 then 5 else f1)):=aa (by
    have hq:=HBQ.o;cases bv
    ·rfl
    ·rw[Ra,ru]at hq;cases hq)
   go_wp2_with fail
   refine(Qv gc a1 t f1 5 _ CG.o.cur).mono ?_;rintro e' zf ⟨rfl,hc,hm⟩;have CF:=aa (CG.o.turn hc hm);clear hc hm;go_wp2
   go_meet
   case rel=>rw[HF.o];exact CF.o
 clear HBQ CG;have C4:=aa hcut;clear hcut hbv hbn' C3 hwv;generalize (if bv=true then f1 else fh f1 5)=e1 at*;have HFL:=aa (iV t a1 e1);have hwf:IntKind.i64.wrap ((br t a1 e1 1:Nat):Int)=((br t a1 e1 1:Nat):Int):=by rw[aQ];have:=HFL.o;omega
 go_wp2_with fail
 refine(Qz gc a1 t e1 1 _ C4.o.cur (by decide)).mono ?_;rintro e x5 ⟨rfl,hc,hm⟩;have C5:=aa (C4.o.turn hc hm);clear hc hm C4
 have HF0:Hid (cnF v t=(br t a1 e1 1,(aH t a1 e1 1).2.1,if tu v (br t a1 e1 1)=true then(aH t a1 e1 1).2.2 else fh (aH t a1 e1 1).2.2 7)):=aa (by rw[HcF.o,HW.o];rfl);generalize br t a1 e1 1=fn at*;generalize (aH t a1 e1 1).2.1=a2 at*;generalize (aH t a1 e1 1).2.2=f2 at*;clear HcF HW;have KW:=aa (fun x:World=>Te v HV.o fn HFL.o x);obtain⟨bf,hbf⟩:∃bf,tu v fn=bf:=⟨_,rfl⟩;rw[hbf]at HF0 KW;clear hbf
 go_upto_region 9 with fail
 go_cut [51] (fun s wx=>s= .bool (decide (f2=0)&& !bf)/\CQ w gc q0 hs0 t a2 f2 wx)
 case first=>
  have ce:=C5.o.cur.cells.1.2.2
  by_cases he:f2=0
  ·have eE:(f2==0)=true:=aK.2 he;have HE0:=aa he;clear he
   go_wp2_with fail
   refine(KW.o _).mono ?_;rintro e' zt ⟨rfl,rfl⟩;go_wp2
   go_meet
   case rel=>exact⟨by rw[au HE0.o,aL],C5.o⟩
  ·have eE:(f2==0)=false:=ar.2 he;have HE0:=aa he;clear he;go_wp2
   go_meet
   case rel=>exact⟨by rw[ah HE0.o];rfl,C5.o⟩
 obtain⟨rfl,hst⟩:=hcut;have CG:=aa hst;clear hst;obtain⟨bq,hbq⟩:∃z,(decide (f2=0)&& !bf)=z:=⟨_,rfl⟩;rw[hbq];have HBQ:=aa hbq;clear hbq
 go_upto_if 51 with fail
 go_cut [52] (fun _ wx=>CQ w gc q0 hs0 t a2 (if bf=true then f2 else fh f2 7) wx)
 case first=>
  cases bq
  ·have HF:Hid ((if bf=true then f2 else fh f2 7)=f2):=aa (by
    have hq:=HBQ.o
    by_cases he:f2=0
    ·rw[au he]at hq;cases bf
     ·cases hq
     ·rfl
    ·rw[show fh f2 7=f2 from ae he];split<;>rfl)
   go_wp2
   go_meet
   case rel=>rw[HF.o];exact CG.o
  ·have HF:Hid ((if bf=true then f2 else fh f2 7)=(if f2=0 then 7 else f2)):=aa (by
    have hq:=HBQ.o;cases bf
    ·rfl
    ·rw[Ra,ru]at hq;cases hq)
   go_wp2_with fail
   refine(Qv gc a2 t f2 7 _ CG.o.cur).mono ?_;rintro e' zf ⟨rfl,hc,hm⟩;have CF:=aa (CG.o.turn hc hm);clear hc hm;go_wp2
   go_meet
   case rel=>rw[HF.o];exact CF.o
 clear HBQ CG;have C4:=aa hcut;clear hcut KW C5;generalize (if bf=true then f2 else fh f2 7)=e2 at*;have hf0:(0:Int)<=(fn:Int):=by omega
 have g2:=Sb 2 (.inl rfl) HFL.o;have g4:=Sb 4 (.inr (.inl rfl)) HFL.o;have g32:=Sb 32 (.inr (.inr (.inl rfl))) HFL.o;have g64:=Sb 64 (.inr (.inr (.inr (.inl rfl)))) HFL.o;have g128:=Sb 128 (.inr (.inr (.inr (.inr rfl)))) HFL.o;have g8:=TW HFL.o;simp only[show((2:Nat):Int)=2 from rfl,show((4:Nat):Int)=4 from rfl,show((32:Nat):Int)=32 from rfl,show((64:Nat):Int)=64 from rfl,show((128:Nat):Int)=128 from rfl]at g2 g4 g32 g64 g128;have f7:=C4.o.pk.free 7;have p7:=(C4.o.pk.cell 7).trans (dr _ _)
 have f14:=C4.o.pk.free 14;have p14:=(C4.o.pk.cell 14).trans (bX _ _)
 have f12:=C4.o.pk.free 12;have p12:=(C4.o.pk.cell 12).trans (bO _ _)
 have f10:=C4.o.pk.free 10;have p10:=(C4.o.pk.cell 10).trans (bW _ _)
 have f18:=C4.o.pk.free 18;have p18:=(C4.o.pk.cell 18).trans (cu _ _)
 have f17:=C4.o.pk.free 17;have p17:=(C4.o.pk.cell 17).trans (cw _ _)
 obtain⟨b2,hb2⟩:∃b,decide (fn/ 2% 2=1)=b:=⟨_,rfl⟩;obtain⟨b4,hb4⟩:∃b,decide (fn/ 4% 2=1)=b:=⟨_,rfl⟩;obtain⟨b32,hb32⟩:∃b,decide (fn/ 32% 2=1)=b:=⟨_,rfl⟩;obtain⟨b64,hb64⟩:∃b,decide (fn/ 64% 2=1)=b:=⟨_,rfl⟩;obtain⟨b128,hb128⟩:∃b,decide (fn/ 128% 2=1)=b:=⟨_,rfl⟩;obtain⟨qq,hqq⟩:∃q:Int,((fn/ 8% 4:Nat):Int)=q:=⟨_,rfl⟩;rw[hb2]at g2;rw[hb4]at g4;rw[hb32]at g32;rw[hb64]at g64;rw[hb128]at g128;rw[hqq]at g8;have HPK:Hid (∀(k:Nat) c l,({q0 with clean:=b2,hasWill:=b4,hasPass:=b64,hasUser:=b128,will:={q0.will with retain:=b32,qos:=qq},alive:=((k:Nat):Int),props:=l,client:=c}:Pk)=xz fn k c l):=aa (by
  intro k c l;rw[<-hb2,<-hb4,<-hb32,<-hb64,<-hb128,<-hqq,HQ0.o];rfl)
 clear hb2 hb4 hb32 hb64 hb128 hqq;have HKL:=aa (gU t a2 e2 C4.o.cur.2.1);have C5:=aa ((((((C4.o.set 10 (.bool b128) (p':={q0 with hasUser:=b128}) rfl ⟨rfl,rfl,rfl,rfl⟩).set 12 (.bool b64) (p':={q0 with hasUser:=b128,hasPass:=b64}) rfl ⟨rfl,rfl,rfl,rfl⟩).set 14 (.bool b4) (p':={q0 with hasUser:=b128,hasPass:=b64,hasWill:=b4}) rfl ⟨rfl,rfl,rfl,rfl⟩).set 7 (.bool b2) (p':={q0 with hasUser:=b128,hasPass:=b64,hasWill:=b4,clean:=b2}) rfl ⟨rfl,rfl,rfl,rfl⟩).set 18 (.bool b32) (p':={q0 with hasUser:=b128,hasPass:=b64,hasWill:=b4,clean:=b2,will:={q0.will with retain:=b32}}) rfl ⟨rfl,rfl,rfl,rfl⟩).set 17 (.int .i64 qq) (p':={q0 with hasUser:=b128,hasPass:=b64,hasWill:=b4,clean:=b2,will:={q0.will with retain:=b32,qos:=qq}}) rfl ⟨rfl,rfl,rfl,rfl⟩);clear C4
 go_wp2_with fail
 refine(Qz gc a2 t e2 2 _ C5.o.cur (by decide)).mono ?_;rintro e x8 ⟨rfl,hc,hm⟩;have C6:=aa (C5.o.turn hc hm);clear hc hm C5 f7 p7 f14 p14 f12 p12 f10 p10 f18 p18 f17 p17 g2 g4 g8 g32 g64 g128 hf0;have HKK:Hid (cnK v t=(br t a2 e2 2,(aH t a2 e2 2).2.1,(aH t a2 e2 2).2.2)):=aa (by rw[HcK.o,HF0.o];rfl);generalize br t a2 e2 2=kn at*;generalize (aH t a2 e2 2).2.1=a3 at*;generalize (aH t a2 e2 2).2.2=e3 at*;have hwk:IntKind.i64.wrap (kn:Int)=(kn:Int):=by rw[aQ];have:=HKL.o;omega
 have f8:=C6.o.pk.free 8;have p8:=(C6.o.pk.cell 8).trans (dp _ _)
 have p0:x8.cell? ⟨w.heap.size+1,0,none⟩=some (.int .i64 1):=((C6.o.pk.cell 0).trans (cI _ _)).trans (by rw[HQ0.o]);have C7:=aa (C6.o.set 8 (.int .i64 (kn:Int)) (p':={q0 with clean:=b2,hasWill:=b4,hasPass:=b64,hasUser:=b128,will:={q0.will with retain:=b32,qos:=qq},alive:=(kn:Int)}) rfl ⟨rfl,rfl,rfl,rfl⟩);have HPP:Hid (cnP v t=fv v 1 t a3 e3):=aa (by rw[HcP.o,HKK.o]);clear C6 HcK HcP
 go_wp2_with fail
 refine(QD v 1 gc a3 t e3 _ C7.o.cur HT.o).mono ?_;rintro e x9 ⟨A,c,rfl,hlc,hr,hc,hm⟩;rw[Ro]at hlc hr hc⊢;rw[<-HPP.o]at hlc hr hc⊢;clear HPP f8 p8 p0 hwk;generalize cnP v t=r at*;obtain⟨l,a4,e4⟩:=r;simp only at hlc hr hc HcT Hc1⊢;have C8:=aa (C7.o.turn hc hm);have C9:=aa (C8.o.setP hr hlc);have f24:=C8.o.pk.free 24;have p24:=(C8.o.pk.cell 24).trans (bR _ _)
 clear hlc hr hc hm C7
 go_wp2_with fail
 refine(Rg gc a4 t e4 _ C9.o.cur).mono ?_;rintro e y0 ⟨rfl,hc,hm⟩;rw[<-HcT.o]at hc⊢;clear HcT f24 p24 C8;generalize rcT v t=r at*;obtain⟨cl,a5,e5⟩:=r;simp only at hc Hc1⊢;rw[HF0.o,HKK.o]at Hc1;simp only at Hc1;have C10:=aa (C9.o.turn hc hm);clear hc hm C9 HF0 HKK;have C11':=aa (C10.o.set 9 (.string cl) (p':={q0 with clean:=b2,hasWill:=b4,hasPass:=b64,hasUser:=b128,will:={q0.will with retain:=b32,qos:=qq},alive:=(kn:Int),props:=l,client:=cl}) rfl ⟨rfl,rfl,rfl,rfl⟩);have f9:=C10.o.pk.free 9;have p9:=(C10.o.pk.cell 9).trans (dn _ _)
 have p14:y0.cell? ⟨w.heap.size+1,14,none⟩=some (.bool b4):=(C10.o.pk.cell 14).trans (bX _ _);have HB4:Hid ((xz fn kn cl l).hasWill=b4):=aa (by rw[<-HPK.o]);rw[HPK.o]at C11';generalize xz fn kn cl l=P1 at*;clear C10 HPK HQ0 HKL HFL;obtain⟨H1,hH1⟩:∃H:Hs,{hs0 with props:=⟨A,c⟩}=H:=⟨_,rfl⟩;rw[hH1]at C11';clear hH1;obtain⟨Y1,hY1⟩:∃Y,y0.setCell ⟨w.heap.size+1,9,none⟩ (.string cl)=Y:=⟨_,rfl⟩;have C11:=C11';rw[hY1]at C11;have HR2:Hid (RR=rc4 t (rc3 t (rc2 v t (P1,a5,e5)))):=aa (by rw[HcR.o,Hc1.o]);clear C11' HcR Hc1;cases b4
 ·have p14:=((C11.o.pk.cell 14).trans (bX _ _)).trans (show _=some (Value.bool false) by rw[HB4.o]);have HR3:Hid (RR=rc4 t (rc3 t (P1,a5,e5))):=aa (by rw[HR2.o];unfold rc2;rw[ae (by rw[HB4.o];decide)]);cases hb1:(P1:Pk).hasUser
  ·have hb1p:=((C11.o.pk.cell 10).trans (bW _ _)).trans (show _=some (Value.bool false) by rw[hb1]);have HQ2:Hid (RR=rc4 t (P1,a5,e5)):=aa (by rw[HR3.o];unfold rc3;rw[ae (by rw[hb1];decide)]);cases hb4:(P1:Pk).hasPass
   ·have hb4p:=((C11.o.pk.cell 12).trans (bO _ _)).trans (show _=some (Value.bool false) by rw[hb4]);have HZ:Hid (RR=(P1,a5,e5)):=aa (by rw[HQ2.o];unfold rc4;rw[ae (by rw[hb4];decide)]);have hl:=cf C11.o.pk;have hst:=aW C11.o.res;go_wp2;refine av (fz rfl _ rfl (cO C11.o.res _ _)) rfl ?_;rw[HZ.o];exact C11.o.fin
   ·have hb4p:=((C11.o.pk.cell 12).trans (bO _ _)).trans (show _=some (Value.bool true) by rw[hb4])
    go_wp2_with fail
    refine(QW gc a5 t e5 _ C11.o.cur).mono ?_;rintro e y5 ⟨rfl,hc,hm⟩;obtain⟨S6,a7,e8,HS13⟩:∃(S:ByteArray) (a:Nat) (e:Int),rbC t a5 e5=(S,a,e):=⟨_,_,_,rfl⟩;rw[HS13]at hc⊢;simp only at hc⊢
    replace HS13:=aa HS13
    have C9:=aa (C11.o.turn hc hm);have C10:=aa (C9.o.set 13 (.string S6) (p':={(P1:Pk)with pass:=S6}) rfl ⟨rfl,rfl,rfl,rfl⟩);have fx:=C9.o.pk.free 13;have px:=(C9.o.pk.cell 13).trans (bZ _ _)
    clear hc hm;obtain⟨Y11,hY12⟩:∃Y,y5.setCell ⟨w.heap.size+1,13,none⟩ (.string S6)=Y:=⟨_,rfl⟩;rw[hY12]at C10;obtain⟨PV14,hPV15⟩:∃P:Pk,{(P1:Pk)with pass:=S6}=P:=⟨_,rfl⟩;rw[hPV15]at C10
    replace hPV15:=aa hPV15
    have HZ:Hid (RR=(PV14,a7,e8)):=aa (by rw[HQ2.o];unfold rc4;rw[if_pos hb4];simp only;rw[HS13.o,<-hPV15.out]);have hl:=cf C10.o.pk;have hst:=aW C10.o.res;go_wp2;refine av (fz rfl _ rfl (cO C10.o.res _ _)) rfl ?_;rw[HZ.o];exact C10.o.fin
  ·have hb1p:=((C11.o.pk.cell 10).trans (bW _ _)).trans (show _=some (Value.bool true) by rw[hb1])
   go_wp2_with fail
   refine(Rg gc a5 t e5 _ C11.o.cur).mono ?_;rintro e y16 ⟨rfl,hc,hm⟩;obtain⟨S17,a18,e19,HS24⟩:∃(S:ByteArray) (a:Nat) (e:Int),rtC t a5 e5=(S,a,e):=⟨_,_,_,rfl⟩;rw[HS24]at hc⊢;simp only at hc⊢
   replace HS24:=aa HS24
   have C20:=aa (C11.o.turn hc hm);have C21:=aa (C20.o.set 11 (.string S17) (p':={(P1:Pk)with user:=S17}) rfl ⟨rfl,rfl,rfl,rfl⟩);have fx:=C20.o.pk.free 11;have px:=(C20.o.pk.cell 11).trans (co _ _)
   clear hc hm;obtain⟨Y22,hY23⟩:∃Y,y16.setCell ⟨w.heap.size+1,11,none⟩ (.string S17)=Y:=⟨_,rfl⟩;rw[hY23]at C21;obtain⟨PV25,hPV26⟩:∃P:Pk,{(P1:Pk)with user:=S17}=P:=⟨_,rfl⟩;rw[hPV26]at C21
   replace hPV26:=aa hPV26
   have HQ3:Hid (RR=rc4 t (PV25,a18,e19)):=aa (by rw[HR3.o];unfold rc3;rw[if_pos hb1];simp only;rw[HS24.o,<-hPV26.out]);cases hb27:(PV25:Pk).hasPass
   ·have hb27p:=((C21.o.pk.cell 12).trans (bO _ _)).trans (show _=some (Value.bool false) by rw[hb27]);have HZ:Hid (RR=(PV25,a18,e19)):=aa (by rw[HQ3.o];unfold rc4;rw[ae (by rw[hb27];decide)]);have hl:=cf C21.o.pk;have hst:=aW C21.o.res;go_wp2;refine av (fz rfl _ rfl (cO C21.o.res _ _)) rfl ?_;rw[HZ.o];exact C21.o.fin
   ·have hb27p:=((C21.o.pk.cell 12).trans (bO _ _)).trans (show _=some (Value.bool true) by rw[hb27])
    go_wp2_with fail
    refine(QW gc a18 t e19 _ C21.o.cur).mono ?_;rintro e y28 ⟨rfl,hc,hm⟩;obtain⟨S29,a30,e31,HS36⟩:∃(S:ByteArray) (a:Nat) (e:Int),rbC t a18 e19=(S,a,e):=⟨_,_,_,rfl⟩;rw[HS36]at hc⊢;simp only at hc⊢
    replace HS36:=aa HS36
    have C32:=aa (C21.o.turn hc hm);have C33:=aa (C32.o.set 13 (.string S29) (p':={(PV25:Pk)with pass:=S29}) rfl ⟨rfl,rfl,rfl,rfl⟩);have fx:=C32.o.pk.free 13;have px:=(C32.o.pk.cell 13).trans (bZ _ _)
    clear hc hm;obtain⟨Y34,hY35⟩:∃Y,y28.setCell ⟨w.heap.size+1,13,none⟩ (.string S29)=Y:=⟨_,rfl⟩;rw[hY35]at C33;obtain⟨PV37,hPV38⟩:∃P:Pk,{(PV25:Pk)with pass:=S29}=P:=⟨_,rfl⟩;rw[hPV38]at C33
    replace hPV38:=aa hPV38
    have HZ:Hid (RR=(PV37,a30,e31)):=aa (by rw[HQ3.o];unfold rc4;rw[if_pos hb27];simp only;rw[HS36.o,<-hPV38.out]);have hl:=cf C33.o.pk;have hst:=aW C33.o.res;go_wp2;refine av (fz rfl _ rfl (cO C33.o.res _ _)) rfl ?_;rw[HZ.o];exact C33.o.fin
 ·have p14:=((C11.o.pk.cell 14).trans (bX _ _)).trans (show _=some (Value.bool true) by rw[HB4.o])
  go_wp2_with fail
  refine(QD v 16 gc a5 t e5 _ C11.o.cur HT.o).mono ?_;rintro e yw ⟨A',c',rfl,hlc,hr,hc,hm⟩;obtain⟨wl,aw,ew,hWP⟩:∃(l:List Pr) (a:Nat) (e:Int),QK v 16 t a5 e5=(l,a,e):=⟨_,_,_,rfl⟩;rw[hWP]at hlc hr hc⊢;simp only at hlc hr hc⊢
  replace hWP:Hid (fv v 16 t a5 e5=(wl,aw,ew)):=aa hWP
  have CW8:=aa (C11.o.turn hc hm);have CW9:=aa (CW8.o.setW hr hlc);have fx:=CW8.o.pk.free 19;have px:=(CW8.o.pk.cell 19).trans (ct _ _)
  clear hlc hr hc hm p14 f9 p9 hY1;obtain⟨Yw,hYw⟩:∃Y,yw.setCell ⟨w.heap.size+1,19,none⟩ (.slice A' wl.length c')=Y:=⟨_,rfl⟩;rw[hYw]at CW9;obtain⟨HW,hHW⟩:∃H:Hs,{H1 with wp:=⟨A',c'⟩}=H:=⟨_,rfl⟩;rw[hHW]at CW9;obtain⟨PW,hPW⟩:∃P:Pk,{P1 with will:={P1.will with props:=wl}}=P:=⟨_,rfl⟩;rw[hPW]at CW9
  replace hPW:=aa hPW
  clear hHW
  go_wp2_with fail
  clear fx px hYw;refine(Rg gc aw t ew _ CW9.o.cur).mono ?_;rintro e y39 ⟨rfl,hc,hm⟩;obtain⟨S40,a41,e42,HS47⟩:∃(S:ByteArray) (a:Nat) (e:Int),rtC t aw ew=(S,a,e):=⟨_,_,_,rfl⟩;rw[HS47]at hc⊢;simp only at hc⊢
  replace HS47:=aa HS47
  have C43:=aa (CW9.o.turn hc hm);have C44:=aa (C43.o.set 15 (.string S40) (p':={(PW:Pk)with will:={(PW:Pk).will with topic:=S40}}) rfl ⟨rfl,rfl,rfl,rfl⟩);have fx:=C43.o.pk.free 15;have px:=(C43.o.pk.cell 15).trans (cz _ _)
  clear hc hm;obtain⟨Y45,hY46⟩:∃Y,y39.setCell ⟨w.heap.size+1,15,none⟩ (.string S40)=Y:=⟨_,rfl⟩;rw[hY46]at C44;obtain⟨PV48,hPV49⟩:∃P:Pk,{(PW:Pk)with will:={(PW:Pk).will with topic:=S40}}=P:=⟨_,rfl⟩;rw[hPV49]at C44
  replace hPV49:=aa hPV49
  go_wp2_with fail
  clear fx px hY46;refine(QW gc a41 t e42 _ C44.o.cur).mono ?_;rintro e y50 ⟨rfl,hc,hm⟩;obtain⟨S51,a52,e53,HS58⟩:∃(S:ByteArray) (a:Nat) (e:Int),rbC t a41 e42=(S,a,e):=⟨_,_,_,rfl⟩;rw[HS58]at hc⊢;simp only at hc⊢
  replace HS58:=aa HS58
  have C54:=aa (C44.o.turn hc hm);have C55:=aa (C54.o.set 16 (.string S51) (p':={(PV48:Pk)with will:={(PV48:Pk).will with payload:=S51}}) rfl ⟨rfl,rfl,rfl,rfl⟩);have fx:=C54.o.pk.free 16;have px:=(C54.o.pk.cell 16).trans (cy _ _)
  clear hc hm;obtain⟨Y56,hY57⟩:∃Y,y50.setCell ⟨w.heap.size+1,16,none⟩ (.string S51)=Y:=⟨_,rfl⟩;rw[hY57]at C55;obtain⟨PV59,hPV60⟩:∃P:Pk,{(PV48:Pk)with will:={(PV48:Pk).will with payload:=S51}}=P:=⟨_,rfl⟩;rw[hPV60]at C55
  replace hPV60:=aa hPV60
  have HR3:Hid (RR=rc4 t (rc3 t (PV59,a52,e53))):=aa (by
   rw[HR2.o];unfold rc2;rw[if_pos HB4.o]
   unfold Sm SE RV;simp only;rw[hWP.out];simp only;rw[HS47.o];simp only;rw[HS58.o,<-hPV60.out,<-hPV49.out,<-hPW.out])
  cases hb61:(PV59:Pk).hasUser
  ·have hb61p:=((C55.o.pk.cell 10).trans (bW _ _)).trans (show _=some (Value.bool false) by rw[hb61]);have HQ62:Hid (RR=rc4 t (PV59,a52,e53)):=aa (by rw[HR3.o];unfold rc3;rw[ae (by rw[hb61];decide)]);cases hb64:(PV59:Pk).hasPass
   ·have hb64p:=((C55.o.pk.cell 12).trans (bO _ _)).trans (show _=some (Value.bool false) by rw[hb64]);have HZ:Hid (RR=(PV59,a52,e53)):=aa (by rw[HQ62.o];unfold rc4;rw[ae (by rw[hb64];decide)]);have hl:=cf C55.o.pk;have hst:=aW C55.o.res;go_wp2;refine av (fz rfl _ rfl (cO C55.o.res _ _)) rfl ?_;rw[HZ.o];exact C55.o.fin
   ·have hb64p:=((C55.o.pk.cell 12).trans (bO _ _)).trans (show _=some (Value.bool true) by rw[hb64])
    go_wp2_with fail
    refine(QW gc a52 t e53 _ C55.o.cur).mono ?_;rintro e y65 ⟨rfl,hc,hm⟩;obtain⟨S66,a67,e68,HS73⟩:∃(S:ByteArray) (a:Nat) (e:Int),rbC t a52 e53=(S,a,e):=⟨_,_,_,rfl⟩;rw[HS73]at hc⊢;simp only at hc⊢
    replace HS73:=aa HS73
    have C69:=aa (C55.o.turn hc hm);have C70:=aa (C69.o.set 13 (.string S66) (p':={(PV59:Pk)with pass:=S66}) rfl ⟨rfl,rfl,rfl,rfl⟩);have fx:=C69.o.pk.free 13;have px:=(C69.o.pk.cell 13).trans (bZ _ _)
    clear hc hm;obtain⟨Y71,hY72⟩:∃Y,y65.setCell ⟨w.heap.size+1,13,none⟩ (.string S66)=Y:=⟨_,rfl⟩;rw[hY72]at C70;obtain⟨PV74,hPV75⟩:∃P:Pk,{(PV59:Pk)with pass:=S66}=P:=⟨_,rfl⟩;rw[hPV75]at C70
    replace hPV75:=aa hPV75
    have HZ:Hid (RR=(PV74,a67,e68)):=aa (by rw[HQ62.o];unfold rc4;rw[if_pos hb64];simp only;rw[HS73.o,<-hPV75.out]);have hl:=cf C70.o.pk;have hst:=aW C70.o.res;go_wp2;refine av (fz rfl _ rfl (cO C70.o.res _ _)) rfl ?_;rw[HZ.o];exact C70.o.fin
  ·have hb61p:=((C55.o.pk.cell 10).trans (bW _ _)).trans (show _=some (Value.bool true) by rw[hb61])
   go_wp2_with fail
   refine(Rg gc a52 t e53 _ C55.o.cur).mono ?_;rintro e y76 ⟨rfl,hc,hm⟩;obtain⟨S77,a78,e79,HS84⟩:∃(S:ByteArray) (a:Nat) (e:Int),rtC t a52 e53=(S,a,e):=⟨_,_,_,rfl⟩;rw[HS84]at hc⊢;simp only at hc⊢
   replace HS84:=aa HS84
   have C80:=aa (C55.o.turn hc hm);have C81:=aa (C80.o.set 11 (.string S77) (p':={(PV59:Pk)with user:=S77}) rfl ⟨rfl,rfl,rfl,rfl⟩);have fx:=C80.o.pk.free 11;have px:=(C80.o.pk.cell 11).trans (co _ _)
   clear hc hm;obtain⟨Y82,hY83⟩:∃Y,y76.setCell ⟨w.heap.size+1,11,none⟩ (.string S77)=Y:=⟨_,rfl⟩;rw[hY83]at C81;obtain⟨PV85,hPV86⟩:∃P:Pk,{(PV59:Pk)with user:=S77}=P:=⟨_,rfl⟩;rw[hPV86]at C81
   replace hPV86:=aa hPV86
   have HQ63:Hid (RR=rc4 t (PV85,a78,e79)):=aa (by rw[HR3.o];unfold rc3;rw[if_pos hb61];simp only;rw[HS84.o,<-hPV86.out]);cases hb87:(PV85:Pk).hasPass
   ·have hb87p:=((C81.o.pk.cell 12).trans (bO _ _)).trans (show _=some (Value.bool false) by rw[hb87]);have HZ:Hid (RR=(PV85,a78,e79)):=aa (by rw[HQ63.o];unfold rc4;rw[ae (by rw[hb87];decide)]);have hl:=cf C81.o.pk;have hst:=aW C81.o.res;go_wp2;refine av (fz rfl _ rfl (cO C81.o.res _ _)) rfl ?_;rw[HZ.o];exact C81.o.fin
   ·have hb87p:=((C81.o.pk.cell 12).trans (bO _ _)).trans (show _=some (Value.bool true) by rw[hb87])
    go_wp2_with fail
    refine(QW gc a78 t e79 _ C81.o.cur).mono ?_;rintro e y88 ⟨rfl,hc,hm⟩;obtain⟨S89,a90,e91,HS96⟩:∃(S:ByteArray) (a:Nat) (e:Int),rbC t a78 e79=(S,a,e):=⟨_,_,_,rfl⟩;rw[HS96]at hc⊢;simp only at hc⊢
    replace HS96:=aa HS96
    have C92:=aa (C81.o.turn hc hm);have C93:=aa (C92.o.set 13 (.string S89) (p':={(PV85:Pk)with pass:=S89}) rfl ⟨rfl,rfl,rfl,rfl⟩);have fx:=C92.o.pk.free 13;have px:=(C92.o.pk.cell 13).trans (bZ _ _)
    clear hc hm;obtain⟨Y94,hY95⟩:∃Y,y88.setCell ⟨w.heap.size+1,13,none⟩ (.string S89)=Y:=⟨_,rfl⟩;rw[hY95]at C93;obtain⟨PV97,hPV98⟩:∃P:Pk,{(PV85:Pk)with pass:=S89}=P:=⟨_,rfl⟩;rw[hPV98]at C93
    replace hPV98:=aa hPV98
    have HZ:Hid (RR=(PV97,a90,e91)):=aa (by rw[HQ63.o];unfold rc4;rw[if_pos hb87];simp only;rw[HS96.o,<-hPV98.out]);have hl:=cf C93.o.pk;have hst:=aW C93.o.res;go_wp2;refine av (fz rfl _ rfl (cO C93.o.res _ _)) rfl ?_;rw[HZ.o];exact C93.o.fin
end
section
attribute [local go_sem ↓] bD bF bH bI bu
attribute [local go_sem] bc aD bh bg bK bJ bd aY be aO ax cI dC dB dt dj di dA dr dp dn bW co bO bZ bX cz cy cw cu ct cC cn bS bP bR
theorem Tq(t:ByteArray)(a:Nat)(e:Int)(ha:a<=t.size):(rtC t a e).1.size<=65535/\(rtC t a e).2.1<=t.size:=⟨(Fr ha).2,(Fr ha).1⟩
theorem TM(t:ByteArray)(a:Nat)(e:Int)(ha:a<=t.size):(rbC t a e).1.size<=65535:=(Sn ha).2
theorem TN(t:ByteArray)(a:Nat)(e:Int)(ha:a<=t.size):(rbC t a e).2.1<=t.size:=(Sn ha).1
theorem TV{v:Int}{t:ByteArray}(ht:t.size<=140737488351232):RdOk t (rc1 v t):=by
 have h0:(aH t 0 0 6).2.1<=t.size:=dy (ag _) _ _;have h1:(cnV v t).1<=t.size:=dy h0 _ _;have h2:(cnF v t).2.1<=t.size:=dy h1 _ _;have h3:(cnK v t).2.1<=t.size:=dy h2 _ _;have h4:(cnP v t).2.1<=t.size:=qe h3;have h5:=Tq t (cnP v t).2.1 (cnP v t).2.2 h4;have h6:(∀p∈(cnP v t).1,ea p)/\(cnP v t).1.length<=1000:=qg ht;have hc:(rcT v t).1.size<=65535:=h5.1;exact⟨⟨fun _ h=>(nomatch h),h6.1,fun _ h=>(nomatch h),⟨ag _,ag _,aC hc (by decide),ag _,ag _,ag _,ag _⟩,ag _,ag _,ag _,aC h6.2 (by decide)⟩,h5.2⟩
theorem TU{v:Int}{t:ByteArray}(ht:t.size<=140737488351232){r:Pk×Nat×Int}(g:RdOk t r):RdOk t (rc2 v t r):=by
 unfold rc2;split
 ·have h1:(RV v t r.2.1 r.2.2).2.1<=t.size:=qe g.le;have h2:=Tq t _ (RV v t r.2.1 r.2.2).2.2 h1;have h3:(Sm v t r.2.1 r.2.2).1.size<=65535:=TM t _ _ h2.2;have h4:(Sm v t r.2.1 r.2.2).2.1<=t.size:=TN t _ _ h2.2;have h5:(∀p∈(RV v t r.2.1 r.2.2).1,ea p)/\(RV v t r.2.1 r.2.2).1.length<=1000:=qg ht;have hc:(SE v t r.2.1 r.2.2).1.size<=65535:=h2.1;have hg:=g.ok.texts;exact⟨⟨h5.1,g.ok.props,g.ok.topics,⟨hg.1,hg.2.1,hg.2.2.1,hg.2.2.2.1,hg.2.2.2.2.1,aC hc (by decide),aC h3 (by decide)⟩,aC h5.2 (by decide),g.ok.lens.2⟩,h4⟩
 ·exact g
theorem TS{t:ByteArray}{r:Pk×Nat×Int}(g:RdOk t r):RdOk t (rc3 t r):=by
 unfold rc3;split
 ·have h2:=Tq t r.2.1 r.2.2 g.le;have hg:=g.ok.texts;exact⟨⟨g.ok.wp,g.ok.props,g.ok.topics,⟨hg.1,hg.2.1,hg.2.2.1,aC h2.1 (by decide),hg.2.2.2.2.1,hg.2.2.2.2.2⟩,g.ok.lens⟩,h2.2⟩
 ·exact g
theorem TR{t:ByteArray}{r:Pk×Nat×Int}(g:RdOk t r):RdOk t (rc4 t r):=by
 unfold rc4;split
 ·have h2:=TM t r.2.1 r.2.2 g.le;have hg:=g.ok.texts;exact⟨⟨g.ok.wp,g.ok.props,g.ok.topics,⟨hg.1,hg.2.1,hg.2.2.1,hg.2.2.2.1,aC h2 (by decide),hg.2.2.2.2.2⟩,g.ok.lens⟩,TN t _ _ g.le⟩
 ·exact g
theorem Td{v:Int}{t:ByteArray}(ht:t.size<=140737488351232):RdOk t (Rv v t):=TR (TS (TU ht (TV ht)))
theorem SP{v:Int}{t:ByteArray}{r:Pk×Nat×Int}(h:r.2.1<=t.size):Qx r.1 t r.2.1 r.2.2 (eR v r.1)=jT v t r:=by
 have e1:(if r.2.2=0/\r.2.1<t.size then 5 else r.2.2)=oV t r:=by
  unfold oV fh
  by_cases h0:r.2.2=0
  ·by_cases hl:r.2.1<t.size
   ·rw[if_pos ⟨h0,hl⟩,ae (by omega),if_pos h0]
   ·rw[ae (fun y=>hl y.2),if_pos (by omega)]
  ·rw[ae (fun y=>h0 y.1),ae h0];split<;>rfl
 unfold Qx QE jT;rw[e1]
 by_cases hz:oV t r=0
 ·rw[if_pos hz,ae (show ¬(oV t r≠0)from fun y=>y hz)]
 ·rw[ae hz,if_pos hz,if_pos hz]
structure RQ (w:World) (gc gp:Nat) (p:Pk) (h:Hs) (t:ByteArray) (a:Nat) (e:Int) (x:World):Prop where
 kept:Below w.heap.size w x
 res:Bk x w.heap.size PkT (pkC pk0 hs0)
 pk:Bk x gp PkT (pkC p h)
 into:PkIn x x.heap.size p h
 flat:p.codes=[]/\p.filters=[]
 cur:IC x gc t a e
 ne:w.heap.size<gc/\gc<gp
section
variable {w x y:World} {gc gp:Nat} {p p':Pk} {h h':Hs} {t:ByteArray} {a a':Nat} {e e':Int}
theorem RQ.below(c:RQ w gc gp p h t a e x)(hb:Below x.heap.size x y):RQ w gc gp p h t a e y:=
 ⟨c.kept.trans (hb.mono c.kept.size),c.res.below hb c.res.lt,c.pk.below hb c.pk.lt,c.into.next hb,c.flat,c.cur.below hb,c.ne⟩
theorem RQ.drewN(c:RQ w gc gp p h t a e x)(n:Nat):RQ w gc gp p h t a e (x.drewN n):=c.below (aV (aq _ _) n)
theorem RQ.turn(c:RQ w gc gp p h t a e x)(hc:IC y gc t a' e')(hm:x.grownBy y (some gc)):RQ w gc gp p h t a' e' y:=
 ⟨dw c.kept hm c.kept.size (pf c.ne.1),c.res.mods (S:=fun z=>z=gc) (Mods.of_grown hm rfl) (by have:=c.ne;omega),c.pk.mods (S:=fun z=>z=gc) (Mods.of_grown hm rfl) (by have:=c.ne;omega),c.into.blk c.flat.1 c.flat.2 c.cur.1 (Io _ _ _) hm,c.flat,hc,c.ne⟩
theorem RQ.put(c:RQ w gc gp p h t a e x)(hi:PkIn x x.heap.size p' h')(hf:p'.codes=[]/\p'.filters=[]):RQ w gc gp p' h' t a e (dE x gp p' h'):=by
 have hm:=cJ x gp p' h';exact⟨bT c.kept c.kept.size (by have:=c.ne;omega) _ _,c.res.mods (S:=fun z=>z=gp) (Mods.of_grown hm rfl) (by have:=c.ne;omega),cO c.pk _ _,hi.blk hf.1 hf.2 c.pk (dY _ _) hm,hf,⟨c.cur.1.mods (S:=fun z=>z=gp) (Mods.of_grown hm rfl) (by have:=c.ne;omega),c.cur.2⟩,c.ne⟩
end
end
section
attribute [local go_sem ↓] bD bF bH bI bu
attribute [local go_sem] bc aD bh bg bK bJ bd aY be aO ax cI dC dB dt dj di dA dr dp dn bW co bO bZ bX cz cy cw cu ct cC cn bS bP bR
section
variable {w x y:World} {gc gp:Nat} {p:Pk} {h:Hs} {t:ByteArray} {a:Nat} {e:Int}
theorem RQ.stay(c:RQ w gc gp p h t a e x)(hm:Mods (fun z=>z=gc) x y):PkIn y y.heap.size p h:=c.into.blk c.flat.1 c.flat.2 c.cur.1 (Io _ _ _) hm.grown
theorem RQ.done{r:Pk×Int}{kk:Hs}(c:RQ w gc gp p h t a e x)(hm:x.grownBy y (some gc))(hst:∀z,y.grownBy z (some w.heap.size)->PkIn z z.heap.size r.1 kk):
  Below w.heap.size w (dE y w.heap.size r.1 kk)/\Bk (dE y w.heap.size r.1 kk) w.heap.size PkT (pkC r.1 kk)/\PkIn (dE y w.heap.size r.1 kk) (dE y w.heap.size r.1 kk).heap.size r.1 kk:=
 ⟨bT (dw c.kept hm c.kept.size (pf c.ne.1)) (aC c.kept.size hm.size) (ac _) _ _,cO (c.res.mods (S:=fun z=>z=gc) (Mods.of_grown hm rfl) (by have:=c.ne;omega)) _ _,hst _ (cJ _ _ _ _)⟩
end
theorem Sh(k:Int)(b:Bool)(c:Int)(w:World):(qP #[(0,.int .i64 k),(16,.bool b),(17,.int .i64 c)]).run prog w= .ok (pkV {pk0 with kind:=k,session:=b,code:=c} hs0) w:=by kernel_rfl
theorem Tt(w:World)(B:Nat)(b:Bool)(c:Int):PkIn w B {pk0 with kind:=2,session:=b,code:=c} hs0:=⟨Rd.nil _ _ _ _,Rd.nil _ _ _ _,Rd.nil _ _ _ _,Rd.nil _ _ _ _,ag _,ag _,ag _,ag _⟩
theorem RQ.setP{w x:World}{gc gp:Nat}{p:Pk}{h:Hs}{t:ByteArray}{a:Nat}{e:Int}(c:RQ w gc gp p h t a e x){A:Option Addr}{n:Nat}{l:List Pr}(hr:Rd x x.heap.size 4 A l.length (prs l))(hn:l.length<=n):
  RQ w gc gp {p with props:=l} {h with props:=⟨A,n⟩} t a e (x.setCell ⟨gp,24,none⟩ (.slice A l.length n)):=by
 have hm:=cP x gp 24 (.slice A l.length n);have:=c.into.blk c.flat.1 c.flat.2 c.pk (dY _ _) hm;exact⟨dw c.kept hm c.kept.size (by have:=c.ne;omega),c.res.other (by have:=c.ne;simp;omega) _,c.pk.upd 24 _ rfl,
  ⟨this.wp,this.codes,this.filters,(hr.other c.pk (dY _ _) hm (ac _)).wider hm.size,this.caps.1,this.caps.2.1,this.caps.2.2.1,hn⟩,c.flat,⟨c.cur.1.other (by have:=c.ne;simp;omega) _,c.cur.2⟩,c.ne⟩
theorem Sl(v k:Int)(s:ByteArray)(w:World)(hs:s.size<=140737488351232):
  Calls prog 147 #[.int .i64 v,.int .i64 k,.string s] w (mu (iB v k s) w):=by
 have HS0:=aa hs;have HB0:=aa ((aq w.heap.size w).alloc (ac _) (.cells (pkC pk0 hs0) PkT));have HR0:=aa (Bk.fresh w PkT (pkC pk0 hs0));have hst0:=aW HR0.o;have HE:Hid (iB v k s=if ba v=false\/gm k=false then(pk0,2)else jT v s (if k=1 then jS v s else lL v s)):=aa rfl;clear hs;go_enter func147,ntmps147
 go_wp2_with fail
 refine(pS v _).mono ?_;rintro e w1 ⟨rfl,rfl⟩;cases hk:ba v
 ·have HX:Hid (iB v k s=(pk0,2)):=aa (by rw[HE.o,if_pos (.inl hk)]);clear hk;go_wp2;refine av (aI rfl _ rfl (cO HR0.o _ _)) rfl ?_;exact cL HX.o (bT HB0.o HB0.o.size (ac _) _ _)
 have HV:Hid (v=4\/v=5):=aa (aR (show decide (v=4\/v=5)=true from hk));cases ho:gm k
 ·have HX:Hid (iB v k s=(pk0,2)):=aa (by rw[HE.o,if_pos (.inr ho)]);have n1:(k !=1)=true:=aA.2 (fun y=>Gy ho (.inl y));have n2:(k !=2)=true:=aA.2 (fun y=>Gy ho (.inr y));clear hk ho;go_wp2;refine av (aI rfl _ rfl (cO HR0.o _ _)) rfl ?_;exact cL HX.o (bT HB0.o HB0.o.size (ac _) _ _)
 have HO:=aa (aR ho);have HF:Hid (iB v k s=jT v s (if k=1 then Rv v s else lL v s)):=aa (Tx hk ho);clear hk ho hst0 HE
 by_cases hk1:k=1
 ·have e1:(k==1)=true:=aK.2 hk1;have n1:(k !=1)=false:=by simp[hk1]
  have HOK:=aa (Td (v:=v) HS0.o).ok;have HRR:Hid (iB v k s=Qx (Rv v s).1 s (Rv v s).2.1 (Rv v s).2.2 (eR v (Rv v s).1)):=aa (by rw[HF.o,if_pos hk1,SP (Td HS0.o).le]);clear hk1
  go_wp2_with fail
  refine(QN s _ (by have:=HS0.o;omega)).mono ?_;rintro e w1 ⟨rfl,hcu,hb⟩;have hgc:(w.alloc (.cells (pkC pk0 hs0) PkT)).heap.size=w.heap.size+1:=by simp
  rw[hgc]at hcu⊢;have HZ:=aa hcu.lt;have I0:Hid (RQ w (w.heap.size+1) w1.heap.size pk0 hs0 s 0 0 (w1.alloc (.cells (pkC pk0 hs0) PkT))):=aa
   ⟨(HB0.o.trans (hb.mono HB0.o.size)).alloc (HB0.o.trans (hb.mono HB0.o.size)).size _,(HR0.o.below hb HR0.o.lt).alloc _,Bk.fresh w1 PkT _,wM _ _,⟨rfl,rfl⟩,hcu.below ((aq _ _).alloc (ac _) _),by omega,HZ.o⟩
  clear hcu hb hgc HB0 HR0 HZ
  go_wp2_with fail
  refine(RG (w.heap.size+1) s v _ I0.o.cur HS0.o HV.o).mono ?_;rintro e y ⟨kq,rfl,hi,hf,hc,hm⟩;generalize Rv v s=r at*;obtain⟨P,a,e⟩:=r;simp only at hi hf hc HOK HRR⊢;have I1:=aa (I0.o.turn hc hm);have I2:=aa (I1.o.put hi hf);have hst:=aW I1.o.pk;clear hi hf hc hm I0;have HS:=cf (I2.o.pk.drewN 1)
  go_wp2_with fail
  refine je (fun w'=>(kZ (.pointer (some ⟨w1.heap.size,0,none⟩))).run prog w'= .ok (pkV (P) kq) w') [5] (by kernel_rfl) ?_;refine Uo (i:=0) (v:=?vq3_0) [5] rfl (Or.inl ⟨by rfl,?hq3_0⟩) HS ?rq3_0
  case hq3_0=>intro w' hSw;(try dsimp only at hSw);go_simp;try with_reducible rfl
  refine Uo (i:=1) (v:=?vq3_1) [5] rfl (Or.inl ⟨by rfl,?hq3_1⟩) HS ?rq3_1
  case hq3_1=>intro w' hSw;(try dsimp only at hSw);go_simp;try with_reducible rfl
  refine Uo (i:=2) (v:=?vq3_2) [4,5] rfl (Or.inl ⟨by rfl,?hq3_2⟩) HS ?rq3_2
  case hq3_2=>intro w' hSw;(try dsimp only at hSw);go_simp;try with_reducible rfl
  refine Uo (i:=3) (v:=?vq3_3) [4,5] rfl (Or.inl ⟨by rfl,?hq3_3⟩) HS ?rq3_3
  case hq3_3=>intro w' hSw;(try dsimp only at hSw);go_simp;try with_reducible rfl
  refine Up 4 rfl (fun K hK=>?_);go_simp
  go_at_call 181
  refine(Ic v P kq _ (I2.o.drewN 1).into HOK.o).mono ?_;rintro e' z1 ⟨rfl,hb⟩;have J1:=aa ((I2.o.drewN 1).below hb);clear hb HS
  have HS:=cf J1.o.pk;go_simp;refine hK.out _ _ (fun _=>HS) ?_;clear hK K;refine Up 5 rfl (fun K hK=>?_);go_simp
  go_at_call 206
  refine(QF (w.heap.size+1) a s e (eR v P) (P) kq _ J1.o.cur (fun y hm=>J1.o.stay hm)).mono ?_;rintro e' z2 ⟨kk,rfl,hi,hm⟩;go_simp;refine hK.out _ _ (fun hn=>absurd (hn 5 (by simp)) (by decide)) (mc (d:=5) (by simp) _ _ _ _ (by kernel_rfl) ?_);clear hK K HS;have HRL:=aa (QI (p:=P) (t:=s) (a:=a) (e:=e) (x:=eR v P) J1.o.flat.1 J1.o.flat.2);obtain⟨R,hR⟩:∃R,Qx P s a e (eR v P)=R:=⟨_,rfl⟩;rw[hR]at hi HRR HRL⊢;clear hR;have HST:Hid (∀y,z2.grownBy y (some w.heap.size)->PkIn y y.heap.size R.1 kk):=aa (fun y hy=>PkIn.other_blk hi HRL.o.1 HRL.o.2 (J1.o.res.mods (S:=fun z=>z=w.heap.size+1) (Mods.of_grown hm rfl) (by omega)) (dY _ _) hy);have HFD:=aa (J1.o.done (r:=R) hm HST.o);have hst:=aW (J1.o.res.mods (S:=fun z=>z=w.heap.size+1) (Mods.of_grown hm rfl) (by omega));refine Qw (i:=6) (v:=?vq3_6) rfl (by kernel_rfl) (by kernel_rfl) (by kernel_rfl) (fun _ _ _ h=>h) (Or.inl ⟨by rfl,?hq3_6⟩) ?rq3_6
  case hq3_6=>intro w';go_simp;try with_reducible rfl
  refine Qw (i:=7) (v:=?vq3_7) rfl (by kernel_rfl) (by kernel_rfl) (by kernel_rfl) (fun _ _ _ h=>h) (Or.inl ⟨by rfl,?hq3_7⟩) ?rq3_7
  case hq3_7=>intro w';go_simp;try with_reducible rfl
  refine Uq 8 rfl (fun K hK=>?_);go_simp;refine hK.out _ _ ?_;clear hK K;refine Uq 9 rfl (fun K hK=>?_);go_simp;refine hK.out _ _ ?_;clear hK K;refine QB (by kernel_rfl) ?_ _;go_wp2;refine av (aI rfl _ rfl HFD.o.2.1) rfl ?_;rw[HRR.o];exact⟨kk,rfl,HFD.o.2.2,HFD.o.1⟩
 ·have hk2:k=2:=HO.o.resolve_left hk1;have HF2:Hid (iB v k s=jT v s (lL v s)):=aa (HF.o.trans (by rw[ae hk1]));clear HF HO hk1;subst hk2;have HOK:=aa (yM (v:=v) HS0.o).ok;have HRR:Hid (iB v 2 s=Qx (lL v s).1 s (lL v s).2.1 (lL v s).2.2 (eR v (lL v s).1)):=aa (by rw[HF2.o,SP (yM HS0.o).le]);clear HF2
  go_wp2_with fail
  refine(QN s _ (by have:=HS0.o;omega)).mono ?_;rintro e w1 ⟨rfl,hcu,hb⟩;have hgc:(w.alloc (.cells (pkC pk0 hs0) PkT)).heap.size=w.heap.size+1:=by simp
  rw[hgc]at hcu⊢;have HZ:=aa hcu.lt;have I0:Hid (RQ w (w.heap.size+1) w1.heap.size pk0 hs0 s 0 0 (w1.alloc (.cells (pkC pk0 hs0) PkT))):=aa
   ⟨(HB0.o.trans (hb.mono HB0.o.size)).alloc (HB0.o.trans (hb.mono HB0.o.size)).size _,(HR0.o.below hb HR0.o.lt).alloc _,Bk.fresh w1 PkT _,wM _ _,⟨rfl,rfl⟩,hcu.below ((aq _ _).alloc (ac _) _),by omega,HZ.o⟩
  clear hcu hb hgc HB0 HR0 HZ
  go_wp2_with fail
  refine(Qz (w.heap.size+1) 0 s 0 1 _ I0.o.cur (by decide)).mono ?_;rintro e' y1 ⟨rfl,hc,hm⟩;have I1:=aa (I0.o.turn hc hm);have HF1:Hid (caF s=(br s 0 0 1,(aH s 0 0 1).2.1,if br s 0 0 1<=1 then(aH s 0 0 1).2.2 else fh (aH s 0 0 1).2.2 7)):=aa rfl;generalize br s 0 0 1=n0 at*;generalize (aH s 0 0 1).2.1=a0 at*;generalize (aH s 0 0 1).2.2=e0 at*;clear hc hm I0;obtain⟨bs,hbs⟩:∃b,((n0:Int)==1)=b:=⟨_,rfl⟩;have HBS:Hid (decide (n0=1)=bs):=aa (by rw[<-hbs,eG,cH,aK];omega)
  by_cases hq:n0<=1
  ·have HF0:Hid (caF s=(n0,a0,e0)):=aa (by rw[HF1.o,if_pos hq]);have dq:¬1<n0:=by omega
   have dq':(n0:Int)<=1:=by omega
   clear hq HF1
   go_wp2_with fail
   refine(Qz (w.heap.size+1) a0 s e0 1 _ I1.o.cur (by decide)).mono ?_;rintro e' y2 ⟨rfl,hc,hm⟩;have I3:=aa (I1.o.turn hc hm);have HC0:Hid (caC s=(br s a0 e0 1,(aH s a0 e0 1).2.1,(aH s a0 e0 1).2.2)):=aa (by unfold caC;rw[HF0.o]);have HCL:=aa (iV s a0 e0);generalize br s a0 e0 1=c0 at*;generalize (aH s a0 e0 1).2.1=a1 at*;generalize (aH s a0 e0 1).2.2=e1 at*;have hwc:IntKind.i64.wrap (c0:Int)=(c0:Int):=by rw[aQ];have:=HCL.o;omega
   have hbd:=Sh 2 bs (c0:Int);have I4:=aa (I3.o.put (p':={pk0 with kind:=2,session:=bs,code:=(c0:Int)}) (h':=hs0) (Tt _ _ _ _) ⟨rfl,rfl⟩);have hst:=aW I3.o.pk;clear hc hm;obtain⟨Y,hY⟩:∃Y,dE y2 w1.heap.size {pk0 with kind:=2,session:=bs,code:=(c0:Int)} hs0=Y:=⟨_,rfl⟩;rw[hY]at I4
   go_wp2_with fail
   clear hst hbd hwc hbs;refine(QD v 2 (w.heap.size+1) a1 s e1 _ I4.o.cur HS0.o).mono ?_;rintro e' y ⟨A,c,rfl,hlc,hr,hc,hm⟩;rw[Ro]at hlc hr hc⊢;have HRD:Hid (lL v s=(Ds n0 c0 (fv v 2 s a1 e1).1,(fv v 2 s a1 e1).2.1,(fv v 2 s a1 e1).2.2)):=aa (by unfold lL caP;rw[HC0.o,HF0.o]);generalize fv v 2 s a1 e1=r at*;obtain⟨l,a,e⟩:=r;simp only at hlc hr hc HRD⊢;rw[HRD.o]at HRR HOK;simp only at HRR HOK;have I5:=aa (I4.o.turn hc hm);have I2':=aa (I5.o.setP hr hlc);have f24:=I5.o.pk.free 24;have p24:=(I5.o.pk.cell 24).trans (bR _ _)
   have HPP:Hid (({pk0 with kind:=2,session:=bs,code:=(c0:Int),props:=l}:Pk)=Ds n0 c0 l):=aa (by rw[<-HBS.o];rfl);rw[HPP.o]at I2';obtain⟨P,hP⟩:∃P,Ds n0 c0 l=P:=⟨_,rfl⟩;obtain⟨kq,hkq⟩:∃K:Hs,{hs0 with props:=⟨A,c⟩}=K:=⟨_,rfl⟩;rw[hP,hkq]at I2';rw[hP]at HRR HOK;clear hlc hr hc hm hP hkq;have I2:=I2';clear I2';obtain⟨Z,hZ⟩:∃Z,y.setCell ⟨w1.heap.size,24,none⟩ (.slice A l.length c)=Z:=⟨_,rfl⟩;rw[hZ]at I2;have HS:=cf (I2.o.pk.drewN 1)
   go_wp2_with fail
   refine je (fun w'=>(kZ (.pointer (some ⟨w1.heap.size,0,none⟩))).run prog w'= .ok (pkV (P) kq) w') [5] (by kernel_rfl) ?_;refine Uo (i:=0) (v:=?vq1_0) [5] rfl (Or.inl ⟨by rfl,?hq1_0⟩) HS ?rq1_0
   case hq1_0=>intro w' hSw;(try dsimp only at hSw);go_simp;try with_reducible rfl
   refine Uo (i:=1) (v:=?vq1_1) [5] rfl (Or.inl ⟨by rfl,?hq1_1⟩) HS ?rq1_1
   case hq1_1=>intro w' hSw;(try dsimp only at hSw);go_simp;try with_reducible rfl
   refine Uo (i:=2) (v:=?vq1_2) [4,5] rfl (Or.inl ⟨by rfl,?hq1_2⟩) HS ?rq1_2
   case hq1_2=>intro w' hSw;(try dsimp only at hSw);go_simp;try with_reducible rfl
   refine Uo (i:=3) (v:=?vq1_3) [4,5] rfl (Or.inl ⟨by rfl,?hq1_3⟩) HS ?rq1_3
   case hq1_3=>intro w' hSw;(try dsimp only at hSw);go_simp;try with_reducible rfl
   refine Up 4 rfl (fun K hK=>?_);go_simp
   go_at_call 181
   refine(Ic v P kq _ (I2.o.drewN 1).into HOK.o).mono ?_;rintro e' z1 ⟨rfl,hb⟩;have J1:=aa ((I2.o.drewN 1).below hb);clear hb HS
   have HS:=cf J1.o.pk;go_simp;refine hK.out _ _ (fun _=>HS) ?_;clear hK K;refine Up 5 rfl (fun K hK=>?_);go_simp
   go_at_call 206
   refine(QF (w.heap.size+1) a s e (eR v P) (P) kq _ J1.o.cur (fun y hm=>J1.o.stay hm)).mono ?_;rintro e' z2 ⟨kk,rfl,hi,hm⟩;go_simp;refine hK.out _ _ (fun hn=>absurd (hn 5 (by simp)) (by decide)) (mc (d:=5) (by simp) _ _ _ _ (by kernel_rfl) ?_);clear hK K HS;have HRL:=aa (QI (p:=P) (t:=s) (a:=a) (e:=e) (x:=eR v P) J1.o.flat.1 J1.o.flat.2);obtain⟨R,hR⟩:∃R,Qx P s a e (eR v P)=R:=⟨_,rfl⟩;rw[hR]at hi HRR HRL⊢;clear hR;have HST:Hid (∀y,z2.grownBy y (some w.heap.size)->PkIn y y.heap.size R.1 kk):=aa (fun y hy=>PkIn.other_blk hi HRL.o.1 HRL.o.2 (J1.o.res.mods (S:=fun z=>z=w.heap.size+1) (Mods.of_grown hm rfl) (by omega)) (dY _ _) hy);have HFD:=aa (J1.o.done (r:=R) hm HST.o);have hst:=aW (J1.o.res.mods (S:=fun z=>z=w.heap.size+1) (Mods.of_grown hm rfl) (by omega));refine Qw (i:=6) (v:=?vq1_6) rfl (by kernel_rfl) (by kernel_rfl) (by kernel_rfl) (fun _ _ _ h=>h) (Or.inl ⟨by rfl,?hq1_6⟩) ?rq1_6
   case hq1_6=>intro w';go_simp;try with_reducible rfl
   refine Qw (i:=7) (v:=?vq1_7) rfl (by kernel_rfl) (by kernel_rfl) (by kernel_rfl) (fun _ _ _ h=>h) (Or.inl ⟨by rfl,?hq1_7⟩) ?rq1_7
   case hq1_7=>intro w';go_simp;try with_reducible rfl
   refine Uq 8 rfl (fun K hK=>?_);go_simp;refine hK.out _ _ ?_;clear hK K;refine Uq 9 rfl (fun K hK=>?_);go_simp;refine hK.out _ _ ?_;clear hK K;refine QB (by kernel_rfl) ?_ _;go_wp2;refine av (aI rfl _ rfl HFD.o.2.1) rfl ?_;rw[HRR.o];exact⟨kk,rfl,HFD.o.2.2,HFD.o.1⟩
  ·have HF0:Hid (caF s=(n0,a0,fh e0 7)):=aa (by rw[HF1.o,ae hq]);have dq:1<n0:=by omega
   have dq':(1:Int)<(n0:Int):=by omega
   clear hq HF1
   go_wp2_with fail
   refine(Qv (w.heap.size+1) a0 s e0 7 _ I1.o.cur).mono ?_;rintro e' yf ⟨rfl,hc,hm⟩;have IF':=aa (I1.o.turn hc hm);have IF:Hid (RQ w (w.heap.size+1) w1.heap.size pk0 hs0 s a0 (fh e0 7) yf):=IF';clear hc hm IF';generalize fh e0 7=ef at*
   go_wp2_with fail
   refine(Qz (w.heap.size+1) a0 s ef 1 _ IF.o.cur (by decide)).mono ?_;rintro e' y2 ⟨rfl,hc,hm⟩;have I3:=aa (IF.o.turn hc hm);have HC0:Hid (caC s=(br s a0 ef 1,(aH s a0 ef 1).2.1,(aH s a0 ef 1).2.2)):=aa (by unfold caC;rw[HF0.o]);have HCL:=aa (iV s a0 ef);generalize br s a0 ef 1=c0 at*;generalize (aH s a0 ef 1).2.1=a1 at*;generalize (aH s a0 ef 1).2.2=e1 at*;have hwc:IntKind.i64.wrap (c0:Int)=(c0:Int):=by rw[aQ];have:=HCL.o;omega
   have hbd:=Sh 2 bs (c0:Int);have I4:=aa (I3.o.put (p':={pk0 with kind:=2,session:=bs,code:=(c0:Int)}) (h':=hs0) (Tt _ _ _ _) ⟨rfl,rfl⟩);have hst:=aW I3.o.pk;clear hc hm;obtain⟨Y,hY⟩:∃Y,dE y2 w1.heap.size {pk0 with kind:=2,session:=bs,code:=(c0:Int)} hs0=Y:=⟨_,rfl⟩;rw[hY]at I4
   go_wp2_with fail
   clear hst hbd hwc hbs;refine(QD v 2 (w.heap.size+1) a1 s e1 _ I4.o.cur HS0.o).mono ?_;rintro e' y ⟨A,c,rfl,hlc,hr,hc,hm⟩;rw[Ro]at hlc hr hc⊢;have HRD:Hid (lL v s=(Ds n0 c0 (fv v 2 s a1 e1).1,(fv v 2 s a1 e1).2.1,(fv v 2 s a1 e1).2.2)):=aa (by unfold lL caP;rw[HC0.o,HF0.o]);generalize fv v 2 s a1 e1=r at*;obtain⟨l,a,e⟩:=r;simp only at hlc hr hc HRD⊢;rw[HRD.o]at HRR HOK;simp only at HRR HOK;have I5:=aa (I4.o.turn hc hm);have I2':=aa (I5.o.setP hr hlc);have f24:=I5.o.pk.free 24;have p24:=(I5.o.pk.cell 24).trans (bR _ _)
   have HPP:Hid (({pk0 with kind:=2,session:=bs,code:=(c0:Int),props:=l}:Pk)=Ds n0 c0 l):=aa (by rw[<-HBS.o];rfl);rw[HPP.o]at I2';obtain⟨P,hP⟩:∃P,Ds n0 c0 l=P:=⟨_,rfl⟩;obtain⟨kq,hkq⟩:∃K:Hs,{hs0 with props:=⟨A,c⟩}=K:=⟨_,rfl⟩;rw[hP,hkq]at I2';rw[hP]at HRR HOK;clear hlc hr hc hm hP hkq;have I2:=I2';clear I2';obtain⟨Z,hZ⟩:∃Z,y.setCell ⟨w1.heap.size,24,none⟩ (.slice A l.length c)=Z:=⟨_,rfl⟩;rw[hZ]at I2;have HS:=cf (I2.o.pk.drewN 1)
   go_wp2_with fail
   refine je (fun w'=>(kZ (.pointer (some ⟨w1.heap.size,0,none⟩))).run prog w'= .ok (pkV (P) kq) w') [5] (by kernel_rfl) ?_;refine Uo (i:=0) (v:=?vq2_0) [5] rfl (Or.inl ⟨by rfl,?hq2_0⟩) HS ?rq2_0
   case hq2_0=>intro w' hSw;(try dsimp only at hSw);go_simp;try with_reducible rfl
   refine Uo (i:=1) (v:=?vq2_1) [5] rfl (Or.inl ⟨by rfl,?hq2_1⟩) HS ?rq2_1
   case hq2_1=>intro w' hSw;(try dsimp only at hSw);go_simp;try with_reducible rfl
   refine Uo (i:=2) (v:=?vq2_2) [4,5] rfl (Or.inl ⟨by rfl,?hq2_2⟩) HS ?rq2_2
   case hq2_2=>intro w' hSw;(try dsimp only at hSw);go_simp;try with_reducible rfl
   refine Uo (i:=3) (v:=?vq2_3) [4,5] rfl (Or.inl ⟨by rfl,?hq2_3⟩) HS ?rq2_3
   case hq2_3=>intro w' hSw;(try dsimp only at hSw);go_simp;try with_reducible rfl
   refine Up 4 rfl (fun K hK=>?_);go_simp
   go_at_call 181
   refine(Ic v P kq _ (I2.o.drewN 1).into HOK.o).mono ?_;rintro e' z1 ⟨rfl,hb⟩;have J1:=aa ((I2.o.drewN 1).below hb);clear hb HS
   have HS:=cf J1.o.pk;go_simp;refine hK.out _ _ (fun _=>HS) ?_;clear hK K;refine Up 5 rfl (fun K hK=>?_);go_simp
   go_at_call 206
   refine(QF (w.heap.size+1) a s e (eR v P) (P) kq _ J1.o.cur (fun y hm=>J1.o.stay hm)).mono ?_;rintro e' z2 ⟨kk,rfl,hi,hm⟩;go_simp;refine hK.out _ _ (fun hn=>absurd (hn 5 (by simp)) (by decide)) (mc (d:=5) (by simp) _ _ _ _ (by kernel_rfl) ?_);clear hK K HS;have HRL:=aa (QI (p:=P) (t:=s) (a:=a) (e:=e) (x:=eR v P) J1.o.flat.1 J1.o.flat.2);obtain⟨R,hR⟩:∃R,Qx P s a e (eR v P)=R:=⟨_,rfl⟩;rw[hR]at hi HRR HRL⊢;clear hR;have HST:Hid (∀y,z2.grownBy y (some w.heap.size)->PkIn y y.heap.size R.1 kk):=aa (fun y hy=>PkIn.other_blk hi HRL.o.1 HRL.o.2 (J1.o.res.mods (S:=fun z=>z=w.heap.size+1) (Mods.of_grown hm rfl) (by omega)) (dY _ _) hy);have HFD:=aa (J1.o.done (r:=R) hm HST.o);have hst:=aW (J1.o.res.mods (S:=fun z=>z=w.heap.size+1) (Mods.of_grown hm rfl) (by omega));refine Qw (i:=6) (v:=?vq2_6) rfl (by kernel_rfl) (by kernel_rfl) (by kernel_rfl) (fun _ _ _ h=>h) (Or.inl ⟨by rfl,?hq2_6⟩) ?rq2_6
   case hq2_6=>intro w';go_simp;try with_reducible rfl
   refine Qw (i:=7) (v:=?vq2_7) rfl (by kernel_rfl) (by kernel_rfl) (by kernel_rfl) (fun _ _ _ h=>h) (Or.inl ⟨by rfl,?hq2_7⟩) ?rq2_7
   case hq2_7=>intro w';go_simp;try with_reducible rfl
   refine Uq 8 rfl (fun K hK=>?_);go_simp;refine hK.out _ _ ?_;clear hK K;refine Uq 9 rfl (fun K hK=>?_);go_simp;refine hK.out _ _ ?_;clear hK K;refine QB (by kernel_rfl) ?_ _;go_wp2;refine av (aI rfl _ rfl HFD.o.2.1) rfl ?_;rw[HRR.o];exact⟨kk,rfl,HFD.o.2.2,HFD.o.1⟩
end
end Go.Proofs.YtbdgkkmbnahgiaaGreatDoor
